/-
  DERIVED. GIVEN WITH THE SEED: THE CARDS: each row of YtjkbgcdhhiakmaaDoorRows.lean that lists a variable, with what it lists TIED to the program's text (the seventh form; the later family's looks); each row that meets fmt, with fmt's text TOLD by the authors' own Lean function (tested against real Go, not proved from fmt's source: count such statements apart). THE CARD IS WHAT COUNTS. Prove the row's statement (the work); the ties are given (YtjkbgcdhhiakmaaDoorTie.lean); close each card by the builder's one call (the guide's Derived/Test/ToyasCard.lean, 'card_holds'). Laid BY PROGRAM, IN A SANDBOX (cutbox-door.mjs). By AI agents, Wed Nov 11 2026. No macro, syntax, notation, axiom, sorry.
-/
import Derived.Test.YtjkbgcdhhiakmaaDoorRows
import GoSem.ClaimSeven
namespace Go.Proofs.YtjkbgcdhhiakmaaDoor
namespace Rows

/-- THE TIED CARD OF 'watershedlaw04.StampTexts'. -/
def stampTextsCard : Claim7 := { stood := { row := stampTextsRow, standIns := [], harness := (true, "fbcec625c04670deb8b6dc8359919d7998c7cf4006d11adc0868822ec36cde3b"), looks := false }, kinds := [], alts := [], laidByText := true, laidKinds := [.data, .pinned], laidTests := true, laidLooks := .later }
def StampTextsCardSaid : Prop := Claim7.holds Tryd.pinned (.plain (OpenSpec.ofChange stampTextsSpec)) stampTextsCard

/-- THE TIED CARD OF 'watershedlaw04.StampOrder'. -/
def stampOrderCard : Claim7 := { stood := { row := stampOrderRow, standIns := [], harness := (true, "fbcec625c04670deb8b6dc8359919d7998c7cf4006d11adc0868822ec36cde3b"), looks := false }, kinds := [], alts := [], laidByText := true, laidKinds := [.data, .pinned], laidTests := true, laidLooks := .later }
def StampOrderCardSaid : Prop := Claim7.holds Tryd.pinned (.plain (OpenSpec.ofChange stampOrderSpec)) stampOrderCard

/-- THE TIED CARD OF 'watershedlaw04.StampAlong'. -/
def stampAlongCard : Claim7 := { stood := { row := stampAlongRow, standIns := [], harness := (true, "fbcec625c04670deb8b6dc8359919d7998c7cf4006d11adc0868822ec36cde3b"), looks := false }, kinds := [], alts := [], laidByText := true, laidKinds := [.data, .pinned], laidTests := true, laidLooks := .later }
def StampAlongCardSaid : Prop := Claim7.holds Tryd.pinned (.plain (OpenSpec.ofChange stampAlongSpec)) stampAlongCard

/-- THE TIED CARD OF 'watershedlaw04.StampBack'. -/
def stampBackCard : Claim7 := { stood := { row := stampBackRow, standIns := [], harness := (true, "fbcec625c04670deb8b6dc8359919d7998c7cf4006d11adc0868822ec36cde3b"), looks := false }, kinds := [], alts := [], laidByText := true, laidKinds := [.data, .pinned], laidTests := true, laidLooks := .later }
def StampBackCardSaid : Prop := Claim7.holds Tryd.pinned (.plain (OpenSpec.ofChange stampBackSpec)) stampBackCard

/-- THE TIED CARD OF 'watershedlaw04.StampBounds'. -/
def stampBoundsCard : Claim7 := { stood := { row := stampBoundsRow, standIns := [], harness := (true, "fbcec625c04670deb8b6dc8359919d7998c7cf4006d11adc0868822ec36cde3b"), looks := false }, kinds := [], alts := [], laidByText := true, laidKinds := [.data, .pinned], laidTests := true, laidLooks := .later }
def StampBoundsCardSaid : Prop := Claim7.holds Tryd.pinned (.plain (OpenSpec.ofChange stampBoundsSpec)) stampBoundsCard

/-- THE SECOND FORM's CARD OF 'watershedlaw04.StampTexts'. -/
def stampTextsUptoCard : Claim7 := { stood := { row := stampTextsUptoRow, standIns := [], harness := (true, "fbcec625c04670deb8b6dc8359919d7998c7cf4006d11adc0868822ec36cde3b"), looks := false }, kinds := [], alts := [], laidByText := true, laidKinds := [.data, .pinned], laidTests := true, laidLooks := .later }
def StampTextsUptoCardSaid : Prop := Claim7.holds Tryd.pinned (.plain (OpenSpec.upto stampTextsSpec)) stampTextsUptoCard

/-- THE SECOND FORM's CARD OF 'watershedlaw04.StampOrder'. -/
def stampOrderUptoCard : Claim7 := { stood := { row := stampOrderUptoRow, standIns := [], harness := (true, "fbcec625c04670deb8b6dc8359919d7998c7cf4006d11adc0868822ec36cde3b"), looks := false }, kinds := [], alts := [], laidByText := true, laidKinds := [.data, .pinned], laidTests := true, laidLooks := .later }
def StampOrderUptoCardSaid : Prop := Claim7.holds Tryd.pinned (.plain (OpenSpec.upto stampOrderSpec)) stampOrderUptoCard

/-- THE SECOND FORM's CARD OF 'watershedlaw04.StampAlong'. -/
def stampAlongUptoCard : Claim7 := { stood := { row := stampAlongUptoRow, standIns := [], harness := (true, "fbcec625c04670deb8b6dc8359919d7998c7cf4006d11adc0868822ec36cde3b"), looks := false }, kinds := [], alts := [], laidByText := true, laidKinds := [.data, .pinned], laidTests := true, laidLooks := .later }
def StampAlongUptoCardSaid : Prop := Claim7.holds Tryd.pinned (.plain (OpenSpec.upto stampAlongSpec)) stampAlongUptoCard

/-- THE SECOND FORM's CARD OF 'watershedlaw04.StampBack'. -/
def stampBackUptoCard : Claim7 := { stood := { row := stampBackUptoRow, standIns := [], harness := (true, "fbcec625c04670deb8b6dc8359919d7998c7cf4006d11adc0868822ec36cde3b"), looks := false }, kinds := [], alts := [], laidByText := true, laidKinds := [.data, .pinned], laidTests := true, laidLooks := .later }
def StampBackUptoCardSaid : Prop := Claim7.holds Tryd.pinned (.plain (OpenSpec.upto stampBackSpec)) stampBackUptoCard

/-- THE SECOND FORM's CARD OF 'watershedlaw04.StampBounds'. -/
def stampBoundsUptoCard : Claim7 := { stood := { row := stampBoundsUptoRow, standIns := [], harness := (true, "fbcec625c04670deb8b6dc8359919d7998c7cf4006d11adc0868822ec36cde3b"), looks := false }, kinds := [], alts := [], laidByText := true, laidKinds := [.data, .pinned], laidTests := true, laidLooks := .later }
def StampBoundsUptoCardSaid : Prop := Claim7.holds Tryd.pinned (.plain (OpenSpec.upto stampBoundsSpec)) stampBoundsUptoCard
end Rows
end Go.Proofs.YtjkbgcdhhiakmaaDoor
