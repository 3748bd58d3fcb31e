/-
  DERIVED. GIVEN WITH THE SEED: THE CARDS: each row of YtmpgknemhmoboaaDoorRows.lean that lists a variable, with what it lists TIED to the program's text (the seventh form; the later family's looks); each row that meets fmt, with fmt's text TOLD by the authors' own Lean function (tested against real Go, not proved from fmt's source: count such statements apart). THE CARD IS WHAT COUNTS. Prove the row's statement (the work); the ties are given (YtmpgknemhmoboaaDoorTie.lean); close each card by the builder's one call (the guide's Derived/Test/ToyasCard.lean, 'card_holds'). Laid BY PROGRAM, IN A SANDBOX (cutbox-door.mjs). By AI agents, Wed Nov 11 2026. No macro, syntax, notation, axiom, sorry.
-/
import Derived.Test.YtmpgknemhmoboaaDoorRows
import GoSem.ClaimSeven
namespace Go.Proofs.YtmpgknemhmoboaaDoor
namespace Rows

/-- THE TIED CARD OF 'watershedlaw08.WordsCut'. -/
def wordsCutCard : Claim7 := { stood := { row := wordsCutRow, standIns := [], harness := (true, "84ddf418180820da84ee3ebab072562501be3790a9143fe6efdc929ada186623"), looks := false }, kinds := [], alts := [], laidByText := true, laidKinds := [.data, .pinned], laidTests := true, laidLooks := .later }
def WordsCutCardSaid : Prop := Claim7.holds Tryd.pinned (.plain (OpenSpec.ofChange wordsCutSpec)) wordsCutCard

/-- THE TIED CARD OF 'watershedlaw08.WordsJoin'. -/
def wordsJoinCard : Claim7 := { stood := { row := wordsJoinRow, standIns := [], harness := (true, "84ddf418180820da84ee3ebab072562501be3790a9143fe6efdc929ada186623"), looks := false }, kinds := [], alts := [], laidByText := true, laidKinds := [.data, .pinned], laidTests := true, laidLooks := .later }
def WordsJoinCardSaid : Prop := Claim7.holds Tryd.pinned (.plain (OpenSpec.ofChange wordsJoinSpec)) wordsJoinCard

/-- THE TIED CARD OF 'watershedlaw08.WordsBack'. -/
def wordsBackCard : Claim7 := { stood := { row := wordsBackRow, standIns := [], harness := (true, "84ddf418180820da84ee3ebab072562501be3790a9143fe6efdc929ada186623"), looks := false }, kinds := [], alts := [], laidByText := true, laidKinds := [.data, .pinned], laidTests := true, laidLooks := .later }
def WordsBackCardSaid : Prop := Claim7.holds Tryd.pinned (.plain (OpenSpec.ofChange wordsBackSpec)) wordsBackCard

/-- THE SECOND FORM's CARD OF 'watershedlaw08.WordsCut'. -/
def wordsCutUptoCard : Claim7 := { stood := { row := wordsCutUptoRow, standIns := [], harness := (true, "84ddf418180820da84ee3ebab072562501be3790a9143fe6efdc929ada186623"), looks := false }, kinds := [], alts := [], laidByText := true, laidKinds := [.data, .pinned], laidTests := true, laidLooks := .later }
def WordsCutUptoCardSaid : Prop := Claim7.holds Tryd.pinned (.plain (OpenSpec.upto wordsCutSpec)) wordsCutUptoCard

/-- THE SECOND FORM's CARD OF 'watershedlaw08.WordsJoin'. -/
def wordsJoinUptoCard : Claim7 := { stood := { row := wordsJoinUptoRow, standIns := [], harness := (true, "84ddf418180820da84ee3ebab072562501be3790a9143fe6efdc929ada186623"), looks := false }, kinds := [], alts := [], laidByText := true, laidKinds := [.data, .pinned], laidTests := true, laidLooks := .later }
def WordsJoinUptoCardSaid : Prop := Claim7.holds Tryd.pinned (.plain (OpenSpec.upto wordsJoinSpec)) wordsJoinUptoCard

/-- THE SECOND FORM's CARD OF 'watershedlaw08.WordsBack'. -/
def wordsBackUptoCard : Claim7 := { stood := { row := wordsBackUptoRow, standIns := [], harness := (true, "84ddf418180820da84ee3ebab072562501be3790a9143fe6efdc929ada186623"), looks := false }, kinds := [], alts := [], laidByText := true, laidKinds := [.data, .pinned], laidTests := true, laidLooks := .later }
def WordsBackUptoCardSaid : Prop := Claim7.holds Tryd.pinned (.plain (OpenSpec.upto wordsBackSpec)) wordsBackUptoCard
end Rows
end Go.Proofs.YtmpgknemhmoboaaDoor
