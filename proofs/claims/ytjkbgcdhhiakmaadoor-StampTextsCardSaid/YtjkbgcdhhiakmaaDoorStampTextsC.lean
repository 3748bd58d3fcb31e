/- The tied card of watershedlaw04.StampTexts. -/
import Derived.Test.YtjkbgcdhhiakmaaDoorStampTexts
import Derived.Test.YtjkbgcdhhiakmaaDoorCards
import Derived.Test.YtjkbgcdhhiakmaaDoorTie
import Derived.SevenTiedAt
namespace Go.Proofs.YtjkbgcdhhiakmaaDoor
open Go
theorem stampTexts_holds : Rows.StampTextsCardSaid :=
  Claim7.holds_tied_plain_at .later [] [.data, .pinned] true (true, "fbcec625c04670deb8b6dc8359919d7998c7cf4006d11adc0868822ec36cde3b") false
    stampTexts.over (fun _ h => by cases h) (by kernel_rfl) (fun _ h => by cases h) stampTexts_row_tie rfl ⟨rfl, rfl⟩ (by kernel_rfl) rfl
    (fun f fn hf hfn => by
      obtain rfl : f = 3 := Option.some.inj ((show Tryd.prog.funcNamed "watershed/watershedlaw04.StampTexts" = some 3 by kernel_rfl).symm.trans hf) |>.symm
      obtain rfl : fn = Tryd.f3 := (Option.some.inj (Tryd.func3.symm.trans hfn)).symm
      exact ⟨by kernel_rfl, fun j t ht => by
        rw [Tryd.params3] at ht
        have h3 : t = 25 ∨ t = 9 := by
          rcases j with _ | _ | j
          · exact Or.inl (by simpa using ht.symm)
          · exact Or.inr (by simpa using ht.symm)
          · simp at ht
        rcases h3 with rfl | rfl
        · exact (show Tryd.prog.wantsStandIn 25 = false by kernel_rfl)
        · exact (show Tryd.prog.wantsStandIn 9 = false by kernel_rfl)⟩)
    (by kernel_rfl)
#print axioms stampTexts_holds
end Go.Proofs.YtjkbgcdhhiakmaaDoor
