/- The tied card of watershedlaw04.StampBounds. -/
import Derived.Test.YtjkbgcdhhiakmaaDoorStampBounds
import Derived.Test.YtjkbgcdhhiakmaaDoorCards
import Derived.Test.YtjkbgcdhhiakmaaDoorTie
import Derived.SevenTiedAt
namespace Go.Proofs.YtjkbgcdhhiakmaaDoor
open Go
theorem stampBounds_holds : Rows.StampBoundsCardSaid :=
  Claim7.holds_tied_plain_at .later [] [.data, .pinned] true (true, "fbcec625c04670deb8b6dc8359919d7998c7cf4006d11adc0868822ec36cde3b") false
    stampBounds.over (fun _ h => by cases h) (by kernel_rfl) (fun _ h => by cases h) stampBounds_row_tie rfl ⟨rfl, rfl⟩ (by kernel_rfl) rfl
    (fun f fn hf hfn => by
      obtain rfl : f = 7 := Option.some.inj ((show Tryd.prog.funcNamed "watershed/watershedlaw04.StampBounds" = some 7 by kernel_rfl).symm.trans hf) |>.symm
      obtain rfl : fn = Tryd.f7 := (Option.some.inj (Tryd.func7.symm.trans hfn)).symm
      exact ⟨by kernel_rfl, fun j t ht => by
        rw [Tryd.params7] at ht
        have h3 : t = 25 := by
          rcases j with _ | _ | _ | j
          · simpa using ht.symm
          · simpa using ht.symm
          · simpa using ht.symm
          · simp at ht
        subst h3
        exact (show Tryd.prog.wantsStandIn 25 = false by kernel_rfl)⟩)
    (by kernel_rfl)
#print axioms stampBounds_holds
end Go.Proofs.YtjkbgcdhhiakmaaDoor
