/- The tied card of watershedlaw04.StampOrder. -/
import Derived.Test.YtjkbgcdhhiakmaaDoorStampOrder
import Derived.Test.YtjkbgcdhhiakmaaDoorCards
import Derived.Test.YtjkbgcdhhiakmaaDoorTie
import Derived.SevenTiedAt
namespace Go.Proofs.YtjkbgcdhhiakmaaDoor
open Go
theorem stampOrder_holds : Rows.StampOrderCardSaid :=
  Claim7.holds_tied_plain_at .later [] [.data, .pinned] true (true, "fbcec625c04670deb8b6dc8359919d7998c7cf4006d11adc0868822ec36cde3b") false
    stampOrder.over (fun _ h => by cases h) (by kernel_rfl) (fun _ h => by cases h) stampOrder_row_tie rfl ⟨rfl, rfl⟩ (by kernel_rfl) rfl
    (fun f fn hf hfn => by
      obtain rfl : f = 4 := Option.some.inj ((show Tryd.prog.funcNamed "watershed/watershedlaw04.StampOrder" = some 4 by kernel_rfl).symm.trans hf) |>.symm
      obtain rfl : fn = Tryd.f4 := (Option.some.inj (Tryd.func4.symm.trans hfn)).symm
      exact ⟨by kernel_rfl, fun j t ht => by
        rw [Tryd.params4] at ht
        have h3 : t = 25 := by
          rcases j with _ | _ | _ | j
          · exact (by simpa using ht.symm)
          · exact (by simpa using ht.symm)
          · exact (by simpa using ht.symm)
          · simp at ht
        subst h3
        exact (show Tryd.prog.wantsStandIn 25 = false by kernel_rfl)⟩)
    (by kernel_rfl)
#print axioms stampOrder_holds
end Go.Proofs.YtjkbgcdhhiakmaaDoor
