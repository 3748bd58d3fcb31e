/- The tied card of watershedlaw08.WordsCut. -/
import Derived.Test.YtmpgknemhmoboaaDoorWordsCut
import Derived.Test.YtmpgknemhmoboaaDoorCards
import Derived.Test.YtmpgknemhmoboaaDoorTie
import Derived.SevenTiedAt
namespace Go.Proofs.YtmpgknemhmoboaaDoor
open Go
theorem wordsCut_holds : Rows.WordsCutCardSaid :=
  Claim7.holds_tied_plain_at .later [] [.data, .pinned] true (true, "84ddf418180820da84ee3ebab072562501be3790a9143fe6efdc929ada186623") false
    wordsCut.over (fun _ h => by cases h) (by kernel_rfl) (fun _ h => by cases h) wordsCut_row_tie rfl ⟨rfl, rfl⟩ (by kernel_rfl) rfl
    (fun f fn hf hfn => by
      obtain rfl : f = 3 := Option.some.inj ((show Tryd.prog.funcNamed "watershed/watershedlaw08.WordsCut" = some 3 by kernel_rfl).symm.trans hf) |>.symm
      obtain rfl : fn = Tryd.f3 := (Option.some.inj (Tryd.func3.symm.trans hfn)).symm
      exact ⟨by kernel_rfl, fun j t ht => by
        rw [Tryd.params3] at ht
        have h3 : t = 9 := by
          rcases j with _ | j
          · exact (by simpa using ht.symm)
          · simp at ht
        subst h3
        exact (show Tryd.prog.wantsStandIn 9 = false by kernel_rfl)⟩)
    (by kernel_rfl)
#print axioms wordsCut_holds
end Go.Proofs.YtmpgknemhmoboaaDoor
