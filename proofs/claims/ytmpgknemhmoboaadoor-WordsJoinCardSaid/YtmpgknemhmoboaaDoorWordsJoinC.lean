/- The tied card of watershedlaw08.WordsJoin. -/
import Derived.Test.YtmpgknemhmoboaaDoorWordsJoin
import Derived.Test.YtmpgknemhmoboaaDoorCards
import Derived.Test.YtmpgknemhmoboaaDoorTie
import Derived.SevenTiedAt
namespace Go.Proofs.YtmpgknemhmoboaaDoor
open Go
theorem wordsJoin_holds : Rows.WordsJoinCardSaid :=
  Claim7.holds_tied_plain_at .later [] [.data, .pinned] true (true, "84ddf418180820da84ee3ebab072562501be3790a9143fe6efdc929ada186623") false
    wordsJoin.over (fun _ h => by cases h) (by kernel_rfl) (fun _ h => by cases h) wordsJoin_row_tie rfl ⟨rfl, rfl⟩ (by kernel_rfl) rfl
    (fun f fn hf hfn => by
      obtain rfl : f = 4 := Option.some.inj ((show Tryd.prog.funcNamed "watershed/watershedlaw08.WordsJoin" = some 4 by kernel_rfl).symm.trans hf) |>.symm
      obtain rfl : fn = Tryd.f4 := (Option.some.inj (Tryd.func4.symm.trans hfn)).symm
      exact ⟨by kernel_rfl, fun j t ht => by
        rw [Tryd.params4] at ht
        have h3 : t = 23 ∨ t = 3 := by
          rcases j with _ | _ | j
          · exact Or.inl (by simpa using ht.symm)
          · exact Or.inr (by simpa using ht.symm)
          · simp at ht
        rcases h3 with rfl | rfl
        · exact (show Tryd.prog.wantsStandIn 23 = false by kernel_rfl)
        · exact (show Tryd.prog.wantsStandIn 3 = false by kernel_rfl)⟩)
    (by kernel_rfl)
#print axioms wordsJoin_holds
end Go.Proofs.YtmpgknemhmoboaaDoor
