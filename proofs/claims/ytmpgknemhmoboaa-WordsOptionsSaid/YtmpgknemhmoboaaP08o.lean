import Derived.Test.YtmpgknemhmoboaaQ08x
import Derived.Test.YtmpgknemhmoboaaPl
/- Plain: what stands behind a name, by the program and by the document. -/
namespace Go.Proofs.Ytmpgknemhmoboaa.P08
open Go.RowKit Go.Proofs.YtmpgknemhmoboaaW.PrintWords Go.Proofs.YtmpgknemhmoboaaW.PrintLast Go.Proofs.YtmpgknemhmoboaaW.PrintMore Go.Proofs.Ytmpgknemhmoboaa.Q08 Go.Proofs.Ytmpgknemhmoboaa.Pl Go.Proofs.Ytmpgknemhmoboaa.Ext

theorem law_l0 (n : ByteArray) (xs : List ByteArray) (hn : n.size ≤ 1000) (hx : xs.length ≤ 100) : ∀ (d : Nat) (k : Nat) (i : Int), 0 ≤ i → i + d = xs.length → d + 200 < k →
    watershedlaw08_WordsOptions.l0 k xs n i = some true
  | 0, k, i, h0, hd, hk => by
    obtain ⟨k, rfl⟩ : ∃ m, k = m + 1 := ⟨k - 1, by omega⟩
    simp only [watershedlaw08_WordsOptions.l0]
    have e1 : words_Option.f ([] ++ xs) n = some (C08.opt (n ++ ⟨#[61]⟩) xs) := words_Option_f xs n (by omega) (by omega)
    have e2 := watershedref08_Option_f xs n (by omega) (by omega)
    rw [if_neg (by omega), Option.bind_some, if_pos (by simp only [List.length_nil]; omega), e1, e2]
    simp
  | d + 1, k, i, h0, hd, hk => by
    obtain ⟨k, rfl⟩ : ∃ m, k = m + 1 := ⟨k - 1, by omega⟩
    have ih := law_l0 n xs hn hx d k (i + 1) (by omega) (by omega) (by omega)
    simp only [watershedlaw08_WordsOptions.l0]
    rw [if_pos (by omega), if_pos (by omega), w64 (by omega) (by omega), ih]
    split <;> rfl

theorem WordsOptions_pure (xs : List ByteArray) (n : ByteArray) : watershedlaw08_WordsOptions.f 1000 xs n = some true := by
  unfold watershedlaw08_WordsOptions.f
  by_cases c1 : (xs.length : Int) > 100
  · rw [if_pos c1]; rfl
  · rw [if_neg c1]
    by_cases c2 : (n.size : Int) > 1000
    · rw [decide_eq_true c2]; rfl
    · rw [decide_eq_false c2]
      show watershedlaw08_WordsOptions.j0 (999 + 1) xs n false = some true
      simp only [watershedlaw08_WordsOptions.j0]
      rw [if_neg (by simp)]
      exact law_l0 n xs (by omega) (by omega) xs.length 999 0 (by omega) (by omega) (by omega)
end Go.Proofs.Ytmpgknemhmoboaa.P08
