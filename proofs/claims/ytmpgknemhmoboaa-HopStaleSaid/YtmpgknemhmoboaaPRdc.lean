import Derived.Test.YtmpgknemhmoboaaQ17kx1
import Derived.Test.YtmpgknemhmoboaaPl
import Derived.Test.YtmpgknemhmoboaaM02
/- Plain: what the readers of bytes answer, the program's and the document's. -/
namespace Go.Proofs.Ytmpgknemhmoboaa.PRdc
open Go.RowKit Go.Proofs.YtmpgknemhmoboaaW.PrintWords Go.Proofs.YtmpgknemhmoboaaW.PrintLast Go.Proofs.YtmpgknemhmoboaaW.PrintMore Go.Proofs.Ytmpgknemhmoboaa.Q17k Go.Proofs.Ytmpgknemhmoboaa.Pl Go.Proofs.Ytmpgknemhmoboaa.Ext
open Go.Proofs.Ytmpgknemhmoboaa.M02 (numL numL_bad numL_last numL_more num_bits pow128_pos shl7 rdNum rdInt numL_range rdNum_range leb andNot128)

theorem shl64 {b x : Int} (h0 : 0 ≤ b) (h1 : b < 128) (hx0 : 0 ≤ x) (hx9 : x ≤ 9) (h9 : x = 9 → b ≤ 1) : shl .u64 b (7 * x) = b * 128 ^ x.toNat := by
  have := shl7 h0 h1 hx0 hx9 h9
  unfold shl
  rw [Nat.min_eq_left (by show (7 * x).toNat ≤ 64; omega)]
  exact this

theorem code_Num_f (s : ByteArray) (e : Int) (hs : s.size ≤ 9223372036854775807) : ∃ s', code_Reader_Num.f s e = some ((rdNum (bytesOf s) e).1, s', (rdNum (bytesOf s) e).2.2) ∧ bytesOf s' = (rdNum (bytesOf s) e).2.1 := by
  unfold code_Reader_Num.f rdNum
  by_cases c : e = 0
  · subst c
    have hr := numL_range (bytesOf s) 0 0 (by omega) (by omega) (by simp) (bytes_range s)
    rw [bytesOf_length] at hr
    rw [if_pos rfl, if_pos rfl, code_number_f s hs]
    simp only [Option.bind_some]
    rw [if_pos hr.2.2.1, if_pos (by omega)]
    refine ⟨_, rfl, ?_⟩
    rw [bytesOf_extract, List.take_of_length_le (by rw [bytesOf_length]; exact Nat.le_refl _)]
  · rw [if_neg c, if_neg c]
    exact ⟨s, rfl, rfl⟩
theorem rdInt_range {m : Int} {l : List Int} {e : Int} (hm : 0 ≤ m) (hl : ∀ b ∈ l, 0 ≤ b ∧ b ≤ 255) : 0 ≤ (rdInt m l e).1 ∧ (rdInt m l e).1 ≤ m ∧ ((rdInt m l e).2.2 ≠ 0 → (rdInt m l e).1 = 0) := by
  have := rdNum_range (e := e) hl
  unfold rdInt
  split
  · exact ⟨Int.le_refl _, hm, fun _ => rfl⟩
  · split
    · exact ⟨Int.le_refl _, hm, fun _ => rfl⟩
    · exact ⟨this.1, by omega, this.2.2⟩
theorem rdInt_sub {m : Int} {l : List Int} {e : Int} : ∃ k, (rdInt m l e).2.1 = l.drop k := by
  unfold rdInt rdNum
  by_cases c : e = 0
  · rw [if_pos c]
    simp only
    split
    · exact ⟨_, rfl⟩
    · split <;> exact ⟨_, rfl⟩
  · rw [if_neg c]
    simp only
    rw [if_pos c]
    exact ⟨0, rfl⟩

theorem code_Int_f (s : ByteArray) (e m : Int) (hs : s.size ≤ 9223372036854775807) (hm0 : 0 ≤ m) (hm : m < 9223372036854775808) (k : Nat) (hk : 0 < k) :
    ∃ s', code_Reader_Int.f k s e m = some ((rdInt m (bytesOf s) e).1, s', (rdInt m (bytesOf s) e).2.2) ∧ bytesOf s' = (rdInt m (bytesOf s) e).2.1 := by
  obtain ⟨k, rfl⟩ : ∃ m, k = m + 1 := ⟨k - 1, by omega⟩
  obtain ⟨s', h1, h2⟩ := code_Num_f s e hs
  have hr := rdNum_range (l := bytesOf s) (e := e) (bytes_range s)
  unfold code_Reader_Int.f rdInt
  rw [h1]
  simp only [Option.bind_some]
  rw [if_neg (show ¬ m < 0 by omega), u64_id hm0 (by omega)]
  generalize hq : rdNum (bytesOf s) e = q at *
  obtain ⟨v, l1, e1⟩ := q
  simp only at *
  refine ⟨s', ?_, ?_⟩
  · simp only [code_Reader_Int.j0]
    by_cases c : v > m
    · rw [decide_eq_true c, if_pos rfl]
      unfold code_Reader_Fail.f
      by_cases ce : e1 = 0
      · rw [if_pos ce]
        simp [ce, c]
      · rw [if_neg ce]
        simp [ce]
    · rw [decide_eq_false c, if_neg (by simp)]
      by_cases ce : e1 = 0
      · have hm' : ¬ (m < 0 ∨ m < v) := by omega
        rw [if_pos ce, w64 (by omega) (by omega)]
        simp [ce, hm']
      · rw [if_neg ce]
        simp [ce]
  · rw [h2]
    split
    · rfl
    · split <;> rfl

end Go.Proofs.Ytmpgknemhmoboaa.PRdc
