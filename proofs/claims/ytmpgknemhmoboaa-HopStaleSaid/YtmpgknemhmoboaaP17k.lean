import Derived.Test.YtmpgknemhmoboaaPRdc
import Derived.Test.YtmpgknemhmoboaaX17
/- Plain: the frames of bytes. -/
namespace Go.Proofs.Ytmpgknemhmoboaa.P17
set_option linter.unusedSimpArgs false
open Go.RowKit Go.Proofs.YtmpgknemhmoboaaW.PrintWords Go.Proofs.YtmpgknemhmoboaaW.PrintLast Go.Proofs.YtmpgknemhmoboaaW.PrintMore Go.Proofs.Ytmpgknemhmoboaa.Q17k Go.Proofs.Ytmpgknemhmoboaa.Pl Go.Proofs.Ytmpgknemhmoboaa.Ext Go.Proofs.Ytmpgknemhmoboaa.PRdc Go.Proofs.Ytmpgknemhmoboaa.M02 Go.Proofs.Ytmpgknemhmoboaa.C03

/-- The frame of bytes, and what is wrong. -/
def readF (s : ByteArray) : (Int × Int × Int × Int × ByteArray) × Int :=
  if opens s = true then
    let x := rdInt 2 (bytesOf (opened s)) 0
    let y := rdInt 1000 x.2.1 x.2.2
    let z := rdInt 1073741824 y.2.1 y.2.2
    let u := rdInt 1099511627776 z.2.1 z.2.2
    if u.2.2 ≠ 0 ∨ (writeF x.1 y.1 z.1 u.1 (strOfNums u.2.1)).2 ≠ 0 then ((0, 0, 0, 0, ⟨#[]⟩), 6) else ((x.1, y.1, z.1, u.1, strOfNums u.2.1), 0)
  else ((0, 0, 0, 0, ⟨#[]⟩), 12)
theorem opened_size (s : ByteArray) : (opened s).size ≤ s.size := by
  unfold opened
  split
  · rw [ByteArray.size_extract]; omega
  · exact Nat.zero_le _
theorem tail_of (t : ByteArray) (K : Nat) (l : List Int) (h : l = (bytesOf t).drop K) : t.extract (t.size - l.length) t.size = strOfNums l := by
  rw [← C02.strOfNums_bytesOf (t.extract (t.size - l.length) t.size), C02.bytesOf_extract, List.take_of_length_le (by rw [bytesOf_length]; exact Nat.le_refl _)]
  congr 1
  subst h
  rw [List.length_drop, bytesOf_length]
  by_cases c : K ≤ t.size
  · congr 1; omega
  · rw [bytes_end (s := t) (k := K) (by omega), bytes_end (by omega)]
theorem write_ok (k fl ep n : Int) (s : ByteArray) : (writeF k fl ep n s).2 = 0 ↔ rightB k fl ep n s = true ∧ ¬ s.size > 6000 := by
  unfold writeF
  cases rightB k fl ep n s
  · simp
  · by_cases c : s.size > 6000 <;> simp [c]
theorem Read_f (k : Nat) (s : ByteArray) (hs : s.size ≤ 140737488351232) : hop_Read.f (k + 1) s = some ((readF s).1.1, (readF s).1.2.1, (readF s).1.2.2.1, (readF s).1.2.2.2.1, (readF s).1.2.2.2.2, (readF s).2) := by
  unfold hop_Read.f readF
  rw [crc_Open_f s hs, Option.bind_some]
  cases ho : opens s with
  | false => simp
  | true =>
    have ht : (opened s).size ≤ 140737488351232 := by have := opened_size s; omega
    obtain ⟨t, hte⟩ : ∃ t, t = opened s := ⟨_, rfl⟩
    rw [← hte] at ht ⊢
    rw [if_pos rfl, if_pos rfl]
    simp only [code_New.f, Option.bind_some]
    obtain ⟨s0, f0, b0⟩ := code_Int_f t 0 2 (by omega) (by omega) (by omega) (k + 1) (by omega)
    obtain ⟨⟨v0, l0, e0⟩, hI0⟩ : ∃ x, x = rdInt 2 (bytesOf t) 0 := ⟨_, rfl⟩
    obtain ⟨k0, d0⟩ := rdInt_sub (m := 2) (l := bytesOf t) (e := 0)
    rw [← hI0] at f0 b0 d0 ⊢
    simp only at f0 b0 d0
    have z0 : s0.size ≤ t.size := by rw [← bytesOf_length, b0, d0, List.length_drop, bytesOf_length]; omega
    rw [f0, Option.bind_some]
    obtain ⟨s1, f1, b1⟩ := code_Int_f s0 e0 1000 (by omega) (by omega) (by omega) (k + 1) (by omega)
    obtain ⟨⟨v1, l1, e1⟩, hI1⟩ : ∃ x, x = rdInt 1000 l0 e0 := ⟨_, rfl⟩
    obtain ⟨k1, d1⟩ := rdInt_sub (m := 1000) (l := l0) (e := e0)
    rw [b0, ← hI1] at f1 b1
    rw [← hI1] at d1
    simp only at f1 b1 d1 ⊢
    have z1 : s1.size ≤ t.size := by rw [← bytesOf_length, b1, d1, d0, List.length_drop, List.length_drop, bytesOf_length]; omega
    rw [f1, Option.bind_some]
    obtain ⟨s2, f2, b2⟩ := code_Int_f s1 e1 1073741824 (by omega) (by omega) (by omega) (k + 1) (by omega)
    obtain ⟨⟨v2, l2, e2⟩, hI2⟩ : ∃ x, x = rdInt 1073741824 l1 e1 := ⟨_, rfl⟩
    obtain ⟨k2, d2⟩ := rdInt_sub (m := 1073741824) (l := l1) (e := e1)
    rw [b1, ← hI2] at f2 b2
    rw [← hI2] at d2
    simp only at f2 b2 d2 ⊢
    have z2 : s2.size ≤ t.size := by rw [← bytesOf_length, b2, d2, d1, d0, List.length_drop, List.length_drop, List.length_drop, bytesOf_length]; omega
    rw [f2, Option.bind_some]
    obtain ⟨s3, f3, b3⟩ := code_Int_f s2 e2 1099511627776 (by omega) (by omega) (by omega) (k + 1) (by omega)
    obtain ⟨⟨v3, l3, e3⟩, hI3⟩ : ∃ x, x = rdInt 1099511627776 l2 e2 := ⟨_, rfl⟩
    obtain ⟨k3, d3⟩ := rdInt_sub (m := 1099511627776) (l := l2) (e := e2)
    rw [b2, ← hI3] at f3 b3
    rw [← hI3] at d3
    simp only at f3 b3 d3
    rw [f3, Option.bind_some, ← hI1]
    simp only
    rw [← hI2]
    simp only
    rw [← hI3]
    simp only [code_Reader_Left.f, code_Reader_Err.f, hop_right.f, Option.bind_some]
    have hl3 : l3.length = s3.size := by rw [← b3, bytesOf_length]
    have hd3 : l3 = (bytesOf t).drop (k0 + k1 + k2 + k3) := by rw [d3, d2, d1, d0]; simp [List.drop_drop]
    have hz : s3.size ≤ t.size := by rw [← hl3, hd3, List.length_drop, bytesOf_length]; omega
    have ht3 := tail_of t (k0 + k1 + k2 + k3) l3 hd3
    rw [show wrap64 ((t.size : Int) - (s3.size : Int)) = ((t.size - s3.size : Nat) : Int) from by rw [w64 (by omega) (by omega)]; omega, if_pos (by omega), if_pos (by omega), Int.toNat_natCast, ← hl3, ht3]
    have hwo := write_ok v0 v1 v2 v3 (strOfNums l3)
    by_cases c1 : e3 = 0
    · rw [if_pos c1]
      by_cases c2 : rightB v0 v1 v2 v3 (strOfNums l3) = true
      · rw [if_pos c2]
        by_cases c3 : (strOfNums l3).size > 6000
        · rw [if_pos (by omega), if_pos (Or.inr (fun h => (hwo.1 h).2 c3))]
        · rw [if_neg (by omega), if_neg (by rintro (h | h); exact h c1; exact h (hwo.2 ⟨c2, c3⟩))]
      · rw [if_neg c2, if_pos (Or.inr (fun h => c2 (hwo.1 h).1))]
    · rw [if_neg c1, if_pos (Or.inl c1)]
end Go.Proofs.Ytmpgknemhmoboaa.P17
