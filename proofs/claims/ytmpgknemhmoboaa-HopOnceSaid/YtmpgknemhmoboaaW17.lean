import Derived.Test.YtmpgknemhmoboaaQ17kx1
import Derived.Test.YtmpgknemhmoboaaPl
import Derived.Test.YtmpgknemhmoboaaM02
import Derived.Test.YtmpgknemhmoboaaX17r
import Derived.Deep.CutBlock
import Derived.Deep.DeepCutAuto
import Derived.Test.YtmpgknemhmoboaaS17w
section
/- Plain: what the readers of bytes answer, the program's and the document's. -/
namespace Go.Proofs.Ytmpgknemhmoboaa.PRdc
open Go.RowKit Go.Proofs.YtmpgknemhmoboaaW.PrintWords Go.Proofs.YtmpgknemhmoboaaW.PrintLast Go.Proofs.YtmpgknemhmoboaaW.PrintMore Go.Proofs.Ytmpgknemhmoboaa.Q17k Go.Proofs.Ytmpgknemhmoboaa.Pl Go.Proofs.Ytmpgknemhmoboaa.Ext
open Go.Proofs.Ytmpgknemhmoboaa.M02 (numL numL_bad numL_last numL_more num_bits pow128_pos shl7 rdNum rdInt numL_range rdNum_range leb andNot128)

theorem shl64 {b x : Int} (h0 : 0 ≤ b) (h1 : b < 128) (hx0 : 0 ≤ x) (hx9 : x ≤ 9) (h9 : x = 9 → b ≤ 1) : shl .u64 b (7 * x) = b * 128 ^ x.toNat := by
  have := shl7 h0 h1 hx0 hx9 h9
  unfold shl
  rw [Nat.min_eq_left (by show (7 * x).toNat ≤ 64; omega)]
  exact this

theorem code_Num_f (s : ByteArray) (e : Int) (hs : s.size ≤ 9223372036854775807) : ∃ s', code_Reader_Num.f s e = some ((rdNum (bytesOf s) e).1, s', (rdNum (bytesOf s) e).2.2) ∧ bytesOf s' = (rdNum (bytesOf s) e).2.1 := by
  unfold code_Reader_Num.f rdNum
  by_cases c : e = 0
  · subst c
    have hr := numL_range (bytesOf s) 0 0 (by omega) (by omega) (by simp) (bytes_range s)
    rw [bytesOf_length] at hr
    rw [if_pos rfl, if_pos rfl, code_number_f s hs]
    simp only [Option.bind_some]
    rw [if_pos hr.2.2.1, if_pos (by omega)]
    refine ⟨_, rfl, ?_⟩
    rw [bytesOf_extract, List.take_of_length_le (by rw [bytesOf_length]; exact Nat.le_refl _)]
  · rw [if_neg c, if_neg c]
    exact ⟨s, rfl, rfl⟩
theorem rdInt_range {m : Int} {l : List Int} {e : Int} (hm : 0 ≤ m) (hl : ∀ b ∈ l, 0 ≤ b ∧ b ≤ 255) : 0 ≤ (rdInt m l e).1 ∧ (rdInt m l e).1 ≤ m ∧ ((rdInt m l e).2.2 ≠ 0 → (rdInt m l e).1 = 0) := by
  have := rdNum_range (e := e) hl
  unfold rdInt
  split
  · exact ⟨Int.le_refl _, hm, fun _ => rfl⟩
  · split
    · exact ⟨Int.le_refl _, hm, fun _ => rfl⟩
    · exact ⟨this.1, by omega, this.2.2⟩
theorem rdInt_sub {m : Int} {l : List Int} {e : Int} : ∃ k, (rdInt m l e).2.1 = l.drop k := by
  unfold rdInt rdNum
  by_cases c : e = 0
  · rw [if_pos c]
    simp only
    split
    · exact ⟨_, rfl⟩
    · split <;> exact ⟨_, rfl⟩
  · rw [if_neg c]
    simp only
    rw [if_pos c]
    exact ⟨0, rfl⟩

theorem code_Int_f (s : ByteArray) (e m : Int) (hs : s.size ≤ 9223372036854775807) (hm0 : 0 ≤ m) (hm : m < 9223372036854775808) (k : Nat) (hk : 0 < k) :
    ∃ s', code_Reader_Int.f k s e m = some ((rdInt m (bytesOf s) e).1, s', (rdInt m (bytesOf s) e).2.2) ∧ bytesOf s' = (rdInt m (bytesOf s) e).2.1 := by
  obtain ⟨k, rfl⟩ : ∃ m, k = m + 1 := ⟨k - 1, by omega⟩
  obtain ⟨s', h1, h2⟩ := code_Num_f s e hs
  have hr := rdNum_range (l := bytesOf s) (e := e) (bytes_range s)
  unfold code_Reader_Int.f rdInt
  rw [h1]
  simp only [Option.bind_some]
  rw [if_neg (show ¬ m < 0 by omega), u64_id hm0 (by omega)]
  generalize hq : rdNum (bytesOf s) e = q at *
  obtain ⟨v, l1, e1⟩ := q
  simp only at *
  refine ⟨s', ?_, ?_⟩
  · simp only [code_Reader_Int.j0]
    by_cases c : v > m
    · rw [decide_eq_true c, if_pos rfl]
      unfold code_Reader_Fail.f
      by_cases ce : e1 = 0
      · rw [if_pos ce]
        simp [ce, c]
      · rw [if_neg ce]
        simp [ce]
    · rw [decide_eq_false c, if_neg (by simp)]
      by_cases ce : e1 = 0
      · have hm' : ¬ (m < 0 ∨ m < v) := by omega
        rw [if_pos ce, w64 (by omega) (by omega)]
        simp [ce, hm']
      · rw [if_neg ce]
        simp [ce]
  · rw [h2]
    split
    · rfl
    · split <;> rfl

end Go.Proofs.Ytmpgknemhmoboaa.PRdc
end
section
/- Plain: the frames of bytes. -/
namespace Go.Proofs.Ytmpgknemhmoboaa.P17
set_option linter.unusedSimpArgs false
open Go.RowKit Go.Proofs.YtmpgknemhmoboaaW.PrintWords Go.Proofs.YtmpgknemhmoboaaW.PrintLast Go.Proofs.YtmpgknemhmoboaaW.PrintMore Go.Proofs.Ytmpgknemhmoboaa.Q17k Go.Proofs.Ytmpgknemhmoboaa.Pl Go.Proofs.Ytmpgknemhmoboaa.Ext Go.Proofs.Ytmpgknemhmoboaa.PRdc Go.Proofs.Ytmpgknemhmoboaa.M02 Go.Proofs.Ytmpgknemhmoboaa.C03

/-- The frame of bytes, and what is wrong. -/
def readF (s : ByteArray) : (Int × Int × Int × Int × ByteArray) × Int :=
  if opens s = true then
    let x := rdInt 2 (bytesOf (opened s)) 0
    let y := rdInt 1000 x.2.1 x.2.2
    let z := rdInt 1073741824 y.2.1 y.2.2
    let u := rdInt 1099511627776 z.2.1 z.2.2
    if u.2.2 ≠ 0 ∨ (writeF x.1 y.1 z.1 u.1 (strOfNums u.2.1)).2 ≠ 0 then ((0, 0, 0, 0, ⟨#[]⟩), 6) else ((x.1, y.1, z.1, u.1, strOfNums u.2.1), 0)
  else ((0, 0, 0, 0, ⟨#[]⟩), 12)
theorem opened_size (s : ByteArray) : (opened s).size ≤ s.size := by
  unfold opened
  split
  · rw [ByteArray.size_extract]; omega
  · exact Nat.zero_le _
theorem tail_of (t : ByteArray) (K : Nat) (l : List Int) (h : l = (bytesOf t).drop K) : t.extract (t.size - l.length) t.size = strOfNums l := by
  rw [← C02.strOfNums_bytesOf (t.extract (t.size - l.length) t.size), C02.bytesOf_extract, List.take_of_length_le (by rw [bytesOf_length]; exact Nat.le_refl _)]
  congr 1
  subst h
  rw [List.length_drop, bytesOf_length]
  by_cases c : K ≤ t.size
  · congr 1; omega
  · rw [bytes_end (s := t) (k := K) (by omega), bytes_end (by omega)]
theorem write_ok (k fl ep n : Int) (s : ByteArray) : (writeF k fl ep n s).2 = 0 ↔ rightB k fl ep n s = true ∧ ¬ s.size > 6000 := by
  unfold writeF
  cases rightB k fl ep n s
  · simp
  · by_cases c : s.size > 6000 <;> simp [c]
theorem Read_f (k : Nat) (s : ByteArray) (hs : s.size ≤ 140737488351232) : hop_Read.f (k + 1) s = some ((readF s).1.1, (readF s).1.2.1, (readF s).1.2.2.1, (readF s).1.2.2.2.1, (readF s).1.2.2.2.2, (readF s).2) := by
  unfold hop_Read.f readF
  rw [crc_Open_f s hs, Option.bind_some]
  cases ho : opens s with
  | false => simp
  | true =>
    have ht : (opened s).size ≤ 140737488351232 := by have := opened_size s; omega
    obtain ⟨t, hte⟩ : ∃ t, t = opened s := ⟨_, rfl⟩
    rw [← hte] at ht ⊢
    rw [if_pos rfl, if_pos rfl]
    simp only [code_New.f, Option.bind_some]
    obtain ⟨s0, f0, b0⟩ := code_Int_f t 0 2 (by omega) (by omega) (by omega) (k + 1) (by omega)
    obtain ⟨⟨v0, l0, e0⟩, hI0⟩ : ∃ x, x = rdInt 2 (bytesOf t) 0 := ⟨_, rfl⟩
    obtain ⟨k0, d0⟩ := rdInt_sub (m := 2) (l := bytesOf t) (e := 0)
    rw [← hI0] at f0 b0 d0 ⊢
    simp only at f0 b0 d0
    have z0 : s0.size ≤ t.size := by rw [← bytesOf_length, b0, d0, List.length_drop, bytesOf_length]; omega
    rw [f0, Option.bind_some]
    obtain ⟨s1, f1, b1⟩ := code_Int_f s0 e0 1000 (by omega) (by omega) (by omega) (k + 1) (by omega)
    obtain ⟨⟨v1, l1, e1⟩, hI1⟩ : ∃ x, x = rdInt 1000 l0 e0 := ⟨_, rfl⟩
    obtain ⟨k1, d1⟩ := rdInt_sub (m := 1000) (l := l0) (e := e0)
    rw [b0, ← hI1] at f1 b1
    rw [← hI1] at d1
    simp only at f1 b1 d1 ⊢
    have z1 : s1.size ≤ t.size := by rw [← bytesOf_length, b1, d1, d0, List.length_drop, List.length_drop, bytesOf_length]; omega
    rw [f1, Option.bind_some]
    obtain ⟨s2, f2, b2⟩ := code_Int_f s1 e1 1073741824 (by omega) (by omega) (by omega) (k + 1) (by omega)
    obtain ⟨⟨v2, l2, e2⟩, hI2⟩ : ∃ x, x = rdInt 1073741824 l1 e1 := ⟨_, rfl⟩
    obtain ⟨k2, d2⟩ := rdInt_sub (m := 1073741824) (l := l1) (e := e1)
    rw [b1, ← hI2] at f2 b2
    rw [← hI2] at d2
    simp only at f2 b2 d2 ⊢
    have z2 : s2.size ≤ t.size := by rw [← bytesOf_length, b2, d2, d1, d0, List.length_drop, List.length_drop, List.length_drop, bytesOf_length]; omega
    rw [f2, Option.bind_some]
    obtain ⟨s3, f3, b3⟩ := code_Int_f s2 e2 1099511627776 (by omega) (by omega) (by omega) (k + 1) (by omega)
    obtain ⟨⟨v3, l3, e3⟩, hI3⟩ : ∃ x, x = rdInt 1099511627776 l2 e2 := ⟨_, rfl⟩
    obtain ⟨k3, d3⟩ := rdInt_sub (m := 1099511627776) (l := l2) (e := e2)
    rw [b2, ← hI3] at f3 b3
    rw [← hI3] at d3
    simp only at f3 b3 d3
    rw [f3, Option.bind_some, ← hI1]
    simp only
    rw [← hI2]
    simp only
    rw [← hI3]
    simp only [code_Reader_Left.f, code_Reader_Err.f, hop_right.f, Option.bind_some]
    have hl3 : l3.length = s3.size := by rw [← b3, bytesOf_length]
    have hd3 : l3 = (bytesOf t).drop (k0 + k1 + k2 + k3) := by rw [d3, d2, d1, d0]; simp [List.drop_drop]
    have hz : s3.size ≤ t.size := by rw [← hl3, hd3, List.length_drop, bytesOf_length]; omega
    have ht3 := tail_of t (k0 + k1 + k2 + k3) l3 hd3
    rw [show wrap64 ((t.size : Int) - (s3.size : Int)) = ((t.size - s3.size : Nat) : Int) from by rw [w64 (by omega) (by omega)]; omega, if_pos (by omega), if_pos (by omega), Int.toNat_natCast, ← hl3, ht3]
    have hwo := write_ok v0 v1 v2 v3 (strOfNums l3)
    by_cases c1 : e3 = 0
    · rw [if_pos c1]
      by_cases c2 : rightB v0 v1 v2 v3 (strOfNums l3) = true
      · rw [if_pos c2]
        by_cases c3 : (strOfNums l3).size > 6000
        · rw [if_pos (by omega), if_pos (Or.inr (fun h => (hwo.1 h).2 c3))]
        · rw [if_neg (by omega), if_neg (by rintro (h | h); exact h c1; exact h (hwo.2 ⟨c2, c3⟩))]
      · rw [if_neg c2, if_pos (Or.inr (fun h => c2 (hwo.1 h).1))]
    · rw [if_neg c1, if_pos (Or.inl c1)]
end Go.Proofs.Ytmpgknemhmoboaa.P17
end
section
/- Chapter 17: works() answers true. -/
namespace Go.Proofs.Ytmpgknemhmoboaa.W17
set_option linter.unusedSimpArgs false
set_option linter.unusedVariables false
open Go.RowKit S17 Base Ext P17 C17 Q17h Go.Proofs.YtmpgknemhmoboaaW.PrintWords Go.Proofs.YtmpgknemhmoboaaW.PrintLast Go.Proofs.YtmpgknemhmoboaaW.PrintMore
abbrev sa : ByteArray := ⟨#[97]⟩
abbrev sb : ByteArray := ⟨#[98]⟩
abbrev sc : ByteArray := ⟨#[99]⟩
theorem put_a : putL 0 [] sa = [⟨1, sa⟩] := rfl
theorem put_b : putL 0 [⟨1, sa⟩] sb = [⟨1, sa⟩, ⟨2, sb⟩] := rfl
theorem put_c : putL 0 [⟨1, sa⟩, ⟨2, sb⟩] sc = [⟨1, sa⟩, ⟨2, sb⟩, ⟨3, sc⟩] := rfl
/-- The frame's bytes that works writes. -/
def tt : ByteArray := (writeF 1 3 1 2 sb).1
theorem tt_eq : writeF 1 3 1 2 sb = (tt, 0) := by
  unfold tt
  have : (writeF 1 3 1 2 sb).2 = 0 := by decide +kernel
  rw [← this]
theorem read_1 : readF tt = ((1, 3, 1, 2, sb), 0) := by kernel_rfl
theorem read_2 : readF (tt ++ sc) = ((0, 0, 0, 0, ⟨#[]⟩), 12) := by kernel_rfl
theorem tt_size : tt.size = 9 := by kernel_rfl
set_option maxRecDepth 100000 in
set_option maxHeartbeats 4000000 in
theorem works_c (w : World) : Calls Try.prog 42 #[] w fun e w' => e = .returned (.bool true) ∧ Below w.heap.size w w' := by
  have HB := Aside0.mk (Below.refl w.heap.size w)
  go_enter Try.func42, Try.ntmps42
  go_wp2_with fail
  refine (s_new 1 0 2 2 (by unfold NewOk; omega) HB.out).mono ?_
  rintro e w1 ⟨⟨ga, rfl, hs⟩, hb⟩
  have HS := Aside0.mk hs
  clear hs hb HB
  go_wp2_with fail
  refine (r_new 0 (by omega) HS.out.lo).mono ?_
  rintro e w2 ⟨⟨gr, rfl, hr⟩, hb⟩
  have HS2 := Aside0.mk (HS.out.below hb)
  have HR := Aside0.mk hr
  clear hr hb HS
  go_wp2_with fail
  refine (s_put sa HS2.out).mono ?_
  rintro e w3 ⟨rfl, hs, hu⟩
  rw [put_a] at hs
  have HS3 := Aside0.mk hs
  have HR3 := Aside0.mk (HR.out.tu hu (by decide))
  clear hs hu HS2 HR
  go_wp2_with fail
  refine (s_put sb HS3.out).mono ?_
  rintro e w4 ⟨rfl, hs, hu⟩
  rw [put_b] at hs
  have HS4 := Aside0.mk hs
  have HR4 := Aside0.mk (HR3.out.tu hu (by decide))
  clear hs hu HS3 HR3
  go_wp2_with fail
  refine (s_put sc HS4.out).mono ?_
  rintro e w5 ⟨rfl, hs, hu⟩
  rw [put_c] at hs
  have HS5 := Aside0.mk hs
  have HR5 := Aside0.mk (HR4.out.tu hu (by decide))
  clear hs hu HS4 HR4
  go_wp2_with fail
  refine (s_out HS5.out).mono ?_
  rintro e w6 ⟨⟨A1, c1, rfl, hq⟩, hs, hu⟩
  have HQ6 : Aside0 (Kd.Q k87 87 w6 w.heap.size (fun _ => True) (.slice A1 2 c1) [⟨1, sa⟩, ⟨2, sb⟩]) := ⟨hq⟩
  have HS6 : Aside0 (S1 w w6 ga 1 0 2 0 2 2 [⟨1, sa⟩, ⟨2, sb⟩, ⟨3, sc⟩]) := ⟨hs⟩
  have HR6 := Aside0.mk (HR5.out.tu hu (by decide))
  clear hs hu HS5 HR5 hq
  have el : (outL 0 0 2 [⟨1, sa⟩, ⟨2, sb⟩, ⟨3, sc⟩]).length = 2 := rfl
  rw [el]
  clear el
  go_wp2_with fail
  refine (s_acked 1 1 HS6.out).mono ?_
  rintro e w7 ⟨rfl, hs, hu⟩
  have HS7 : Aside0 (S1 w w7 ga 1 1 2 0 2 2 [⟨2, sb⟩, ⟨3, sc⟩]) := ⟨hs⟩
  have HR7 := Aside0.mk (HR6.out.tu hu (by decide))
  have HQ7 := Aside0.mk (hu.q rfl HQ6.out (by decide))
  clear hs hu HS6 HR6 HQ6
  have el : ackB 1 1 0 ([⟨1, sa⟩, ⟨2, sb⟩, ⟨3, sc⟩] : List S87).length 1 = true := rfl
  rw [el]
  clear el
  go_wp2_with fail
  refine (s_out HS7.out).mono ?_
  rintro e w8 ⟨⟨A2, c2, rfl, hq⟩, hs, hu⟩
  have HP8 : Aside0 (Kd.Q k87 87 w8 w.heap.size (fun _ => True) (.slice A2 1 c2) [⟨3, sc⟩]) := ⟨hq⟩
  have HS8 : Aside0 (S1 w w8 ga 1 1 3 0 2 2 [⟨2, sb⟩, ⟨3, sc⟩]) := ⟨hs⟩
  have HR8 := Aside0.mk (HR7.out.tu hu (by decide))
  have HQ8 := Aside0.mk (hu.q rfl HQ7.out (by decide))
  clear hs hu HS7 HR7 hq HQ7
  have el : (outL 1 2 2 [⟨2, sb⟩, ⟨3, sc⟩]).length = 1 := rfl
  rw [el]
  clear el
  go_wp2_with fail
  refine (s_tick HS8.out).mono ?_
  rintro e w9 ⟨rfl, hs, hu⟩
  have HS9 : Aside0 (S1 w w9 ga 1 1 3 1 2 2 [⟨2, sb⟩, ⟨3, sc⟩]) := ⟨hs⟩
  have HR9 := Aside0.mk (HR8.out.tu hu (by decide))
  have HQ9 := Aside0.mk (hu.q rfl HQ8.out (by decide))
  have HP9 := Aside0.mk (hu.q rfl HP8.out (by decide))
  clear hs hu HS8 HR8 HQ8 HP8
  go_wp2_with fail
  refine (s_out HS9.out).mono ?_
  rintro e w10 ⟨⟨A3, c3, rfl, hq⟩, hs, hu⟩
  have HS10 : Aside0 (S1 w w10 ga 1 1 3 1 2 2 [⟨2, sb⟩, ⟨3, sc⟩]) := ⟨hs⟩
  have HR10 := Aside0.mk (HR9.out.tu hu (by decide))
  have HQ10 := Aside0.mk (hu.q rfl HQ9.out (by decide))
  have HP10 := Aside0.mk (hu.q rfl HP9.out (by decide))
  clear hs hu HS9 HR9 hq HQ9 HP9
  have el : (outL 1 3 2 [⟨2, sb⟩, ⟨3, sc⟩]).length = 0 := rfl
  rw [el]
  clear el
  go_wp2_with fail
  refine (s_tick HS10.out).mono ?_
  rintro e w11 ⟨rfl, hs, hu⟩
  have HS11 : Aside0 (S1 w w11 ga 1 1 1 0 2 2 [⟨2, sb⟩, ⟨3, sc⟩]) := ⟨hs⟩
  have HR11 := Aside0.mk (HR10.out.tu hu (by decide))
  have HQ11 := Aside0.mk (hu.q rfl HQ10.out (by decide))
  have HP11 := Aside0.mk (hu.q rfl HP10.out (by decide))
  clear hs hu HS10 HR10 HQ10 HP10
  go_wp2_with fail
  refine (s_out HS11.out).mono ?_
  rintro e w12 ⟨⟨A4, c4, rfl, hq⟩, hs, hu⟩
  have HO12 : Aside0 (Kd.Q k87 87 w12 w.heap.size (fun _ => True) (.slice A4 2 c4) [⟨2, sb⟩, ⟨3, sc⟩]) := ⟨hq⟩
  have HB12 := Aside0.mk hs.lo
  have HR12 := Aside0.mk (HR11.out.tu hu (by decide))
  have HQ12 := Aside0.mk (hu.q rfl HQ11.out (by decide))
  have HP12 := Aside0.mk (hu.q rfl HP11.out (by decide))
  clear hs hu HS11 HR11 hq HQ11 HP11
  have el : (outL 1 1 2 [⟨2, sb⟩, ⟨3, sc⟩]).length = 2 := rfl
  rw [el]
  clear el
  go_wp2_with fail
  refine (hop_Write_c 1 3 1 2 sb _ (by decide)).mono ?_
  rintro e w13 ⟨rfl, hb⟩
  rw [tt_eq]
  have HO13 := Aside0.mk (Kd.Q_below HO12.out hb)
  have HQ13 := Aside0.mk (Kd.Q_below HQ12.out hb)
  have HP13 := Aside0.mk (Kd.Q_below HP12.out hb)
  have HR13 := Aside0.mk (HR12.out.below hb)
  have HB13 := Aside0.mk (below_step HB12.out hb)
  clear hb HO12 HQ12 HP12 HR12 HB12
  go_wp2_with fail
  refine (Q17k.hop_Read.calls 3 tt _ _ _ _ _ _ _ ((Read_f 2 tt (by rw [tt_size]; decide)).trans (by rw [read_1]))).mono ?_
  rintro e w14 ⟨rfl, hb⟩
  have HO14 := Aside0.mk (Kd.Q_below HO13.out hb)
  have HQ14 := Aside0.mk (Kd.Q_below HQ13.out hb)
  have HP14 := Aside0.mk (Kd.Q_below HP13.out hb)
  have HR14 := Aside0.mk (HR13.out.below hb)
  have HB14 := Aside0.mk (below_step HB13.out hb)
  clear hb HO13 HQ13 HP13 HR13 HB13
  go_wp2_with fail
  have HG := Aside0.mk (blk_new w14 (.cells #[.int .i64 1, .int .i64 3, .int .i64 1, .int .i64 2, .string sb] 72))
  have HQ := Aside0.mk (Kd.Q_alloc HQ14.out (.cells #[.int .i64 1, .int .i64 3, .int .i64 1, .int .i64 2, .string sb] 72))
  have HP := Aside0.mk (Kd.Q_alloc HP14.out (.cells #[.int .i64 1, .int .i64 3, .int .i64 1, .int .i64 2, .string sb] 72))
  have HO := Aside0.mk (Kd.Q_alloc HO14.out (.cells #[.int .i64 1, .int .i64 3, .int .i64 1, .int .i64 2, .string sb] 72))
  have HR := Aside0.mk (HR14.out.below (below_alloc (Below.refl _ _) (.cells #[.int .i64 1, .int .i64 3, .int .i64 1, .int .i64 2, .string sb] 72)))
  have HB := Aside0.mk (below_alloc HB14.out (.cells #[.int .i64 1, .int .i64 3, .int .i64 1, .int .i64 2, .string sb] 72))
  clear HQ14 HP14 HO14 HR14 HB14
  generalize w14.heap.size = G at HG ⊢
  generalize w14.alloc _ = wa at HG HQ HP HO HR HB ⊢
  refine (Q17k.hop_Read.calls 3 (tt ++ sc) _ _ _ _ _ _ _ ((Read_f 2 (tt ++ sc) (by rw [ByteArray.size_append, tt_size]; decide)).trans (by rw [read_2]))).mono ?_
  rintro e w15 ⟨rfl, hb⟩
  have HG15 := Aside0.mk (blk_below HG.out hb)
  have HO15 := Aside0.mk (Kd.Q_below HO.out hb)
  have HQ15 := Aside0.mk (Kd.Q_below HQ.out hb)
  have HP15 := Aside0.mk (Kd.Q_below HP.out hb)
  have HR15 := Aside0.mk (HR.out.below hb)
  have HB15 := Aside0.mk (below_step HB.out hb)
  clear hb HO HQ HP HR HB HG
  go_upto_region 18 with (fail)
  have HG := Aside0.mk (Base.blk_alloc HG15.out (.cells #[.int .i64 0, .int .i64 0, .int .i64 0, .int .i64 0, .string ⟨#[]⟩] 72))
  have HQ := Aside0.mk (Kd.Q_alloc HQ15.out (.cells #[.int .i64 0, .int .i64 0, .int .i64 0, .int .i64 0, .string ⟨#[]⟩] 72))
  have HP := Aside0.mk (Kd.Q_alloc HP15.out (.cells #[.int .i64 0, .int .i64 0, .int .i64 0, .int .i64 0, .string ⟨#[]⟩] 72))
  have HO := Aside0.mk (Kd.Q_alloc HO15.out (.cells #[.int .i64 0, .int .i64 0, .int .i64 0, .int .i64 0, .string ⟨#[]⟩] 72))
  have HR := Aside0.mk (HR15.out.below (below_alloc (Below.refl _ _) (.cells #[.int .i64 0, .int .i64 0, .int .i64 0, .int .i64 0, .string ⟨#[]⟩] 72)))
  have HB := Aside0.mk (below_alloc HB15.out (.cells #[.int .i64 0, .int .i64 0, .int .i64 0, .int .i64 0, .string ⟨#[]⟩] 72))
  clear HQ15 HP15 HO15 HR15 HB15 HG15
  generalize w15.heap.size = G2 at ⊢
  generalize w15.alloc _ = wb at HG HQ HP HO HR HB ⊢
  obtain ⟨g1, o1, cc1, hv1, -⟩ := Kd.Q_form HQ.out (by decide)
  cases hv1
  obtain ⟨a1, ha1, qa0, qa1⟩ := at_T87 (Kd.Q_reads' HQ.out).2.2 0 (by decide) (by decide)
  cases ha1
  obtain ⟨g2, o2, cc2, hv2, -⟩ := Kd.Q_form HP.out (by decide)
  cases hv2
  obtain ⟨a2, ha2, qb0, qb1⟩ := at_T87 (Kd.Q_reads' HP.out).2.2 0 (by decide) (by decide)
  cases ha2
  obtain ⟨g4, o4, cc4, hv4, -⟩ := Kd.Q_form HO.out (by decide)
  cases hv4
  obtain ⟨a4, ha4, qc0, qc1⟩ := at_T87 (Kd.Q_reads' HO.out).2.2 0 (by decide) (by decide)
  cases ha4
  change wb.cell? ⟨g1, o1, none⟩ = some (.int .i64 1) at qa0
  change wb.cell? ⟨g1, o1 + 1, none⟩ = some (.string sa) at qa1
  change wb.cell? ⟨g2, o2, none⟩ = some (.int .i64 3) at qb0
  change wb.cell? ⟨g4, o4, none⟩ = some (.int .i64 2) at qc0
  clear qb1 qc1 HQ HP HO
  go_wp2_with fail
  refine (r_take 1 1 HR.out HB.out (by decide)).mono ?_
  rintro e wc0 ⟨rfl, hr, hl, hu⟩
  have HG0 := Aside0.mk (hu.at_ HG.out (by decide))
  clear HG HR HB
  have HG := HG0
  clear HG0
  have HR : Aside0 (R1 w wc0 gr 1 1) := ⟨hr⟩
  have HB := Aside0.mk hl
  have el : (took 0 0 1 1).1 = true := rfl
  rw [el]
  clear el hr hl hu
  go_wp2_with fail
  refine (r_take 1 1 HR.out HB.out (by decide)).mono ?_
  rintro e wc1 ⟨rfl, hr, hl, hu⟩
  have HG1 := Aside0.mk (hu.at_ HG.out (by decide))
  clear HG HR HB
  have HG := HG1
  clear HG1
  have HR : Aside0 (R1 w wc1 gr 1 1) := ⟨hr⟩
  have HB := Aside0.mk hl
  have el : (took 1 1 1 1).1 = false := rfl
  rw [el]
  clear el hr hl hu
  go_wp2_with fail
  refine (r_take 1 3 HR.out HB.out (by decide)).mono ?_
  rintro e wc2 ⟨rfl, hr, hl, hu⟩
  have HG2 := Aside0.mk (hu.at_ HG.out (by decide))
  clear HG HR HB
  have HG := HG2
  clear HG2
  have HR : Aside0 (R1 w wc2 gr 1 1) := ⟨hr⟩
  have HB := Aside0.mk hl
  have el : (took 1 1 1 3).1 = false := rfl
  rw [el]
  clear el hr hl hu
  go_wp2_with fail
  refine (r_take 2 2 HR.out HB.out (by decide)).mono ?_
  rintro e wc3 ⟨rfl, hr, hl, hu⟩
  have HG3 := Aside0.mk (hu.at_ HG.out (by decide))
  clear HG HR HB
  have HG := HG3
  clear HG3
  have HR : Aside0 (R1 w wc3 gr 2 2) := ⟨hr⟩
  have HB := Aside0.mk hl
  have el : (took 1 1 2 2).1 = true := rfl
  rw [el]
  clear el hr hl hu
  go_wp2_with fail
  refine (r_take 1 3 HR.out HB.out (by decide)).mono ?_
  rintro e wc4 ⟨rfl, hr, hl, hu⟩
  have HG4 := Aside0.mk (hu.at_ HG.out (by decide))
  clear HG HR HB
  have HG := HG4
  clear HG4
  have HR : Aside0 (R1 w wc4 gr 2 2) := ⟨hr⟩
  have HB := Aside0.mk hl
  have el : (took 2 2 1 3).1 = false := rfl
  rw [el]
  clear el hr hl hu
  have r3 := blk_at (i := 3) HG.out rfl
  have r4 := blk_at (i := 4) HG.out rfl
  go_wp2
  go_ret
  exact ⟨rfl, (by repeat (first | (with_reducible first | exact HB.out | apply below_alloc | apply pw_below_drewN | apply below_drew1) | exact HB.out))⟩
end Go.Proofs.Ytmpgknemhmoboaa.W17
end
