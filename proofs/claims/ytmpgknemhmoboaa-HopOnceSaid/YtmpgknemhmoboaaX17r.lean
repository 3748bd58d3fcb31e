import Derived.Test.YtmpgknemhmoboaaQ17ax2
import Derived.Test.YtmpgknemhmoboaaPl
import Derived.Test.YtmpgknemhmoboaaX02
import Derived.Test.YtmpgknemhmoboaaX03
import Derived.Test.YtmpgknemhmoboaaC02p
import Derived.Deep.CutBlock
import Derived.Deep.DeepCutAuto
import Derived.Outline
import Derived.Test.YtmpgknemhmoboaaC02S
section
/- Contracts of package hop and of the document's answer for it: frames' bytes, and frames of bytes. -/
namespace Go.Proofs.Ytmpgknemhmoboaa.Ext
open Go.RowKit Go.Proofs.YtmpgknemhmoboaaW.PrintWords Go.Proofs.YtmpgknemhmoboaaW.PrintLast Go.Proofs.YtmpgknemhmoboaaW.PrintMore Go.Proofs.Ytmpgknemhmoboaa.Base Go.Proofs.Ytmpgknemhmoboaa.M02 Go.Proofs.Ytmpgknemhmoboaa.C03 Go.Proofs.Ytmpgknemhmoboaa.Q17a

/-- Is it a frame, but for how long it is? -/
def rightB (k fl ep n : Int) (s : ByteArray) : Bool :=
  decide (0 ≤ fl ∧ fl ≤ 1000) && decide (1 ≤ ep ∧ ep ≤ 1073741824) && (decide (k = 1 ∧ 1 ≤ n ∧ n ≤ 1099511627776) || decide (k = 2 ∧ 0 ≤ n ∧ n ≤ 1099511627776 ∧ bytesOf s = []))
theorem within_f (a b c : Int) : hop_within.f a b c = some (decide (b ≤ a ∧ a ≤ c)) := by
  unfold hop_within.f
  by_cases h : a ≥ b
  · rw [if_pos h]; simp [h]
  · rw [if_neg h, decide_eq_false (by omega)]
theorem right_f (k fl ep n : Int) (s : ByteArray) : hop_Frame_right.f 1 k fl ep n s = some (rightB k fl ep n s) := by
  unfold hop_Frame_right.f rightB
  rw [within_f, within_f]
  simp only [Option.bind_some, hop_Frame_right.j0, within_f]
  have e : (s.toList == ([] : List UInt8)) = decide (bytesOf s = []) := by rw [Bool.eq_iff_iff, beq_iff_eq, decide_eq_true_eq]; exact Pl.toList_nil
  rw [e]
  by_cases c1 : 0 ≤ fl ∧ fl ≤ 1000
  · by_cases c2 : 1 ≤ ep ∧ ep ≤ 1073741824
    · by_cases c3 : k = 1
      · simp [c1, c2, c3]
      · by_cases c4 : k = 2
        · by_cases c5 : 0 ≤ n ∧ n ≤ 1099511627776 <;> simp [c1, c2, c4, c5]
          omega
        · simp [c1, c2, c3, c4]
    · rw [decide_eq_false c2]; simp
  · rw [decide_eq_false c1]; simp
/-- A number's bytes, as a string. -/
def nb (v : Int) : ByteArray := strOfNums (leb 9 v)
theorem nb_size (v : Int) : (nb v).size ≤ 10 := by unfold nb; rw [strOfNums_size]; exact leb_length 9 v
theorem code_Num_n (v : Int) (w : World) (h : 0 ≤ v ∧ v < 18446744073709551616) : Calls Try.prog 50 #[.int .u64 v] w fun e w' => e = .returned (.string (nb v)) ∧ Below w.heap.size w w' := C02.code_Num v w h.1 h.2
/-- A frame's bytes, and what is wrong. -/
def frameB (k fl ep n : Int) (s : ByteArray) : ByteArray := nb k ++ nb fl ++ nb ep ++ nb n ++ s
def writeF (k fl ep n : Int) (s : ByteArray) : ByteArray × Int :=
  if rightB k fl ep n s then (if s.size > 6000 then (⟨#[]⟩, 7) else (sealed (frameB k fl ep n s), 0)) else (⟨#[]⟩, 6)
theorem right_range {k fl ep n : Int} {s : ByteArray} (h : rightB k fl ep n s = true) : 0 ≤ k ∧ k ≤ 2 ∧ 0 ≤ fl ∧ fl ≤ 1000 ∧ 0 ≤ ep ∧ ep ≤ 1073741824 ∧ 0 ≤ n ∧ n ≤ 1099511627776 := by
  unfold rightB at h
  simp at h
  omega

set_option maxHeartbeats 4000000 in
theorem hop_Write_c (k fl ep n : Int) (s : ByteArray) (w : World) (hs : s.size ≤ 140737488351232) :
    Calls Try.prog 37 #[.agg #[.int .i64 k, .int .i64 fl, .int .i64 ep, .int .i64 n, .string s]] w fun e w' => e = .returned (.tuple #[.string (writeF k fl ep n s).1, .int .i64 (writeF k fl ep n s).2]) ∧ Below w.heap.size w w' := by
  have HB := Aside0.mk (Below.refl w.heap.size w)
  have HR := Aside0.mk (fun w => hop_Frame_right.calls 1 k fl ep n s (rightB k fl ep n s) w (right_f k fl ep n s))
  cases hr : rightB k fl ep n s with
  | false =>
    have HX : Aside0 (writeF k fl ep n s = (⟨#[]⟩, 6)) := ⟨by unfold writeF; rw [hr]; rfl⟩
    rw [hr] at HR
    clear hr hs
    go_enter Try.func37, Try.ntmps37
    go_wp2_with (first | (go_at_call 49; refine (HR.out _).mono ?_; rintro e w1 ⟨rfl, hb⟩; have n0_ := Aside0.mk (below_step (by repeat (first | (with_reducible first | exact HB.out | apply below_alloc | apply pw_below_drewN | apply below_drew1) | exact HB.out)) hb); clear HB hb; have HB := n0_; clear n0_))
    go_ret2
    rw [HX.out]
    exact ⟨rfl, (by repeat (first | (with_reducible first | exact HB.out | apply below_alloc | apply pw_below_drewN | apply below_drew1) | exact HB.out))⟩
  | true =>
    by_cases c : s.size > 6000
    · have c1 : decide (6000 < (s.size : Int)) = true := decide_eq_true (by omega)
      have c2 : decide (6000 < s.size) = true := decide_eq_true (by omega)
      have HX : Aside0 (writeF k fl ep n s = (⟨#[]⟩, 7)) := ⟨by unfold writeF; rw [hr, if_pos rfl, if_pos c]⟩
      rw [hr] at HR
      clear hr c hs
      go_enter Try.func37, Try.ntmps37
      have HG := Aside0.mk (blk_new w (.cells #[.int .i64 k, .int .i64 fl, .int .i64 ep, .int .i64 n, .string s] 72))
      replace HB := Aside0.mk (below_alloc (o := .cells #[.int .i64 k, .int .i64 fl, .int .i64 ep, .int .i64 n, .string s] 72) HB.out)
      go_wp2_with fail
      generalize w.alloc _ = w0 at HG HB ⊢
      refine (HR.out _).mono ?_
      rintro e w1 ⟨rfl, hb⟩
      replace HG := Aside0.mk (blk_below HG.out hb)
      replace HB := Aside0.mk (below_step HB.out hb)
      clear hb
      have q4 := blk_at (i := 4) HG.out rfl
      go_wp2
      go_ret2
      rw [HX.out]
      exact ⟨rfl, HB.out⟩
    · have c1 : decide (6000 < (s.size : Int)) = false := decide_eq_false (by omega)
      have c2 : decide (6000 < s.size) = false := decide_eq_false (by omega)
      have HX : Aside0 (writeF k fl ep n s = (sealed (frameB k fl ep n s), 0)) := ⟨by unfold writeF; rw [hr, if_pos rfl, if_neg c]⟩
      have hg := right_range hr
      rw [hr] at HR
      obtain ⟨x0, h0⟩ : ∃ x, x = nb k := ⟨_, rfl⟩
      obtain ⟨x1, h1⟩ : ∃ x, x = nb fl := ⟨_, rfl⟩
      obtain ⟨x2, h2⟩ : ∃ x, x = nb ep := ⟨_, rfl⟩
      obtain ⟨x3, h3⟩ : ∃ x, x = nb n := ⟨_, rfl⟩
      have C0 := Aside0.mk (fun w1 => h0 ▸ code_Num_n k w1 ⟨by omega, by omega⟩)
      have C1 := Aside0.mk (fun w1 => h1 ▸ code_Num_n fl w1 ⟨by omega, by omega⟩)
      have C2 := Aside0.mk (fun w1 => h2 ▸ code_Num_n ep w1 ⟨by omega, by omega⟩)
      have C3 := Aside0.mk (fun w1 => h3 ▸ code_Num_n n w1 ⟨by omega, by omega⟩)
      have z0 : x0.size ≤ 10 := h0 ▸ nb_size k
      have z1 : x1.size ≤ 10 := h1 ▸ nb_size fl
      have z2 : x2.size ≤ 10 := h2 ▸ nb_size ep
      have z3 : x3.size ≤ 10 := h3 ▸ nb_size n
      have HXF : Aside0 (frameB k fl ep n s = x0 ++ x1 ++ x2 ++ x3 ++ s) := ⟨by unfold frameB; rw [h0, h1, h2, h3]⟩
      have HSL := Aside0.mk (fun w1 => C03.crc_Seal (x0 ++ x1 ++ x2 ++ x3 ++ s) w1 (by simp only [ByteArray.size_append]; omega))
      have u0 : IntKind.u64.wrap k = k := (IntKind.wrap_u64 _).trans (by omega)
      have u1 : IntKind.u64.wrap fl = fl := (IntKind.wrap_u64 _).trans (by omega)
      have u2 : IntKind.u64.wrap ep = ep := (IntKind.wrap_u64 _).trans (by omega)
      have u3 : IntKind.u64.wrap n = n := (IntKind.wrap_u64 _).trans (by omega)
      have s0 : (9223372036854775807 < x0.size) = False := eq_false (by omega)
      have s1 : (9223372036854775807 < x0.size + x1.size) = False := eq_false (by omega)
      have s2 : (9223372036854775807 < x0.size + x1.size + x2.size) = False := eq_false (by omega)
      have s3 : (9223372036854775807 < x0.size + x1.size + x2.size + x3.size) = False := eq_false (by omega)
      have s4 : (9223372036854775807 < x0.size + x1.size + x2.size + x3.size + s.size) = False := eq_false (by omega)
      have e0 : (⟨#[]⟩ : ByteArray) ++ x0 = x0 := ByteArray.ext (by simp)
      have i0 : ∀ w_ : World, (Instr.index 103 (.agg #[.int .i64 k, .int .i64 fl, .int .i64 ep, .int .i64 n]) (.int .i64 0)).run Try.prog w_ = .ok (.int .i64 k) w_ := fun _ => by first | kernel_rfl | rfl | (simp [go_sem]; done)
      have i1 : ∀ w_ : World, (Instr.index 103 (.agg #[.int .i64 k, .int .i64 fl, .int .i64 ep, .int .i64 n]) (.int .i64 1)).run Try.prog w_ = .ok (.int .i64 fl) w_ := fun _ => by first | kernel_rfl | rfl | (simp [go_sem]; done)
      have i2 : ∀ w_ : World, (Instr.index 103 (.agg #[.int .i64 k, .int .i64 fl, .int .i64 ep, .int .i64 n]) (.int .i64 2)).run Try.prog w_ = .ok (.int .i64 ep) w_ := fun _ => by first | kernel_rfl | rfl | (simp [go_sem]; done)
      have i3 : ∀ w_ : World, (Instr.index 103 (.agg #[.int .i64 k, .int .i64 fl, .int .i64 ep, .int .i64 n]) (.int .i64 3)).run Try.prog w_ = .ok (.int .i64 n) w_ := fun _ => by first | kernel_rfl | rfl | (simp [go_sem]; done)
      clear hr c hs h0 h1 h2 h3 z0 z1 z2 z3 hg
      go_enter Try.func37, Try.ntmps37
      have HG := Aside0.mk (blk_new w (.cells #[.int .i64 k, .int .i64 fl, .int .i64 ep, .int .i64 n, .string s] 72))
      replace HB := Aside0.mk (below_alloc (o := .cells #[.int .i64 k, .int .i64 fl, .int .i64 ep, .int .i64 n, .string s] 72) HB.out)
      go_wp2_with fail
      generalize w.alloc _ = w0 at HG HB ⊢
      refine (HR.out _).mono ?_
      rintro e w1 ⟨rfl, hb⟩
      replace HG := Aside0.mk (blk_below HG.out hb)
      replace HB := Aside0.mk (below_step HB.out hb)
      clear hb
      have q0 := blk_at (i := 0) HG.out rfl
      have q1 := blk_at (i := 1) HG.out rfl
      have q2 := blk_at (i := 2) HG.out rfl
      have q3 := blk_at (i := 3) HG.out rfl
      have q4 := blk_at (i := 4) HG.out rfl
      go_wp2_with fail
      refine wp_loop_rounds 5 ?_
      rw [rounds_succ]
      go_wp2_with fail
      refine (C0.out _).mono ?_
      rintro e w2 ⟨rfl, hb⟩
      clear q0 q1 q2 q3 q4
      replace HG := Aside0.mk (blk_below HG.out hb)
      replace HB := Aside0.mk (below_step HB.out hb)
      clear hb
      have q0 := blk_at (i := 0) HG.out rfl
      have q1 := blk_at (i := 1) HG.out rfl
      have q2 := blk_at (i := 2) HG.out rfl
      have q3 := blk_at (i := 3) HG.out rfl
      have q4 := blk_at (i := 4) HG.out rfl
      go_wp2_with fail
      rw [rounds_succ]
      go_wp2_with fail
      refine (C1.out _).mono ?_
      rintro e w3 ⟨rfl, hb⟩
      clear q0 q1 q2 q3 q4
      replace HG := Aside0.mk (blk_below HG.out hb)
      replace HB := Aside0.mk (below_step HB.out hb)
      clear hb
      have q0 := blk_at (i := 0) HG.out rfl
      have q1 := blk_at (i := 1) HG.out rfl
      have q2 := blk_at (i := 2) HG.out rfl
      have q3 := blk_at (i := 3) HG.out rfl
      have q4 := blk_at (i := 4) HG.out rfl
      go_wp2_with fail
      rw [rounds_succ]
      go_wp2_with fail
      refine (C2.out _).mono ?_
      rintro e w4 ⟨rfl, hb⟩
      clear q0 q1 q2 q3 q4
      replace HG := Aside0.mk (blk_below HG.out hb)
      replace HB := Aside0.mk (below_step HB.out hb)
      clear hb
      have q0 := blk_at (i := 0) HG.out rfl
      have q1 := blk_at (i := 1) HG.out rfl
      have q2 := blk_at (i := 2) HG.out rfl
      have q3 := blk_at (i := 3) HG.out rfl
      have q4 := blk_at (i := 4) HG.out rfl
      go_wp2_with fail
      rw [rounds_succ]
      go_wp2_with fail
      refine (C3.out _).mono ?_
      rintro e w5 ⟨rfl, hb⟩
      clear q0 q1 q2 q3 q4
      replace HG := Aside0.mk (blk_below HG.out hb)
      replace HB := Aside0.mk (below_step HB.out hb)
      clear hb
      have q0 := blk_at (i := 0) HG.out rfl
      have q1 := blk_at (i := 1) HG.out rfl
      have q2 := blk_at (i := 2) HG.out rfl
      have q3 := blk_at (i := 3) HG.out rfl
      have q4 := blk_at (i := 4) HG.out rfl
      go_wp2_with fail
      rw [rounds_succ]
      go_wp2_with fail
      refine (HSL.out _).mono ?_
      rintro e w6 ⟨rfl, hb⟩
      replace HB := Aside0.mk (below_step HB.out hb)
      clear hb
      go_wp2_with fail
      go_ret2
      rw [HX.out, HXF.out]
      exact ⟨rfl, HB.out⟩
def hop_Write.f (k fl ep n : Int) (s : ByteArray) : Option (ByteArray × Int) := if s.size ≤ 140737488351232 then some (writeF k fl ep n s) else none
theorem hop_Write.calls (a0_0 a0_1 a0_2 a0_3 : Int) (a0_4 : ByteArray) (r1 : ByteArray) (r2 : Int) (w : World) (h : hop_Write.f a0_0 a0_1 a0_2 a0_3 a0_4 = some (r1, r2)) :
    Calls Try.prog 37 #[.agg #[.int .i64 a0_0, .int .i64 a0_1, .int .i64 a0_2, .int .i64 a0_3, .string a0_4]] w fun e w' => e = .returned (.tuple #[.string r1, .int .i64 r2]) ∧ Below w.heap.size w w' := by
  unfold hop_Write.f at h
  split at h
  · rename_i hc
    have e := Option.some.inj h
    have := hop_Write_c a0_0 a0_1 a0_2 a0_3 a0_4 w hc
    rw [e] at this
    exact this
  · cases h
end Go.Proofs.Ytmpgknemhmoboaa.Ext
end
section
/- Contracts of the document's answer for frames, and of what a frame is, in the form that the printed texts call. -/
namespace Go.Proofs.Ytmpgknemhmoboaa.Ext
set_option linter.unusedSimpArgs false
open Go.RowKit Go.Proofs.YtmpgknemhmoboaaW.PrintWords Go.Proofs.YtmpgknemhmoboaaW.PrintLast Go.Proofs.YtmpgknemhmoboaaW.PrintMore Go.Proofs.Ytmpgknemhmoboaa.Base Go.Proofs.Ytmpgknemhmoboaa.M02 Go.Proofs.Ytmpgknemhmoboaa.C03 Go.Proofs.Ytmpgknemhmoboaa.Q17a

def hop_right.f (k fl ep n : Int) (s : ByteArray) : Option Bool := some (rightB k fl ep n s)
theorem hop_right.calls (a0_0 a0_1 a0_2 a0_3 : Int) (a0_4 : ByteArray) (r : Bool) (w : World) (h : hop_right.f a0_0 a0_1 a0_2 a0_3 a0_4 = some r) :
    Calls Try.prog 49 #[.agg #[.int .i64 a0_0, .int .i64 a0_1, .int .i64 a0_2, .int .i64 a0_3, .string a0_4]] w fun e w' => e = .returned (.bool r) ∧ Below w.heap.size w w' := by
  obtain rfl := Option.some.inj h
  exact hop_Frame_right.calls 1 _ _ _ _ _ _ w (right_f _ _ _ _ _)
theorem epoch_f (x : Int) : watershedref17_epoch.f x = some (decide (1 ≤ x ∧ x ≤ 1073741824)) := by
  unfold watershedref17_epoch.f
  by_cases h : x ≥ 1
  · rw [if_pos h]; simp [h]
  · rw [if_neg h, decide_eq_false (by omega)]
theorem refNum_f (v : Int) (h0 : 0 ≤ v) (h1 : v < 18446744073709551616) : watershedref02_Num.f v = some (nb v) := if_pos ⟨h0, h1⟩
theorem refWrite_j1 (k fl ep n : Int) (s : ByteArray) (hs : s.size ≤ 140737488351232) (m : Nat) (hr : rightB k fl ep n s = true) : watershedref17_Write.j1 (m + 1) false k fl ep n s = some (writeF k fl ep n s) := by
  have hg := right_range hr
  have z0 := nb_size k
  have z1 := nb_size fl
  have z2 := nb_size ep
  have z3 := nb_size n
  unfold writeF
  rw [hr, if_pos rfl, watershedref17_Write.j1, if_neg (by simp)]
  by_cases c : s.size > 6000
  · rw [if_pos c, if_pos (by omega)]
  · rw [if_neg c, if_neg (by omega)]
    have u0 : IntKind.u64.wrap k = k := (IntKind.wrap_u64 _).trans (by omega)
    have u1 : IntKind.u64.wrap fl = fl := (IntKind.wrap_u64 _).trans (by omega)
    have u2 : IntKind.u64.wrap ep = ep := (IntKind.wrap_u64 _).trans (by omega)
    have u3 : IntKind.u64.wrap n = n := (IntKind.wrap_u64 _).trans (by omega)
    rw [u0, u1, u2, u3, refNum_f k (by omega) (by omega), refNum_f fl (by omega) (by omega), refNum_f ep (by omega) (by omega), refNum_f n (by omega) (by omega)]
    simp only [Option.bind_some]
    rw [if_pos (by omega), if_pos (by simp only [ByteArray.size_append]; omega), if_pos (by simp only [ByteArray.size_append]; omega), if_pos (by simp only [ByteArray.size_append]; omega), watershedref03_Seal_f _ (by simp only [ByteArray.size_append]; omega)]
    rfl
theorem refWrite_bad (k fl ep n : Int) (s : ByteArray) (m : Nat) (hr : rightB k fl ep n s = false) : watershedref17_Write.j1 (m + 1) true k fl ep n s = some (writeF k fl ep n s) := by
  unfold writeF
  rw [hr, watershedref17_Write.j1, if_pos rfl]
  rfl
theorem refWrite_j0 (k fl ep n : Int) (s : ByteArray) (hs : s.size ≤ 140737488351232) (m : Nat) (b : Bool) (hb : b = decide (0 ≤ fl ∧ fl ≤ 1000 ∧ 1 ≤ ep ∧ ep ≤ 1073741824 ∧ 0 ≤ n ∧ n ≤ 1099511627776)) : watershedref17_Write.j0 (m + 2) b k fl ep n s = some (writeF k fl ep n s) := by
  rw [watershedref17_Write.j0]
  have e : (s.toList != ([] : List UInt8)) = !decide (bytesOf s = []) := by
    rw [bne]
    congr 1
    rw [Bool.eq_iff_iff, beq_iff_eq, decide_eq_true_eq]
    exact Pl.toList_nil
  by_cases c : 0 ≤ fl ∧ fl ≤ 1000 ∧ 1 ≤ ep ∧ ep ≤ 1073741824 ∧ 0 ≤ n ∧ n ≤ 1099511627776
  · rw [hb, decide_eq_true c, if_pos rfl]
    have hR : rightB k fl ep n s = (decide (k = 1 ∧ 1 ≤ n ∧ n ≤ 1099511627776) || decide (k = 2 ∧ 0 ≤ n ∧ n ≤ 1099511627776 ∧ bytesOf s = [])) := by
      unfold rightB
      rw [decide_eq_true (by omega), decide_eq_true (by omega)]
      rfl
    by_cases c1 : k = 1
    · rw [if_pos c1]
      by_cases c2 : n = 0
      · rw [if_pos c2]
        refine refWrite_bad _ _ _ _ _ _ ?_
        rw [hR]; simp [c1, c2]
      · rw [if_neg c2, if_neg (by omega)]
        refine refWrite_j1 _ _ _ _ _ hs _ ?_
        rw [hR]; simp [c1]; omega
    · rw [if_neg c1]
      by_cases c3 : k = 2
      · rw [if_pos c3, e]
        by_cases c4 : bytesOf s = []
        · rw [decide_eq_true c4]
          refine refWrite_j1 _ _ _ _ _ hs _ ?_
          rw [hR]; simp [c3, c4]; omega
        · rw [decide_eq_false c4]
          refine refWrite_bad _ _ _ _ _ _ ?_
          rw [hR]; simp [c3, c4]
      · rw [if_neg c3]
        refine refWrite_bad _ _ _ _ _ _ ?_
        rw [hR]; simp [c1, c3]
  · rw [hb, decide_eq_false c, if_neg (by simp)]
    refine refWrite_bad _ _ _ _ _ _ ?_
    unfold rightB
    simp
    omega
theorem refWrite_f (k fl ep n : Int) (s : ByteArray) (hs : s.size ≤ 140737488351232) (m : Nat) : watershedref17_Write.f (m + 2) k fl ep n s = some (writeF k fl ep n s) := by
  unfold watershedref17_Write.f
  by_cases h1 : fl ≥ 0
  · rw [if_pos h1]
    by_cases h2 : fl ≤ 1000
    · rw [if_pos h2, epoch_f, Option.bind_some]
      by_cases h3 : 1 ≤ ep ∧ ep ≤ 1073741824
      · rw [decide_eq_true h3, if_pos rfl]
        by_cases h4 : n ≥ 0
        · rw [if_pos h4]
          exact refWrite_j0 _ _ _ _ _ hs _ _ (decide_eq_decide.2 (by omega))
        · rw [if_neg h4]
          exact refWrite_j0 _ _ _ _ _ hs _ _ (decide_eq_false (by omega)).symm
      · rw [decide_eq_false h3, if_neg (by simp)]
        exact refWrite_j0 _ _ _ _ _ hs _ _ (decide_eq_false (by omega)).symm
    · rw [if_neg h2]
      exact refWrite_j0 _ _ _ _ _ hs _ _ (decide_eq_false (by omega)).symm
  · rw [if_neg h1]
    exact refWrite_j0 _ _ _ _ _ hs _ _ (decide_eq_false (by omega)).symm
def ref17_Write.f (k fl ep n : Int) (s : ByteArray) : Option (ByteArray × Int) := if s.size ≤ 140737488351232 then some (writeF k fl ep n s) else none
theorem ref17_Write.calls (a0_0 a0_1 a0_2 a0_3 : Int) (a0_4 : ByteArray) (r1 : ByteArray) (r2 : Int) (w : World) (h : ref17_Write.f a0_0 a0_1 a0_2 a0_3 a0_4 = some (r1, r2)) :
    Calls Try.prog 39 #[.agg #[.int .i64 a0_0, .int .i64 a0_1, .int .i64 a0_2, .int .i64 a0_3, .string a0_4]] w fun e w' => e = .returned (.tuple #[.string r1, .int .i64 r2]) ∧ Below w.heap.size w w' := by
  unfold ref17_Write.f at h
  split at h
  · rename_i hc
    exact watershedref17_Write.calls 2 _ _ _ _ _ _ _ w ((refWrite_f _ _ _ _ _ hc 0).trans h)
  · cases h
end Go.Proofs.Ytmpgknemhmoboaa.Ext
end
