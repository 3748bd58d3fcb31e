import Derived.Test.YtjkbgcdhhiakmaaQ04sx
import Derived.Test.YtjkbgcdhhiakmaaPl
import Derived.Test.YtjkbgcdhhiakmaaOpen
import Derived.WalkKit
import Derived.ProofKit
import Derived.Test.YtjkbgcdhhiakmaaX04
/- Plain: times, what is wrong with them, how they stand, and what comes of them. -/
namespace Go.Proofs.Ytjkbgcdhhiakmaa.P04
set_option linter.unusedSimpArgs false
open Go.RowKit Go.Proofs.YtjkbgcdhhiakmaaW.PrintWords Go.Proofs.YtjkbgcdhhiakmaaW.PrintLast Go.Proofs.YtjkbgcdhhiakmaaW.PrintMore Go.Proofs.Ytjkbgcdhhiakmaa.Q04s Go.Proofs.Ytjkbgcdhhiakmaa.Pl Go.Proofs.Ytjkbgcdhhiakmaa.Ext

theorem w01 : wrap64 (0 + 1) = 1 := by unfold wrap64; omega
theorem w11 : wrap64 1 = 1 := by unfold wrap64; omega
theorem w12 : wrap64 (1 + 1) = 2 := by unfold wrap64; omega
theorem w22 : wrap64 2 = 2 := by unfold wrap64; omega
theorem w23 : wrap64 (2 + 1) = 3 := by unfold wrap64; omega
theorem w33 : wrap64 3 = 3 := by unfold wrap64; omega
theorem w34 : wrap64 (3 + 1) = 4 := by unfold wrap64; omega
theorem w44 : wrap64 4 = 4 := by unfold wrap64; omega
theorem w00 : wrap64 0 = 0 := by unfold wrap64; omega

/-- What is wrong with a time. -/
def chk (e d a b c : Int) : Int :=
  if d < 0 ∨ d > 3 then 10 else if e > 1048576 ∨ a > 1048576 ∨ b > 1048576 ∨ c > 1048576 then 1 else if (d ≤ 0 ∧ a ≠ 0) ∨ (d ≤ 1 ∧ b ≠ 0) ∨ (d ≤ 2 ∧ c ≠ 0) then 6 else 0
theorem chk_ok {e d a b c : Int} (h : chk e d a b c = 0) : 0 ≤ d ∧ d ≤ 3 ∧ e ≤ 1048576 ∧ a ≤ 1048576 ∧ b ≤ 1048576 ∧ c ≤ 1048576 ∧ (d ≤ 0 → a = 0) ∧ (d ≤ 1 → b = 0) ∧ (d ≤ 2 → c = 0) := by
  unfold chk at h
  split at h
  · omega
  · split at h
    · omega
    · split at h
      · omega
      · omega
theorem chk_cases (e d a b c : Int) : chk e d a b c = 0 ∨ chk e d a b c = 10 ∨ chk e d a b c = 1 ∨ chk e d a b c = 6 := by
  unfold chk
  repeat' split
  all_goals simp

theorem refCheck_f (k : Nat) (e d a b c : Int) : watershedref04_Check.f (k + 12) e d a b c = some (chk e d a b c) := by
  unfold watershedref04_Check.f chk
  by_cases h0 : d < 0
  · simp [h0, watershedref04_Check.j0]
  · by_cases h1 : d > 3
    · simp [h0, h1, watershedref04_Check.j0]
    · obtain rfl | rfl | rfl | rfl : d = 0 ∨ d = 1 ∨ d = 2 ∨ d = 3 := by omega
      all_goals
        simp [watershedref04_Check.j0, watershedref04_Check.l0, watershedref04_Check.l1, w11, w22, w33]
        repeat' split
        all_goals first | rfl | omega | (simp_all; omega)
theorem there_f (d : Int) : stamp_there.f d = some (decide (0 ≤ d ∧ d ≤ 3)) := by
  unfold stamp_there.f
  by_cases h : d ≥ 0
  · rw [if_pos h]; simp [h]
  · rw [if_neg h, decide_eq_false (by omega)]
theorem Check_f (k : Nat) (e d a b c : Int) : stamp_Check.f (k + 12) e d a b c = some (chk e d a b c) := by
  unfold stamp_Check.f chk
  rw [there_f]
  by_cases h0 : 0 ≤ d ∧ d ≤ 3
  · rw [decide_eq_true h0]
    obtain rfl | rfl | rfl | rfl : d = 0 ∨ d = 1 ∨ d = 2 ∨ d = 3 := by omega
    all_goals
      simp [stamp_Check.l0, stamp_rounds.f, w11, w22, w33]
      repeat' split
      all_goals first | rfl | omega | (simp_all; omega)
  · rw [decide_eq_false h0]
    simp
    omega

theorem rd0 (x y : Int) : rd [x, y] 0 = x := rfl
theorem rd1 (x y : Int) : rd [x, y] 1 = y := rfl
theorem Or_f (k : Nat) (x y : Int) : cmp_Or_int.f (k + 5) [x, y] = some (if x = 0 then y else x) := by
  unfold cmp_Or_int.f
  simp [cmp_Or_int.l0, w11, w22, rd0, rd1]
  repeat' split
  all_goals first | rfl | omega | (simp_all; done)
theorem Zero_f (d : Int) : stamp_Zero.f d = watershedref04_Zero.f d ∧ ∃ r, watershedref04_Zero.f d = some r := by
  unfold stamp_Zero.f watershedref04_Zero.f
  rw [there_f]
  by_cases h0 : d < 0
  · rw [decide_eq_false (by omega)]; simp [h0]
  · by_cases h1 : d > 3
    · rw [decide_eq_false (by omega)]; simp [h0, h1]
    · rw [decide_eq_true (by omega)]; simp [h0, h1]
theorem refLE_f (k : Nat) (a0 a1 a2 a3 a4 b0 b1 b2 b3 b4 : Int) : watershedref04_LE.f (k + 12) a0 a1 a2 a3 a4 b0 b1 b2 b3 b4 = some (leB a0 a1 a2 a3 a4 b0 b1 b2 b3 b4) := by
  unfold watershedref04_LE.f leB
  by_cases h : a1 = b1
  · subst h
    by_cases h0 : a1 < 0
    · simp [h0, watershedref04_LE.j0]; omega
    · by_cases h1 : a1 > 3
      · simp [h0, h1, watershedref04_LE.j0]; omega
      · by_cases h2 : a0 > b0
        · simp [h0, h1, h2, watershedref04_LE.j0]; omega
        · obtain rfl | rfl | rfl | rfl : a1 = 0 ∨ a1 = 1 ∨ a1 = 2 ∨ a1 = 3 := by omega
          all_goals
            simp [h2, watershedref04_LE.j0, watershedref04_LE.l0, w11, w22, w33]
            repeat' split
            all_goals first | rfl | omega | (simp; omega)
  · simp [h, watershedref04_LE.j0]
/-- Which of two numbers is the greater one. -/
def sgc (x y : Int) : Int := if x < y then -1 else if x > y then 1 else 0
theorem Cmp_f (x y : Int) : cmp_Compare_int.f x y = some (sgc x y) := by
  unfold cmp_Compare_int.f cmp_isNaN_int.f sgc
  simp
  repeat' split
  all_goals rfl
theorem CmpU_f (x y : Int) : cmp_Compare_uint32.f x y = some (sgc x y) := by
  unfold cmp_Compare_uint32.f cmp_isNaN_uint32.f sgc
  simp
  repeat' split
  all_goals rfl
theorem order_f (x y : Int) : watershedref04_order.f x y = some (sgc x y) := by
  unfold watershedref04_order.f sgc
  repeat' split
  all_goals rfl
theorem sgc_zero {x y : Int} : sgc x y = 0 ↔ x = y := by
  unfold sgc
  repeat' split
  all_goals omega
def orZ (x y : Int) : Int := if x = 0 then y else x
def cmpT (a0 a1 a2 a3 a4 b0 b1 b2 b3 b4 : Int) : Int := orZ (orZ (orZ (orZ (sgc a1 b1) (sgc a0 b0)) (sgc a2 b2)) (sgc a3 b3)) (sgc a4 b4)
theorem Compare_f (k : Nat) (a0 a1 a2 a3 a4 b0 b1 b2 b3 b4 : Int) : stamp_Compare.f (k + 20) a0 a1 a2 a3 a4 b0 b1 b2 b3 b4 = some (cmpT a0 a1 a2 a3 a4 b0 b1 b2 b3 b4) := by
  unfold stamp_Compare.f
  rw [Cmp_f, CmpU_f]
  by_cases h : (a0 == b0 && (a1 == b1 && (a2 == b2 && (a3 == b3 && a4 == b4)))) = true
  · rw [if_pos h]
    simp at h
    obtain ⟨rfl, rfl, rfl, rfl, rfl⟩ := h
    have hz : ∀ x, sgc x x = 0 := fun x => sgc_zero.2 rfl
    simp [cmpT, orZ, hz]
  · rw [if_neg h]
    simp [stamp_Compare.l0, Or_f (k + 15), CmpU_f, w11, w22, w33, Or_f (k + 14), Or_f (k + 13), Or_f (k + 12)]
    rfl
theorem refCompare_f (k : Nat) (a0 a1 a2 a3 a4 b0 b1 b2 b3 b4 : Int) : watershedref04_Compare.f (k + 12) a0 a1 a2 a3 a4 b0 b1 b2 b3 b4 = some (cmpT a0 a1 a2 a3 a4 b0 b1 b2 b3 b4) := by
  unfold watershedref04_Compare.f
  have hz : ∀ x, sgc x x = 0 := fun x => sgc_zero.2 rfl
  by_cases h1 : a1 = b1
  · subst h1
    simp [cmpT, hz, orZ, order_f, watershedref04_Compare.l0, w11, w22, w33, sgc_zero]
    repeat' split
    all_goals first | rfl | (simp_all [sgc_zero, hz]; done) | (simp_all [sgc_zero]; exact (sgc_zero.2 rfl).symm) | (simp_all [sgc_zero]; exact sgc_zero.2 rfl)
  · have hn : sgc a1 b1 ≠ 0 := fun h => h1 (sgc_zero.1 h)
    simp [cmpT, orZ, hn]
    unfold sgc
    repeat' split
    all_goals first | rfl | omega
/-- Five numbers that make a time. -/
abbrev T5 := Int × Int × Int × Int × Int
def kT : Kd T5 := Kd.pair (Kd.int .u32) (Kd.pair (Kd.int .i64) (Kd.pair (Kd.int .u32) (Kd.pair (Kd.int .u32) (Kd.int .u32))))
def okT (x : T5) : Prop := (Lit.int .u32 x.1).wf = true ∧ (Lit.int .i64 x.2.1).wf = true ∧ (Lit.int .u32 x.2.2.1).wf = true ∧ (Lit.int .u32 x.2.2.2.1).wf = true ∧ (Lit.int .u32 x.2.2.2.2).wf = true
theorem opens_T : Open.Opens Try.prog 25 kT okT :=
  Open.opens_struct Try.underlying25 (by kernel_rfl)
    (Open.opensF_cons (by kernel_rfl) (by rfl) (Open.opens_int (P := Try.prog) (by kernel_rfl))
      (Open.opensF_cons (by kernel_rfl) (by rfl) (Open.opens_int (P := Try.prog) (by kernel_rfl))
        (Open.opensF_last (by kernel_rfl) (Open.opens_array Try.underlying23 (by kernel_rfl)
          (Open.opensF_cons (by kernel_rfl) (by rfl) (Open.opens_int (P := Try.prog) (by kernel_rfl))
            (Open.opensF_cons (by kernel_rfl) (by rfl) (Open.opens_int (P := Try.prog) (by kernel_rfl))
              (Open.opensF_last (by kernel_rfl) (Open.opens_int (P := Try.prog) (by kernel_rfl)))))))))
theorem kT_open {w : World} {x : T5} {cs : List Value} (h : kT.K w x cs) : cs = [.int .u32 x.1, .int .i64 x.2.1, .int .u32 x.2.2.1, .int .u32 x.2.2.2.1, .int .u32 x.2.2.2.2] := by
  obtain ⟨_, _, rfl, rfl, _, _, rfl, rfl, _, _, rfl, rfl, _, _, rfl, rfl, rfl⟩ := h
  rfl
theorem u32_of {x : Int} (h : (Lit.int .u32 x).wf = true) : 0 ≤ x ∧ x < 4294967296 := by
  have := bounds_u32 h
  omega
theorem StampStands_pure (a0 a1 a2 a3 a4 b0 b1 b2 b3 b4 d : Int) : watershedlaw04_StampStands.f 1000 a0 a1 a2 a3 a4 b0 b1 b2 b3 b4 d = some true := by
  unfold watershedlaw04_StampStands.f
  obtain ⟨hz, r, hr⟩ := Zero_f d
  rw [hz, hr]
  simp [Check_f 988, refCheck_f 988, refLE_f 988, stamp_LE.f, Compare_f 980, refCompare_f 988]
end Go.Proofs.Ytjkbgcdhhiakmaa.P04
