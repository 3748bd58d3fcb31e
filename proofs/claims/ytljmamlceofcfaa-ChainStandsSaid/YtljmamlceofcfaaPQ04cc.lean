import Derived.Test.YtljmamlceofcfaaQ04cx
import Derived.Test.YtljmamlceofcfaaPl
import Derived.Test.YtljmamlceofcfaaX04
/- Plain: times, what is wrong with them, how they stand, and what comes of them. -/
namespace Go.Proofs.Ytljmamlceofcfaa.P04
set_option linter.unusedSimpArgs false
open Go.RowKit Go.Proofs.YtljmamlceofcfaaW.PrintWords Go.Proofs.YtljmamlceofcfaaW.PrintLast Go.Proofs.YtljmamlceofcfaaW.PrintMore Go.Proofs.Ytljmamlceofcfaa.Q04c Go.Proofs.Ytljmamlceofcfaa.Pl Go.Proofs.Ytljmamlceofcfaa.Ext

theorem w01 : wrap64 (0 + 1) = 1 := by unfold wrap64; omega
theorem w11 : wrap64 1 = 1 := by unfold wrap64; omega
theorem w12 : wrap64 (1 + 1) = 2 := by unfold wrap64; omega
theorem w22 : wrap64 2 = 2 := by unfold wrap64; omega
theorem w23 : wrap64 (2 + 1) = 3 := by unfold wrap64; omega
theorem w33 : wrap64 3 = 3 := by unfold wrap64; omega
theorem w34 : wrap64 (3 + 1) = 4 := by unfold wrap64; omega
theorem w44 : wrap64 4 = 4 := by unfold wrap64; omega
theorem w00 : wrap64 0 = 0 := by unfold wrap64; omega

/-- What is wrong with a time. -/
def chk (e d a b c : Int) : Int :=
  if d < 0 ∨ d > 3 then 10 else if e > 1048576 ∨ a > 1048576 ∨ b > 1048576 ∨ c > 1048576 then 1 else if (d ≤ 0 ∧ a ≠ 0) ∨ (d ≤ 1 ∧ b ≠ 0) ∨ (d ≤ 2 ∧ c ≠ 0) then 6 else 0
theorem chk_ok {e d a b c : Int} (h : chk e d a b c = 0) : 0 ≤ d ∧ d ≤ 3 ∧ e ≤ 1048576 ∧ a ≤ 1048576 ∧ b ≤ 1048576 ∧ c ≤ 1048576 ∧ (d ≤ 0 → a = 0) ∧ (d ≤ 1 → b = 0) ∧ (d ≤ 2 → c = 0) := by
  unfold chk at h
  split at h
  · omega
  · split at h
    · omega
    · split at h
      · omega
      · omega
theorem chk_cases (e d a b c : Int) : chk e d a b c = 0 ∨ chk e d a b c = 10 ∨ chk e d a b c = 1 ∨ chk e d a b c = 6 := by
  unfold chk
  repeat' split
  all_goals simp

theorem refCheck_f (k : Nat) (e d a b c : Int) : watershedref04_Check.f (k + 12) e d a b c = some (chk e d a b c) := by
  unfold watershedref04_Check.f chk
  by_cases h0 : d < 0
  · simp [h0, watershedref04_Check.j0]
  · by_cases h1 : d > 3
    · simp [h0, h1, watershedref04_Check.j0]
    · obtain rfl | rfl | rfl | rfl : d = 0 ∨ d = 1 ∨ d = 2 ∨ d = 3 := by omega
      all_goals
        simp [watershedref04_Check.j0, watershedref04_Check.l0, watershedref04_Check.l1, w11, w22, w33]
        repeat' split
        all_goals first | rfl | omega | (simp_all; omega)
theorem there_f (d : Int) : stamp_there.f d = some (decide (0 ≤ d ∧ d ≤ 3)) := by
  unfold stamp_there.f
  by_cases h : d ≥ 0
  · rw [if_pos h]; simp [h]
  · rw [if_neg h, decide_eq_false (by omega)]
theorem Check_f (k : Nat) (e d a b c : Int) : stamp_Check.f (k + 12) e d a b c = some (chk e d a b c) := by
  unfold stamp_Check.f chk
  rw [there_f]
  by_cases h0 : 0 ≤ d ∧ d ≤ 3
  · rw [decide_eq_true h0]
    obtain rfl | rfl | rfl | rfl : d = 0 ∨ d = 1 ∨ d = 2 ∨ d = 3 := by omega
    all_goals
      simp [stamp_Check.l0, stamp_rounds.f, w11, w22, w33]
      repeat' split
      all_goals first | rfl | omega | (simp_all; omega)
  · rw [decide_eq_false h0]
    simp
    omega

theorem rd0 (x y : Int) : rd [x, y] 0 = x := rfl
theorem rd1 (x y : Int) : rd [x, y] 1 = y := rfl
end Go.Proofs.Ytljmamlceofcfaa.P04
