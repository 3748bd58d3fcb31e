import Derived.Test.YtjkbgcdhhiakmaaDoorQ04wx
import Derived.Test.YtjkbgcdhhiakmaaDoorX04p
import Derived.Test.YtjkbgcdhhiakmaaDoorX04w
import Derived.Test.YtjkbgcdhhiakmaaDoorX04t
import Derived.Test.YtjkbgcdhhiakmaaDoorPQ04cc
/- Plain: chapter 4's functions as the cards' laws reach them. -/
namespace Go.Proofs.YtjkbgcdhhiakmaaDoor.P04o
set_option linter.unusedSimpArgs false
open Go.RowKit Go.Proofs.YtjkbgcdhhiakmaaDoorW.PrintWords Go.Proofs.YtjkbgcdhhiakmaaDoorW.PrintLast Go.Proofs.YtjkbgcdhhiakmaaDoorW.PrintMore Go.Proofs.YtjkbgcdhhiakmaaDoor.Q04w Go.Proofs.YtjkbgcdhhiakmaaDoor.Pl Go.Proofs.YtjkbgcdhhiakmaaDoor.Ext
open Go.Proofs.YtjkbgcdhhiakmaaDoor.P04 (w01 w11 w12 w22 w23 w33 w34 w44 w00 chk chk_ok chk_cases rd0 rd1)

theorem there_f (d : Int) : stamp_there.f d = some (decide (0 ≤ d ∧ d ≤ 3)) := by
  unfold stamp_there.f
  by_cases h : d ≥ 0
  · rw [if_pos h]; simp [h]
  · rw [if_neg h, decide_eq_false (by omega)]
theorem Check_f (e d a b c : Int) : stamp_chk.f e d a b c = some (chk e d a b c) := rfl
theorem refCheck_f (e d a b c : Int) : ref_chk.f e d a b c = some (chk e d a b c) := rfl
theorem Or_f (k : Nat) (x y : Int) : cmp_Or_int.f (k + 5) [x, y] = some (if x = 0 then y else x) := by
  unfold cmp_Or_int.f
  simp [cmp_Or_int.l0, w11, w22, rd0, rd1]
  repeat' split
  all_goals first | rfl | omega | (simp_all; done)
def sgc (x y : Int) : Int := if x < y then -1 else if x > y then 1 else 0
theorem Cmp_f (x y : Int) : cmp_Compare_int.f x y = some (sgc x y) := by
  unfold cmp_Compare_int.f cmp_isNaN_int.f sgc
  simp
  repeat' split
  all_goals rfl
theorem CmpU_f (x y : Int) : cmp_Compare_uint32.f x y = some (sgc x y) := by
  unfold cmp_Compare_uint32.f cmp_isNaN_uint32.f sgc
  simp
  repeat' split
  all_goals rfl
theorem sgc_zero {x y : Int} : sgc x y = 0 ↔ x = y := by
  unfold sgc
  repeat' split
  all_goals omega
def orZ (x y : Int) : Int := if x = 0 then y else x
def cmpT (a0 a1 a2 a3 a4 b0 b1 b2 b3 b4 : Int) : Int := orZ (orZ (orZ (orZ (sgc a1 b1) (sgc a0 b0)) (sgc a2 b2)) (sgc a3 b3)) (sgc a4 b4)
theorem Compare_f (k : Nat) (a0 a1 a2 a3 a4 b0 b1 b2 b3 b4 : Int) : stamp_Compare.f (k + 20) a0 a1 a2 a3 a4 b0 b1 b2 b3 b4 = some (cmpT a0 a1 a2 a3 a4 b0 b1 b2 b3 b4) := by
  unfold stamp_Compare.f
  rw [Cmp_f, CmpU_f]
  by_cases h : (a0 == b0 && (a1 == b1 && (a2 == b2 && (a3 == b3 && a4 == b4)))) = true
  · rw [if_pos h]
    simp at h
    obtain ⟨rfl, rfl, rfl, rfl, rfl⟩ := h
    have hz : ∀ x, sgc x x = 0 := fun x => sgc_zero.2 rfl
    simp [cmpT, orZ, hz]
  · rw [if_neg h]
    simp [stamp_Compare.l0, Or_f (k + 15), CmpU_f, w11, w22, w33, Or_f (k + 14), Or_f (k + 13), Or_f (k + 12)]
    rfl
abbrev T6 := Int × Int × Int × Int × Int × Int
def noT (x : Int) : T6 := (0, 0, 0, 0, 0, x)
def enterF (e d a b c : Int) : T6 := if chk e d a b c ≠ 0 then noT (chk e d a b c) else if d = 3 then noT 10 else (e, d + 1, a, b, c, 0)
theorem Enter_f (e d a b c : Int) : stamp_Enter.f e d a b c = some (enterF e d a b c) := by
  unfold stamp_Enter.f enterF
  rw [Check_f]
  simp only [Option.bind_some]
  by_cases h : chk e d a b c = 0
  · have := chk_ok h
    rw [if_pos h, w64 (by omega) (by omega), there_f]
    by_cases h3 : d = 3
    · subst h3; simp [h, noT]
    · rw [decide_eq_true (by omega)]; simp [h, h3]
  · simp [h, noT]
def leaveF (e d a b c : Int) : T6 := if chk e d a b c ≠ 0 then noT (chk e d a b c) else if d = 0 then noT 10 else if d = 1 then (e, 0, 0, b, c, 0) else if d = 2 then (e, 1, a, 0, c, 0) else (e, 2, a, b, 0, 0)
theorem inner_f (e d a b c : Int) : stamp_inner.f e d a b c = some (if chk e d a b c ≠ 0 then (0, chk e d a b c) else if d = 0 then (0, 10) else (d - 1, 0)) := by
  unfold stamp_inner.f
  rw [Check_f]
  simp only [Option.bind_some]
  by_cases h : chk e d a b c = 0
  · have := chk_ok h
    rw [if_pos h, w64 (by omega) (by omega)]
    by_cases h3 : d = 0
    · subst h3; simp [h]
    · simp [h, h3]
  · simp [h]
theorem Leave_f (e d a b c : Int) : stamp_Leave.f e d a b c = some (leaveF e d a b c) := by
  unfold stamp_Leave.f leaveF
  rw [inner_f]
  by_cases h : chk e d a b c = 0
  · have := chk_ok h
    obtain rfl | rfl | rfl | rfl : d = 0 ∨ d = 1 ∨ d = 2 ∨ d = 3 := by omega
    all_goals simp [h, noT]
  · simp [h, noT]
theorem count_f (x : Int) : num_count.f x = some (decide (x ≤ 1048576)) := rfl
def addF (x y : Int) : Int × Int := if x > 1048576 ∨ y > 1048576 then (0, 1) else if x + y > 1048576 then (0, 9) else (x + y, 0)
theorem Add_f (k : Nat) (x y : Int) (hx : 0 ≤ x ∧ x < 4294967296) (hy : 0 ≤ y ∧ y < 4294967296) : num_Add.f (k + 5) x y = some (addF x y) := by
  unfold num_Add.f addF
  simp only [count_f, Option.bind_some, num_Add.j0]
  by_cases h1 : x ≤ 1048576
  · by_cases h2 : y ≤ 1048576
    · rw [show (x + y) % 4294967296 = x + y from by omega]
      simp [h1, h2]
      repeat' split
      all_goals first | rfl | omega
    · simp [h1, h2]
  · simp [h1]
def nextF (e d a b c : Int) : T6 := if chk e d a b c ≠ 0 then noT (chk e d a b c) else if d = 0 then noT 10 else if d = 1 then (if a = 1048576 then noT 9 else (e, 1, a + 1, b, c, 0)) else if d = 2 then (if b = 1048576 then noT 9 else (e, 2, a, b + 1, c, 0)) else (if c = 1048576 then noT 9 else (e, 3, a, b, c + 1, 0))
theorem Next_f (k : Nat) (e d a b c : Int) (ha : 0 ≤ a) (hb : 0 ≤ b) (hc : 0 ≤ c) : stamp_Next.f (k + 12) e d a b c = some (nextF e d a b c) := by
  unfold stamp_Next.f nextF
  rw [inner_f]
  by_cases h : chk e d a b c = 0
  · have := chk_ok h
    obtain rfl | rfl | rfl | rfl : d = 0 ∨ d = 1 ∨ d = 2 ∨ d = 3 := by omega
    · simp [h, noT]
    all_goals
      simp [h, noT]
      rw [Add_f (k + 7) _ _ (by omega) (by omega)]
      unfold addF
      simp
      repeat' split
      all_goals first | rfl | omega | (simp_all; omega)
  · simp [h, noT]
theorem t1 : parseF ⟨#[51, 46, 49, 46, 49]⟩ = ((3, 2, 1, 1, 0), 0) := by kernel_rfl
theorem t2 : stamp_Write.f 3 1 2 0 0 = some (⟨#[1, 3, 2]⟩, 0) := by kernel_rfl
theorem t3 : stamp_Read.f 40 ⟨#[1, 3, 2]⟩ 0 = some (3, 1, 2, 0, 0, ⟨#[]⟩, 0) := by kernel_rfl
theorem t4 : stamp_Text.f 3 2 1 1 0 = some (⟨#[51, 46, 49, 46, 49]⟩, 0) := by
  have h3 : M08.dig 3 = [51] := M08.dig_lt (by omega)
  have h1 : M08.dig 1 = [49] := M08.dig_lt (by omega)
  have e : stamp_Text.f 3 2 1 1 0 = some (dots [strOfNums (M08.dig 3), strOfNums (M08.dig 1), strOfNums (M08.dig 1)], 0) := by
    kernel_rfl
  have e2 : (some (dots [strOfNums [51], strOfNums [49], strOfNums [49]], 0) : Option (ByteArray × Int)) = some (⟨#[51, 46, 49, 46, 49]⟩, 0) := by kernel_rfl
  rw [h3, h1] at e
  exact e.trans e2
theorem works_pure : watershedlaw04_works.f 40 = some true := by
  unfold watershedlaw04_works.f
  have p : stamp_Parse.f ⟨#[51, 46, 49, 46, 49]⟩ = some (3, 2, 1, 1, 0, 0) := by
    unfold stamp_Parse.f
    rw [if_pos (by decide), t1]
  have a1 : watershedlaw04_at.f 3 1 = some (3, 1, 1, 0, 0) := rfl
  have a2 : watershedlaw04_at.f 3 2 = some (3, 1, 2, 0, 0) := rfl
  have a3 : watershedlaw04_at.f 4 0 = some (4, 1, 0, 0, 0) := rfl
  have a4 : stamp_Enter.f 3 1 1 0 0 = some (3, 2, 1, 0, 0, 0) := by kernel_rfl
  have a5 : stamp_Next.f 40 3 2 1 0 0 = some (3, 2, 1, 1, 0, 0) := by kernel_rfl
  have a6 : stamp_Leave.f 3 2 1 1 0 = some (3, 1, 1, 0, 0, 0) := by kernel_rfl
  have a7 : stamp_Leave.f 0 0 0 0 0 = some (0, 0, 0, 0, 0, 10) := by kernel_rfl
  have n : code_New.f ⟨#[1, 3, 2]⟩ = some (⟨#[1, 3, 2]⟩, 0) := rfl
  have l1 : stamp_LE.f 3 1 1 0 0 3 1 2 0 0 = some true := by kernel_rfl
  have l2 : stamp_LE.f 3 1 2 0 0 3 1 1 0 0 = some false := by kernel_rfl
  have l3 : stamp_LE.f 3 1 1 0 0 4 1 0 0 0 = some false := by kernel_rfl
  have l4 : stamp_LE.f 4 1 0 0 0 3 1 1 0 0 = some false := by kernel_rfl
  have c1 : stamp_Compare.f 40 3 1 1 0 0 4 1 0 0 0 = some (-1) := by kernel_rfl
  have hl : (⟨#[51, 46, 49, 46, 49]⟩ : ByteArray).toList = [51, 46, 49, 46, 49] := by kernel_rfl
  simp [a1, a2, a3, a4, a5, a6, a7, t4, p, t2, n, t3, l1, l2, l3, l4, c1, hl]
end Go.Proofs.YtjkbgcdhhiakmaaDoor.P04o
