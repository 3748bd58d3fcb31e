import Derived.Test.YtjkbgcdhhiakmaaDoorQ04Bx4
import Derived.Test.YtjkbgcdhhiakmaaDoorPX04o
/- Plain: the law StampBounds. -/
namespace Go.Proofs.YtjkbgcdhhiakmaaDoor.P04B
set_option linter.unusedSimpArgs false
open Go.RowKit Go.Proofs.YtjkbgcdhhiakmaaDoorW.PrintWords Go.Proofs.YtjkbgcdhhiakmaaDoorW.PrintLast Go.Proofs.YtjkbgcdhhiakmaaDoorW.PrintMore Go.Proofs.YtjkbgcdhhiakmaaDoor.Q04B Go.Proofs.YtjkbgcdhhiakmaaDoor.Pl Go.Proofs.YtjkbgcdhhiakmaaDoor.Ext
open Go.Proofs.YtjkbgcdhhiakmaaDoor.P04 (w01 w11 w12 w22 w23 w33 w34 w44 w00 chk chk_ok chk_cases rd0 rd1)
open Go.Proofs.YtjkbgcdhhiakmaaDoor.P04x
open Go.Proofs.YtjkbgcdhhiakmaaDoor.P04o (T6 noT sgc sgc_zero orZ cmpT enterF leaveF nextF addF)
theorem Check_f (e d a b c : Int) : stamp_chk.f e d a b c = some (chk e d a b c) := rfl
theorem refCheck_f (e d a b c : Int) : ref_chk.f e d a b c = some (chk e d a b c) := rfl
theorem api_Or_f (k : Nat) (x y : Int) : api_Errno.f (k + 5) [x, y] = some (if x = 0 then y else x) := by
  unfold api_Errno.f
  simp [api_Errno.l0, w11, w22, rd0, rd1]
  repeat' split
  all_goals first | rfl | omega | (simp_all; done)
def both (a0 a1 a2 a3 a4 b0 b1 b2 b3 b4 : Int) : Int := if chk a0 a1 a2 a3 a4 ≠ 0 then chk a0 a1 a2 a3 a4 else if chk b0 b1 b2 b3 b4 ≠ 0 then chk b0 b1 b2 b3 b4 else if a1 = b1 then 0 else 10
theorem pair_f (k : Nat) (a0 a1 a2 a3 a4 b0 b1 b2 b3 b4 : Int) : stamp_pair.f (k + 12) a0 a1 a2 a3 a4 b0 b1 b2 b3 b4 = some (both a0 a1 a2 a3 a4 b0 b1 b2 b3 b4) := by
  unfold stamp_pair.f both
  rw [Check_f, Check_f]
  simp [api_Or_f (k + 7)]
  repeat' split
  all_goals first | rfl | omega | (simp_all; done)
def joinF (a0 a1 a2 a3 a4 b0 b1 b2 b3 b4 : Int) : T6 := if both a0 a1 a2 a3 a4 b0 b1 b2 b3 b4 = 0 then (mx a0 b0, a1, mx a2 b2, mx a3 b3, mx a4 b4, 0) else noT (both a0 a1 a2 a3 a4 b0 b1 b2 b3 b4)
def meetF (a0 a1 a2 a3 a4 b0 b1 b2 b3 b4 : Int) : T6 := if both a0 a1 a2 a3 a4 b0 b1 b2 b3 b4 = 0 then (mn a0 b0, a1, mn a2 b2, mn a3 b3, mn a4 b4, 0) else noT (both a0 a1 a2 a3 a4 b0 b1 b2 b3 b4)
theorem Join_f (k : Nat) (a0 a1 a2 a3 a4 b0 b1 b2 b3 b4 : Int) : stamp_Join.f (k + 12) a0 a1 a2 a3 a4 b0 b1 b2 b3 b4 = some (joinF a0 a1 a2 a3 a4 b0 b1 b2 b3 b4) := by
  unfold stamp_Join.f joinF
  rw [pair_f]
  simp [stamp_Join.l0, w11, w22, w33]
  split <;> rfl
theorem Meet_f (k : Nat) (a0 a1 a2 a3 a4 b0 b1 b2 b3 b4 : Int) : stamp_Meet.f (k + 12) a0 a1 a2 a3 a4 b0 b1 b2 b3 b4 = some (meetF a0 a1 a2 a3 a4 b0 b1 b2 b3 b4) := by
  unfold stamp_Meet.f meetF
  rw [pair_f]
  simp [stamp_Meet.l0, w11, w22, w33]
  split <;> rfl
theorem ok_f (a0 a1 a2 a3 a4 b0 b1 b2 b3 b4 c0 c1 c2 c3 c4 : Int) : watershedlaw04_ok.f a0 a1 a2 a3 a4 b0 b1 b2 b3 b4 c0 c1 c2 c3 c4 = some (decide (chk a0 a1 a2 a3 a4 = 0 ∧ chk b0 b1 b2 b3 b4 = 0 ∧ chk c0 c1 c2 c3 c4 = 0 ∧ a1 = b1 ∧ b1 = c1)) := by
  unfold watershedlaw04_ok.f
  rw [refCheck_f, refCheck_f, refCheck_f]
  simp only [Option.bind_some]
  by_cases h1 : chk a0 a1 a2 a3 a4 = 0
  · by_cases h2 : chk b0 b1 b2 b3 b4 = 0
    · by_cases h3 : chk c0 c1 c2 c3 c4 = 0
      · by_cases h4 : a1 = b1
        · subst h4
          by_cases h5 : a1 = c1
          · subst h5; simp [h1, h2, h3]
          · simp [h1, h2, h3, h5]
        · simp [h1, h2, h3, h4]
      · simp [h1, h2, h3]
    · simp [h1, h2]
  · simp [h1]
theorem StampBounds_pure (a0 a1 a2 a3 a4 b0 b1 b2 b3 b4 c0 c1 c2 c3 c4 : Int) : watershedlaw04_StampBounds.f 40 a0 a1 a2 a3 a4 b0 b1 b2 b3 b4 c0 c1 c2 c3 c4 = some true := by
  unfold watershedlaw04_StampBounds.f
  rw [works_x, Option.bind_some, if_pos rfl, ok_f, Option.bind_some]
  by_cases h : chk a0 a1 a2 a3 a4 = 0 ∧ chk b0 b1 b2 b3 b4 = 0 ∧ chk c0 c1 c2 c3 c4 = 0 ∧ a1 = b1 ∧ b1 = c1
  · obtain ⟨ha, hb, hc, rfl, rfl⟩ := h
    have ka := chk_ok ha
    have kb := chk_ok hb
    have kc := chk_ok hc
    have b1 : both a0 a1 a2 a3 a4 b0 a1 b2 b3 b4 = 0 := by simp [both, ha, hb]
    have b2' : both b0 a1 b2 b3 b4 a0 a1 a2 a3 a4 = 0 := by simp [both, ha, hb]
    have mc : ∀ x y : Int, mx x y = mx y x := fun x y => by unfold mx; repeat' split <;> omega
    have m1 : ∀ x y : Int, x ≤ mx x y ∧ y ≤ mx x y := fun x y => by unfold mx; split <;> omega
    have m2 : ∀ x y : Int, mn x y ≤ x ∧ mn x y ≤ y := fun x y => by unfold mn; split <;> omega
    have m3 : ∀ x y z : Int, x ≤ z → y ≤ z → mx x y ≤ z := fun x y z h1 h2 => by unfold mx; split <;> omega
    have m4 : ∀ x y z : Int, z ≤ x → z ≤ y → z ≤ mn x y := fun x y z h1 h2 => by unfold mn; split <;> omega
    have e1 : leB a0 a1 a2 a3 a4 (mx a0 b0) a1 (mx a2 b2) (mx a3 b3) (mx a4 b4) = true := decide_eq_true ⟨rfl, ka.1, ka.2.1, (m1 _ _).1, fun _ => (m1 _ _).1, fun _ => (m1 _ _).1, fun _ => (m1 _ _).1⟩
    have e2 : leB b0 a1 b2 b3 b4 (mx a0 b0) a1 (mx a2 b2) (mx a3 b3) (mx a4 b4) = true := decide_eq_true ⟨rfl, ka.1, ka.2.1, (m1 _ _).2, fun _ => (m1 _ _).2, fun _ => (m1 _ _).2, fun _ => (m1 _ _).2⟩
    have e3 : leB (mn a0 b0) a1 (mn a2 b2) (mn a3 b3) (mn a4 b4) a0 a1 a2 a3 a4 = true := decide_eq_true ⟨rfl, ka.1, ka.2.1, (m2 _ _).1, fun _ => (m2 _ _).1, fun _ => (m2 _ _).1, fun _ => (m2 _ _).1⟩
    have e4 : leB (mn a0 b0) a1 (mn a2 b2) (mn a3 b3) (mn a4 b4) b0 a1 b2 b3 b4 = true := decide_eq_true ⟨rfl, ka.1, ka.2.1, (m2 _ _).2, fun _ => (m2 _ _).2, fun _ => (m2 _ _).2, fun _ => (m2 _ _).2⟩
    have e5 : leB a0 a1 a2 a3 a4 c0 a1 c2 c3 c4 = true → leB b0 a1 b2 b3 b4 c0 a1 c2 c3 c4 = true → leB (mx a0 b0) a1 (mx a2 b2) (mx a3 b3) (mx a4 b4) c0 a1 c2 c3 c4 = true := fun h1 h2 => by
      have h1 := of_decide_eq_true h1
      have h2 := of_decide_eq_true h2
      exact decide_eq_true ⟨rfl, ka.1, ka.2.1, m3 _ _ _ h1.2.2.2.1 h2.2.2.2.1, fun q => m3 _ _ _ (h1.2.2.2.2.1 q) (h2.2.2.2.2.1 q), fun q => m3 _ _ _ (h1.2.2.2.2.2.1 q) (h2.2.2.2.2.2.1 q), fun q => m3 _ _ _ (h1.2.2.2.2.2.2 q) (h2.2.2.2.2.2.2 q)⟩
    have e6 : leB c0 a1 c2 c3 c4 a0 a1 a2 a3 a4 = true → leB c0 a1 c2 c3 c4 b0 a1 b2 b3 b4 = true → leB c0 a1 c2 c3 c4 (mn a0 b0) a1 (mn a2 b2) (mn a3 b3) (mn a4 b4) = true := fun h1 h2 => by
      have h1 := of_decide_eq_true h1
      have h2 := of_decide_eq_true h2
      exact decide_eq_true ⟨rfl, ka.1, ka.2.1, m4 _ _ _ h1.2.2.2.1 h2.2.2.2.1, fun q => m4 _ _ _ (h1.2.2.2.2.1 q) (h2.2.2.2.2.1 q), fun q => m4 _ _ _ (h1.2.2.2.2.2.1 q) (h2.2.2.2.2.2.1 q), fun q => m4 _ _ _ (h1.2.2.2.2.2.2 q) (h2.2.2.2.2.2.2 q)⟩
    rw [decide_eq_true ⟨ha, hb, hc, rfl, rfl⟩, if_pos rfl, Join_f 28, Meet_f 28, Join_f 28]
    simp only [joinF, meetF, b1, b2', if_true, Option.bind_some, stamp_LE.f, e1, e2, e3, e4, mc b0 a0, mc b2 a2, mc b3 a3, mc b4 a4]
    simp only [beq_self_eq_true, Bool.not_true, Bool.or_self, Bool.false_eq_true, if_false, watershedlaw04_StampBounds.j0, watershedlaw04_StampBounds.j1, Option.bind_some, stamp_LE.f]
    cases g1 : leB a0 a1 a2 a3 a4 c0 a1 c2 c3 c4 <;> cases g2 : leB b0 a1 b2 b3 b4 c0 a1 c2 c3 c4 <;> cases g3 : leB c0 a1 c2 c3 c4 a0 a1 a2 a3 a4 <;> cases g4 : leB c0 a1 c2 c3 c4 b0 a1 b2 b3 b4 <;> simp_all
  · rw [decide_eq_false h]
    rfl
end Go.Proofs.YtjkbgcdhhiakmaaDoor.P04B
