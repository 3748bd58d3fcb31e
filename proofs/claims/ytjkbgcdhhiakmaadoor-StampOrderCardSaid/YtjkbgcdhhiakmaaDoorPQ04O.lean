import Derived.Test.YtjkbgcdhhiakmaaDoorQ04Ox
import Derived.Test.YtjkbgcdhhiakmaaDoorPX04o
/- Plain: the law StampOrder. -/
namespace Go.Proofs.YtjkbgcdhhiakmaaDoor.P04O
set_option linter.unusedSimpArgs false
open Go.RowKit Go.Proofs.YtjkbgcdhhiakmaaDoorW.PrintWords Go.Proofs.YtjkbgcdhhiakmaaDoorW.PrintLast Go.Proofs.YtjkbgcdhhiakmaaDoorW.PrintMore Go.Proofs.YtjkbgcdhhiakmaaDoor.Q04O Go.Proofs.YtjkbgcdhhiakmaaDoor.Pl Go.Proofs.YtjkbgcdhhiakmaaDoor.Ext
open Go.Proofs.YtjkbgcdhhiakmaaDoor.P04 (w01 w11 w12 w22 w23 w33 w34 w44 w00 chk chk_ok chk_cases rd0 rd1)
open Go.Proofs.YtjkbgcdhhiakmaaDoor.P04x
open Go.Proofs.YtjkbgcdhhiakmaaDoor.P04o (T6 noT sgc sgc_zero orZ cmpT enterF leaveF nextF addF)
theorem Check_f (e d a b c : Int) : stamp_chk.f e d a b c = some (chk e d a b c) := rfl
theorem refCheck_f (e d a b c : Int) : ref_chk.f e d a b c = some (chk e d a b c) := rfl
theorem ok_f (a0 a1 a2 a3 a4 b0 b1 b2 b3 b4 c0 c1 c2 c3 c4 : Int) : watershedlaw04_ok.f a0 a1 a2 a3 a4 b0 b1 b2 b3 b4 c0 c1 c2 c3 c4 = some (decide (chk a0 a1 a2 a3 a4 = 0 ∧ chk b0 b1 b2 b3 b4 = 0 ∧ chk c0 c1 c2 c3 c4 = 0 ∧ a1 = b1 ∧ b1 = c1)) := by
  unfold watershedlaw04_ok.f
  rw [refCheck_f, refCheck_f, refCheck_f]
  simp only [Option.bind_some]
  by_cases h1 : chk a0 a1 a2 a3 a4 = 0
  · by_cases h2 : chk b0 b1 b2 b3 b4 = 0
    · by_cases h3 : chk c0 c1 c2 c3 c4 = 0
      · by_cases h4 : a1 = b1
        · subst h4
          by_cases h5 : a1 = c1
          · subst h5; simp [h1, h2, h3]
          · simp [h1, h2, h3, h5]
        · simp [h1, h2, h3, h4]
      · simp [h1, h2, h3]
    · simp [h1, h2]
  · simp [h1]
theorem sgc_neg (x y : Int) : sgc x y = -sgc y x := by
  unfold sgc
  repeat' split
  all_goals omega
theorem sgc_lt {x y : Int} : sgc x y < 0 ↔ x < y := by
  unfold sgc
  repeat' split
  all_goals omega
theorem sgc_le {x y : Int} : sgc x y ≤ 0 ↔ x ≤ y := by
  unfold sgc
  repeat' split
  all_goals omega
theorem sgc_b (x y : Int) : -1 ≤ sgc x y ∧ sgc x y ≤ 1 := by
  unfold sgc
  repeat' split
  all_goals omega
theorem orZ_neg (x y : Int) : orZ (-x) (-y) = -orZ x y := by
  unfold orZ
  repeat' split
  all_goals omega
theorem orZ_lt {x y : Int} : orZ x y < 0 ↔ x < 0 ∨ x = 0 ∧ y < 0 := by
  unfold orZ
  split <;> omega
theorem orZ_le {x y : Int} : orZ x y ≤ 0 ↔ x < 0 ∨ x = 0 ∧ y ≤ 0 := by
  unfold orZ
  split <;> omega
theorem orZ_zero {x y : Int} : orZ x y = 0 ↔ x = 0 ∧ y = 0 := by
  unfold orZ
  split <;> omega
theorem orZ_b {x y : Int} (hx : -1 ≤ x ∧ x ≤ 1) (hy : -1 ≤ y ∧ y ≤ 1) : -1 ≤ orZ x y ∧ orZ x y ≤ 1 := by
  unfold orZ
  split <;> omega
theorem cmpT_neg (a0 a1 a2 a3 a4 b0 b1 b2 b3 b4 : Int) : cmpT a0 a1 a2 a3 a4 b0 b1 b2 b3 b4 = -cmpT b0 b1 b2 b3 b4 a0 a1 a2 a3 a4 := by
  unfold cmpT
  rw [sgc_neg a1 b1, sgc_neg a0 b0, sgc_neg a2 b2, sgc_neg a3 b3, sgc_neg a4 b4, orZ_neg, orZ_neg, orZ_neg, orZ_neg]
theorem cmpT_b (a0 a1 a2 a3 a4 b0 b1 b2 b3 b4 : Int) : -1 ≤ cmpT a0 a1 a2 a3 a4 b0 b1 b2 b3 b4 ∧ cmpT a0 a1 a2 a3 a4 b0 b1 b2 b3 b4 ≤ 1 :=
  orZ_b (orZ_b (orZ_b (orZ_b (sgc_b _ _) (sgc_b _ _)) (sgc_b _ _)) (sgc_b _ _)) (sgc_b _ _)
theorem cmpT_le {a0 a1 a2 a3 a4 b0 b1 b2 b3 b4 : Int} : cmpT a0 a1 a2 a3 a4 b0 b1 b2 b3 b4 ≤ 0 ↔ a1 < b1 ∨ a1 = b1 ∧ (a0 < b0 ∨ a0 = b0 ∧ (a2 < b2 ∨ a2 = b2 ∧ (a3 < b3 ∨ a3 = b3 ∧ a4 ≤ b4))) := by
  unfold cmpT
  simp only [orZ_le, orZ_lt, orZ_zero, sgc_lt, sgc_zero, sgc_le]
  omega
theorem cmpT_zero {a0 a1 a2 a3 a4 b0 b1 b2 b3 b4 : Int} : cmpT a0 a1 a2 a3 a4 b0 b1 b2 b3 b4 = 0 ↔ a0 = b0 ∧ a1 = b1 ∧ a2 = b2 ∧ a3 = b3 ∧ a4 = b4 := by
  unfold cmpT
  simp only [orZ_zero, sgc_zero]
  omega
theorem cmpT_trans {a0 a1 a2 a3 a4 b0 b1 b2 b3 b4 c0 c1 c2 c3 c4 : Int} (h1 : cmpT a0 a1 a2 a3 a4 b0 b1 b2 b3 b4 ≤ 0) (h2 : cmpT b0 b1 b2 b3 b4 c0 c1 c2 c3 c4 ≤ 0) : cmpT a0 a1 a2 a3 a4 c0 c1 c2 c3 c4 ≤ 0 := by
  rw [cmpT_le] at h1 h2 ⊢
  rcases h1 with h1 | ⟨rfl, h1 | ⟨rfl, h1 | ⟨rfl, h1 | ⟨rfl, h1⟩⟩⟩⟩ <;> rcases h2 with h2 | ⟨rfl, h2 | ⟨rfl, h2 | ⟨rfl, h2 | ⟨rfl, h2⟩⟩⟩⟩ <;> omega
theorem leB_trans {a0 a1 a2 a3 a4 b0 b1 b2 b3 b4 c0 c1 c2 c3 c4 : Int} (h1 : leB a0 a1 a2 a3 a4 b0 b1 b2 b3 b4 = true) (h2 : leB b0 b1 b2 b3 b4 c0 c1 c2 c3 c4 = true) : leB a0 a1 a2 a3 a4 c0 c1 c2 c3 c4 = true := by
  have h1 := of_decide_eq_true h1
  have h2 := of_decide_eq_true h2
  exact decide_eq_true (by omega)
theorem w0n (x : Int) (h : -1 ≤ x ∧ x ≤ 1) : wrap64 (-x) = -x := by
  unfold wrap64
  omega
theorem j3_t (a0 a1 a2 a3 a4 b0 b1 b2 b3 b4 c0 c1 c2 c3 c4 : Int) (k : Nat) : watershedlaw04_StampOrder.j3 (k + 1) false a0 a1 a2 a3 a4 b0 b1 b2 b3 b4 c0 c1 c2 c3 c4 = some true := by
  rw [watershedlaw04_StampOrder.j3]
  rw [if_neg (by decide), ok_f, Option.bind_some]
  by_cases h : chk a0 a1 a2 a3 a4 = 0 ∧ chk b0 b1 b2 b3 b4 = 0 ∧ chk c0 c1 c2 c3 c4 = 0 ∧ a1 = b1 ∧ b1 = c1
  · rw [decide_eq_true h, if_pos rfl]
    obtain ⟨ha, hb, hc, rfl, rfl⟩ := h
    have ka := chk_ok ha
    have kb := chk_ok hb
    have le1 : leB a0 a1 a2 a3 a4 b0 a1 b2 b3 b4 = true → cmpT a0 a1 a2 a3 a4 b0 a1 b2 b3 b4 ≤ 0 := fun q => by
      have q := of_decide_eq_true q
      rw [cmpT_le]
      omega
    have le2 : leB a0 a1 a2 a3 a4 b0 a1 b2 b3 b4 = true → leB b0 a1 b2 b3 b4 a0 a1 a2 a3 a4 = true → a0 = b0 ∧ a2 = b2 ∧ a3 = b3 ∧ a4 = b4 := fun q q2 => by
      have q := of_decide_eq_true q
      have q2 := of_decide_eq_true q2
      omega
    simp only [stamp_LE.f, Option.bind_some, Compare_x]
    cases g1 : leB a0 a1 a2 a3 a4 b0 a1 b2 b3 b4 with
    | false => rfl
    | true =>
      rw [if_pos rfl, decide_eq_true (le1 g1)]
      cases g2 : leB b0 a1 b2 b3 b4 a0 a1 a2 a3 a4 with
      | false => rfl
      | true =>
        obtain ⟨rfl, rfl, rfl, rfl⟩ := le2 g1 g2
        simp
  · rw [decide_eq_false h]
    rfl
theorem j2_t (a0 a1 a2 a3 a4 b0 b1 b2 b3 b4 c0 c1 c2 c3 c4 : Int) (k : Nat) : watershedlaw04_StampOrder.j2 (k + 2) false a0 a1 a2 a3 a4 b0 b1 b2 b3 b4 c0 c1 c2 c3 c4 = some true := by
  rw [watershedlaw04_StampOrder.j2]
  rw [if_neg (by decide), Compare_x, Compare_x]
  simp only [Option.bind_some]
  rw [w0n _ (cmpT_b b0 b1 b2 b3 b4 a0 a1 a2 a3 a4), if_pos (cmpT_neg a0 a1 a2 a3 a4 b0 b1 b2 b3 b4)]
  have e : ((cmpT a0 a1 a2 a3 a4 b0 b1 b2 b3 b4 == 0) != (a0 == b0 && (a1 == b1 && ((a2 == b2 && (a3 == b3 && (a4 == b4))))))) = false := by
    by_cases h : cmpT a0 a1 a2 a3 a4 b0 b1 b2 b3 b4 = 0
    · obtain ⟨rfl, rfl, rfl, rfl, rfl⟩ := cmpT_zero.1 h
      simp [h]
    · have h2 : ¬ (a0 = b0 ∧ a1 = b1 ∧ a2 = b2 ∧ a3 = b3 ∧ a4 = b4) := fun q => h (cmpT_zero.2 q)
      rw [beq_eq_false_iff_ne.2 h]
      have e3 : (a0 == b0 && (a1 == b1 && ((a2 == b2 && (a3 == b3 && (a4 == b4)))))) = false := by
        apply Bool.eq_false_iff.2
        intro q
        simp only [Bool.and_eq_true, beq_iff_eq] at q
        exact h2 q
      rw [e3]
      rfl
  rw [e]
  exact j3_t ..
theorem j1_t (a0 a1 a2 a3 a4 b0 b1 b2 b3 b4 c0 c1 c2 c3 c4 : Int) (k : Nat) : watershedlaw04_StampOrder.j1 (k + 3) false a0 a1 a2 a3 a4 b0 b1 b2 b3 b4 c0 c1 c2 c3 c4 = some true := by
  rw [watershedlaw04_StampOrder.j1]
  rw [if_neg (by decide), Compare_x, Compare_x, Compare_x]
  simp only [Option.bind_some]
  by_cases h1 : cmpT a0 a1 a2 a3 a4 b0 b1 b2 b3 b4 ≤ 0
  · by_cases h2 : cmpT b0 b1 b2 b3 b4 c0 c1 c2 c3 c4 ≤ 0
    · rw [if_pos h1, if_pos h2, decide_eq_false (by have := cmpT_trans h1 h2; omega)]
      exact j2_t ..
    · rw [if_pos h1, if_neg h2]
      exact j2_t ..
  · rw [if_neg h1]
    exact j2_t ..
theorem j0_t (a0 a1 a2 a3 a4 b0 b1 b2 b3 b4 c0 c1 c2 c3 c4 : Int) (k : Nat) : watershedlaw04_StampOrder.j0 (k + 4) false a0 a1 a2 a3 a4 b0 b1 b2 b3 b4 c0 c1 c2 c3 c4 = some true := by
  rw [watershedlaw04_StampOrder.j0]
  rw [if_neg (by decide)]
  simp only [Option.bind_some, stamp_LE.f]
  cases h1 : leB a0 a1 a2 a3 a4 b0 b1 b2 b3 b4 with
  | false => exact j1_t ..
  | true =>
    cases h2 : leB b0 b1 b2 b3 b4 c0 c1 c2 c3 c4 with
    | false => exact j1_t ..
    | true =>
      rw [if_pos rfl, if_pos rfl, leB_trans h1 h2]
      exact j1_t ..
theorem StampOrder_pure (a0 a1 a2 a3 a4 b0 b1 b2 b3 b4 c0 c1 c2 c3 c4 : Int) : watershedlaw04_StampOrder.f 40 a0 a1 a2 a3 a4 b0 b1 b2 b3 b4 c0 c1 c2 c3 c4 = some true := by
  unfold watershedlaw04_StampOrder.f
  rw [works_x, Option.bind_some, if_pos rfl, refCheck_f, Option.bind_some]
  by_cases h : chk a0 a1 a2 a3 a4 = 0
  · have ka := chk_ok h
    have e : leB a0 a1 a2 a3 a4 a0 a1 a2 a3 a4 = true := decide_eq_true (by omega)
    rw [if_pos h]
    simp only [stamp_LE.f, Option.bind_some, e]
    exact j0_t ..
  · rw [if_neg h]
    exact j0_t ..
end Go.Proofs.YtjkbgcdhhiakmaaDoor.P04O
