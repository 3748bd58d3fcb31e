import Derived.Test.YtjkbgcdhhiakmaaDoorQ04Ax
import Derived.Test.YtjkbgcdhhiakmaaDoorPX04o
/- Plain: the law StampAlong. -/
namespace Go.Proofs.YtjkbgcdhhiakmaaDoor.P04A
set_option linter.unusedSimpArgs false
open Go.RowKit Go.Proofs.YtjkbgcdhhiakmaaDoorW.PrintWords Go.Proofs.YtjkbgcdhhiakmaaDoorW.PrintLast Go.Proofs.YtjkbgcdhhiakmaaDoorW.PrintMore Go.Proofs.YtjkbgcdhhiakmaaDoor.Q04A Go.Proofs.YtjkbgcdhhiakmaaDoor.Pl Go.Proofs.YtjkbgcdhhiakmaaDoor.Ext
open Go.Proofs.YtjkbgcdhhiakmaaDoor.P04 (w01 w11 w12 w22 w23 w33 w34 w44 w00 chk chk_ok chk_cases rd0 rd1)
open Go.Proofs.YtjkbgcdhhiakmaaDoor.P04x
open Go.Proofs.YtjkbgcdhhiakmaaDoor.P04o (T6 noT sgc sgc_zero orZ cmpT enterF leaveF nextF addF)
theorem Check_f (e d a b c : Int) : stamp_chk.f e d a b c = some (chk e d a b c) := rfl
theorem refCheck_f (e d a b c : Int) : ref_chk.f e d a b c = some (chk e d a b c) := rfl
theorem ok_f (a0 a1 a2 a3 a4 b0 b1 b2 b3 b4 c0 c1 c2 c3 c4 : Int) : watershedlaw04_ok.f a0 a1 a2 a3 a4 b0 b1 b2 b3 b4 c0 c1 c2 c3 c4 = some (decide (chk a0 a1 a2 a3 a4 = 0 ∧ chk b0 b1 b2 b3 b4 = 0 ∧ chk c0 c1 c2 c3 c4 = 0 ∧ a1 = b1 ∧ b1 = c1)) := by
  unfold watershedlaw04_ok.f
  rw [refCheck_f, refCheck_f, refCheck_f]
  simp only [Option.bind_some]
  by_cases h1 : chk a0 a1 a2 a3 a4 = 0
  · by_cases h2 : chk b0 b1 b2 b3 b4 = 0
    · by_cases h3 : chk c0 c1 c2 c3 c4 = 0
      · by_cases h4 : a1 = b1
        · subst h4
          by_cases h5 : a1 = c1
          · subst h5; simp [h1, h2, h3]
          · simp [h1, h2, h3, h5]
        · simp [h1, h2, h3, h4]
      · simp [h1, h2, h3]
    · simp [h1, h2]
  · simp [h1]
def laterF (e d a b c n : Int) : T6 := if chk e d a b c ≠ 0 then noT (chk e d a b c) else if (addF e n).2 = 0 then ((addF e n).1, d, a, b, c, 0) else noT (addF e n).2
theorem Later_f (e d a b c n : Int) (he : 0 ≤ e ∧ e < 4294967296) (hn : 0 ≤ n ∧ n < 4294967296) : stamp_Later.f e d a b c n = some (laterF e d a b c n) := by
  unfold stamp_Later.f laterF
  rw [Check_f, Option.bind_some]
  by_cases h : chk e d a b c = 0
  · rw [if_pos h, Add_x e n he hn, Option.bind_some, if_neg (show ¬ chk e d a b c ≠ 0 from fun q => q h)]
    by_cases h2 : (addF e n).2 = 0
    · rw [if_pos h2, if_pos h2]
    · rw [if_neg h2, if_neg h2]; rfl
  · rw [if_neg h, if_pos h]; rfl
/-- What holds of two times of one depth of which the first is not behind. -/
structure Two (a0 a1 a2 a3 a4 b0 b1 b2 b3 b4 : Int) : Prop where
  ha : chk a0 a1 a2 a3 a4 = 0
  hb : chk b0 b1 b2 b3 b4 = 0
  e : a1 = b1
  le : a0 ≤ b0 ∧ (0 < a1 → a2 ≤ b2) ∧ (1 < a1 → a3 ≤ b3) ∧ (2 < a1 → a4 ≤ b4)
  n : 0 ≤ a0 ∧ 0 ≤ a2 ∧ 0 ≤ a3 ∧ 0 ≤ a4 ∧ 0 ≤ b0 ∧ 0 ≤ b2 ∧ 0 ≤ b3 ∧ 0 ≤ b4
theorem j3_t {a0 a1 a2 a3 a4 b0 b1 b2 b3 b4 : Int} (H : Two a0 a1 a2 a3 a4 b0 b1 b2 b3 b4) (n : Int) (hn : 0 ≤ n ∧ n < 4294967296) (k : Nat) : watershedlaw04_StampAlong.j3 (k + 1) n false a0 a1 a2 a3 a4 b0 b1 b2 b3 b4 = some true := by
  obtain ⟨ha, hb, rfl, le, nn⟩ := H
  have ka := chk_ok ha
  have kb := chk_ok hb
  rw [watershedlaw04_StampAlong.j3]
  rw [if_neg (by decide), Later_f _ _ _ _ _ _ (by omega) hn, Later_f _ _ _ _ _ _ (by omega) hn]
  simp only [Option.bind_some]
  unfold laterF addF
  simp only [ha, hb, ne_eq, not_true_eq_false, if_false, noT]
  have e : ∀ x y, x ≤ y → leB x a1 a2 a3 a4 y a1 b2 b3 b4 = true := fun x y h => decide_eq_true (by omega)
  by_cases c0 : n > 1048576
  · simp [c0]
  · by_cases c1 : b0 + n > 1048576
    · rw [if_neg (show ¬ (b0 > 1048576 ∨ n > 1048576) from by omega), if_pos c1]
      rfl
    · simp [show ¬ (b0 > 1048576 ∨ n > 1048576) from by omega, show ¬ (a0 > 1048576 ∨ n > 1048576) from by omega, show ¬ (a0 + n > 1048576) from by omega, c1, stamp_LE.f, e (a0 + n) (b0 + n) (by omega)]
theorem j2_t {a0 a1 a2 a3 a4 b0 b1 b2 b3 b4 : Int} (H : Two a0 a1 a2 a3 a4 b0 b1 b2 b3 b4) (n : Int) (hn : 0 ≤ n ∧ n < 4294967296) (k : Nat) : watershedlaw04_StampAlong.j2 (k + 2) n false a0 a1 a2 a3 a4 b0 b1 b2 b3 b4 = some true := by
  have H' := H
  obtain ⟨ha, hb, rfl, le, nn⟩ := H
  have ka := chk_ok ha
  have kb := chk_ok hb
  rw [watershedlaw04_StampAlong.j2]
  rw [if_neg (by decide), Next_x _ _ _ _ _ (by omega) (by omega) (by omega), Next_x _ _ _ _ _ (by omega) (by omega) (by omega)]
  simp only [Option.bind_some, stamp_LE.f]
  unfold nextF
  simp only [ha, hb, ne_eq, not_true_eq_false, if_false, noT]
  have e : ∀ d x2 x3 x4 y2 y3 y4 : Int, d = a1 → (0 < a1 → x2 ≤ y2) → (1 < a1 → x3 ≤ y3) → (2 < a1 → x4 ≤ y4) → leB a0 d x2 x3 x4 b0 d y2 y3 y4 = true := fun d x2 x3 x4 y2 y3 y4 h0 h1 h2 h3 => decide_eq_true (by omega)
  obtain rfl | rfl | rfl | rfl : a1 = 0 ∨ a1 = 1 ∨ a1 = 2 ∨ a1 = 3 := by omega
  · simp
    exact j3_t H' n hn k
  · by_cases c : b2 = 1048576
    · simp [c]
      exact c ▸ j3_t H' n hn k
    · simp [c, show ¬ a2 = 1048576 from by omega, e 1 (a2 + 1) a3 a4 (b2 + 1) b3 b4 rfl (by omega) (by omega) (by omega)]
      exact j3_t H' n hn k
  · by_cases c : b3 = 1048576
    · simp [c]
      exact c ▸ j3_t H' n hn k
    · simp [c, show ¬ a3 = 1048576 from by omega, e 2 a2 (a3 + 1) a4 b2 (b3 + 1) b4 rfl (by omega) (by omega) (by omega)]
      exact j3_t H' n hn k
  · by_cases c : b4 = 1048576
    · simp [c]
      exact c ▸ j3_t H' n hn k
    · simp [c, show ¬ a4 = 1048576 from by omega, e 3 a2 a3 (a4 + 1) b2 b3 (b4 + 1) rfl (by omega) (by omega) (by omega)]
      exact j3_t H' n hn k
theorem j1_t {a0 a1 a2 a3 a4 b0 b1 b2 b3 b4 : Int} (H : Two a0 a1 a2 a3 a4 b0 b1 b2 b3 b4) (n : Int) (hn : 0 ≤ n ∧ n < 4294967296) (k : Nat) : watershedlaw04_StampAlong.j1 (k + 3) n false a0 a1 a2 a3 a4 b0 b1 b2 b3 b4 = some true := by
  have H' := H
  obtain ⟨ha, hb, rfl, le, nn⟩ := H
  have ka := chk_ok ha
  have kb := chk_ok hb
  rw [watershedlaw04_StampAlong.j1]
  rw [if_neg (by decide), Leave_x, Leave_x]
  simp only [Option.bind_some, stamp_LE.f]
  unfold leaveF
  simp only [ha, hb, ne_eq, not_true_eq_false, if_false, noT]
  have e : ∀ d x2 x3 x4 y2 y3 y4 : Int, 0 ≤ d ∧ d ≤ 3 → (0 < d → x2 ≤ y2) → (1 < d → x3 ≤ y3) → (2 < d → x4 ≤ y4) → leB a0 d x2 x3 x4 b0 d y2 y3 y4 = true := fun d x2 x3 x4 y2 y3 y4 h0 h1 h2 h3 => decide_eq_true (by omega)
  obtain rfl | rfl | rfl | rfl : a1 = 0 ∨ a1 = 1 ∨ a1 = 2 ∨ a1 = 3 := by omega
  · simp
    exact j2_t H' n hn k
  · simp [e 0 0 a3 a4 0 b3 b4 (by omega) (by omega) (by omega) (by omega)]
    exact j2_t H' n hn k
  · simp [e 1 a2 0 a4 b2 0 b4 (by omega) (by omega) (by omega) (by omega)]
    exact j2_t H' n hn k
  · simp [e 2 a2 a3 0 b2 b3 0 (by omega) (by omega) (by omega) (by omega)]
    exact j2_t H' n hn k
theorem j0_t {a0 a1 a2 a3 a4 b0 b1 b2 b3 b4 : Int} (H : Two a0 a1 a2 a3 a4 b0 b1 b2 b3 b4) (n : Int) (hn : 0 ≤ n ∧ n < 4294967296) (k : Nat) : watershedlaw04_StampAlong.j0 (k + 4) n false a0 a1 a2 a3 a4 b0 b1 b2 b3 b4 = some true := by
  have H' := H
  obtain ⟨ha, hb, rfl, le, nn⟩ := H
  have ka := chk_ok ha
  have kb := chk_ok hb
  rw [watershedlaw04_StampAlong.j0]
  rw [if_neg (by decide), Enter_x, Enter_x]
  simp only [Option.bind_some, stamp_LE.f]
  unfold enterF
  simp only [ha, hb, ne_eq, not_true_eq_false, if_false, noT]
  by_cases c : a1 = 3
  · simp [c]
    exact c ▸ j1_t H' n hn k
  · have e : leB a0 (a1 + 1) a2 a3 a4 b0 (a1 + 1) b2 b3 b4 = true := decide_eq_true (by omega)
    simp [c, e]
    exact j1_t H' n hn k
theorem StampAlong_pure (a0 a1 a2 a3 a4 b0 b1 b2 b3 b4 n : Int) (hn : 0 ≤ n ∧ n < 4294967296) (nn : 0 ≤ a0 ∧ 0 ≤ a2 ∧ 0 ≤ a3 ∧ 0 ≤ a4 ∧ 0 ≤ b0 ∧ 0 ≤ b2 ∧ 0 ≤ b3 ∧ 0 ≤ b4) : watershedlaw04_StampAlong.f 40 a0 a1 a2 a3 a4 b0 b1 b2 b3 b4 n = some true := by
  unfold watershedlaw04_StampAlong.f
  rw [works_x, Option.bind_some, if_pos rfl, ok_f, Option.bind_some]
  by_cases h : chk a0 a1 a2 a3 a4 = 0 ∧ chk b0 b1 b2 b3 b4 = 0 ∧ chk b0 b1 b2 b3 b4 = 0 ∧ a1 = b1 ∧ b1 = b1
  · rw [decide_eq_true h, if_pos rfl]
    simp only [stamp_LE.f, Option.bind_some]
    cases g : leB a0 a1 a2 a3 a4 b0 b1 b2 b3 b4 with
    | false => rfl
    | true =>
      have q := of_decide_eq_true g
      exact j0_t ⟨h.1, h.2.1, h.2.2.2.1, ⟨q.2.2.2.1, q.2.2.2.2.1, q.2.2.2.2.2.1, q.2.2.2.2.2.2⟩, nn⟩ n hn 36
  · rw [decide_eq_false h]
    rfl
end Go.Proofs.YtjkbgcdhhiakmaaDoor.P04A
