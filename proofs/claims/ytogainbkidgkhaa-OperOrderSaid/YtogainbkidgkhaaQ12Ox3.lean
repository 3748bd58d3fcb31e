-- Laid by wip/pp.py for this seat.
import Derived.Test.YtogainbkidgkhaaQ12Ox0
import Derived.Test.YtogainbkidgkhaaQ12Ox2
namespace Go.Proofs.Ytogainbkidgkhaa.Q12O
open Go.RowKit Go.Proofs.YtogainbkidgkhaaW.PrintWords Go.Proofs.YtogainbkidgkhaaW.PrintLast Go.Proofs.YtogainbkidgkhaaW.PrintMore
attribute [local go_sem] max2_int min2_int max_two min_two max_three min_three max_four min_four   -- for this text's walks alone
set_option linter.unusedVariables false
set_option linter.unusedSimpArgs false

/-! ### data_Spread: function 23 -/
def data_Spread.l0 : Nat → Int → List (List (S25)) → List (S25) → Int → Int → Option ((List (List (S25))) × Int)
  | 0, _, _, _, _, _ => none
  | k + 1, x1, x8, x23, x24, x25 => if x25 < x24 then (if 0 ≤ x25 then (if x25 < (x23.length : Int) then ((num_Part.f ((rd_T25 x23 x25).f0) x1).bind fun bt152 => (if 0 ≤ bt152.1 then (if bt152.1 < (x8.length : Int) then (if (rd_L3 x8 bt152.1).length < 8796093022208 then (data_Spread.l0 k x1 (x8.set (bt152.1 : Int).toNat ((rd_L3 x8 bt152.1) ++ [(⟨(rd_T25 x23 x25).f0, (rd_T25 x23 x25).f1⟩ : S25)])) x23 x24 (wrap64 (x25 + 1))) else (none)) else (none)) else (none))) else (none)) else (none)) else (some (x8, 0))
def data_Spread.f (k : Nat) (l0 : List (S25)) (a1 : Int) : Option ((List (List (S25))) × Int) := (num_Part.f 0 a1).bind fun bt145 => (if bt145.2 = 0 then (if 0 ≤ a1 then (if (a1 : Int).toNat ≤ 11728124029610 then (data_Spread.l0 k a1 (List.replicate (a1 : Int).toNat []) l0 (l0.length : Int) 0) else (none)) else (none)) else (some (([] : List (List (S25))), bt145.2)))
theorem data_Spread.mono_l : ∀ k, (∀ y0 y1 y2 y3 y4, LeO (data_Spread.l0 k y0 y1 y2 y3 y4) (data_Spread.l0 (k + 1) y0 y1 y2 y3 y4))
  | 0 => fun _ _ _ _ _ r h => by simp [data_Spread.l0] at h
  | k + 1 => by
    have ih0 := data_Spread.mono_l k
    · intro y0 y1 y2 y3 y4
      unfold data_Spread.l0
      repeat' first
      | (with_reducible exact ih0 _ _ _ _ _)
      | (with_reducible exact LeO.refl _)
      | (with_reducible exact LeO.none _)
      | (with_reducible refine LeO.ite ?_ ?_)
      | (with_reducible refine LeO.bind ?_ (fun _ => ?_))
      | exact ih0 _ _ _ _ _
      | exact LeO.none _
      | refine LeO.ite ?_ ?_
      | refine LeO.bind ?_ (fun _ => ?_)
theorem data_Spread.mono : ∀ a0 a1 k, LeO (data_Spread.f k a0 a1) (data_Spread.f (k + 1) a0 a1) := by
  intro a0 a1 k
  have ih0 := data_Spread.mono_l k
  unfold data_Spread.f
  repeat' first
      | (with_reducible exact ih0 _ _ _ _ _)
      | (with_reducible exact LeO.refl _)
      | (with_reducible exact LeO.none _)
      | (with_reducible refine LeO.ite ?_ ?_)
      | (with_reducible refine LeO.bind ?_ (fun _ => ?_))
      | exact ih0 _ _ _ _ _
      | exact LeO.none _
      | refine LeO.ite ?_ ?_
      | refine LeO.bind ?_ (fun _ => ?_)
def data_Spread.T9 : Bool × List (List Nat × List Nat) := (true, [([], []), ([], []), ([], []), ([], []), ([2, 3], [2, 3]), ([4], [4]), ([], []), ([6], [6]), ([5, 7], [5, 7]), ([0, 1, 0, 1, 2, 3, 4, 5, 6, 7, 8], [0, 1]), ([9, 8, 8, 0, 1, 2, 3, 4, 5, 6, 7, 8], [8, 9])])
def data_Spread.B9 : List Nat := [0, 0, 0, 0, 12, 28, 0, 64, 252, 511, 1023]
theorem data_Spread.tab9 : rtab .any (opsOf Try.f23 9) = data_Spread.T9 := by kernel_rfl
theorem data_Spread.bits9 : waitsOk data_Spread.T9.2 data_Spread.B9 = true := by kernel_rfl
set_option maxHeartbeats 8000000 in
set_option maxRecDepth 100000 in
theorem data_Spread.calls (k : Nat) (A0 : Option Addr) (c0 : Nat) (l0 : List (S25)) (a1 : Int) (r1 : List (List (S25))) (r2 : Int) (w : World) (hr0 : Kd.C k25 w A0 l0.length l0) (hc0 : l0.length ≤ c0) (h : data_Spread.f k l0 a1 = some (r1, r2)) :
    Calls Try.prog 23 #[.slice A0 l0.length c0, .int .i64 a1] w fun e w' => ∃ v0_ : Value, e = .returned (.tuple #[v0_, .int .i64 r2]) ∧ Kd.S (Kd.slice 25 k25) 26 w' w.heap.size (fun _ => True) v0_ r1 ∧ Below w.heap.size w w' := by
  have hu25 := Try.underlying25
  have HR0 := Aside0.mk hr0
  have HC0 := Aside0.mk hc0
  clear hr0 hc0
  have HB := Aside0.mk (Below.refl w.heap.size w)
  have H : ((num_Part.f 0 a1).bind fun bt145 => (if bt145.2 = 0 then (if 0 ≤ a1 then (if (a1 : Int).toNat ≤ 11728124029610 then (data_Spread.l0 k a1 (List.replicate (a1 : Int).toNat []) l0 (l0.length : Int) 0) else (none)) else (none)) else (some (([] : List (List (S25))), bt145.2)))) = some (r1, r2) := h
  clear h
  replace H := Option.bind_eq_some_iff.mp H
  obtain ⟨⟨t145, t146⟩, A30, H⟩ := H
  replace H : (if t146 = 0 then (if 0 ≤ a1 then (if (a1 : Int).toNat ≤ 11728124029610 then (data_Spread.l0 k a1 (List.replicate (a1 : Int).toNat []) l0 (l0.length : Int) 0) else (none)) else (none)) else (some (([] : List (List (S25))), t146))) = some (r1, r2) := H
  have A3 := Aside0.mk A30
  clear A30
  by_cases c4 : t146 = 0
  · rw [if_pos c4] at H
    have c4b0 : (t146 == 0) = true := beq_iff_eq.mpr c4
    have c4b1 : (t146 != 0) = false := bne_eq_false_iff_eq.mpr c4
    clear c4
    by_cases c5 : 0 ≤ a1
    · rw [if_pos c5] at H
      have c5b0 := eq_true c5
      have c5b1 : decide (0 ≤ a1) = true := decide_eq_true c5
      clear c5
      by_cases c6 : (a1 : Int).toNat ≤ 11728124029610
      · rw [if_pos c6] at H
        have c6b0 := eq_true c6
        have c6b1 : decide ((a1 : Int).toNat ≤ 11728124029610) = true := decide_eq_true c6
        clear c6
        obtain ⟨y147, hy147⟩ : ∃ y_ : List (List (S25)), y_ = (List.replicate (a1 : Int).toNat []) := ⟨_, rfl⟩
        replace H : (data_Spread.l0 k a1 y147 l0 (l0.length : Int) 0) = some (r1, r2) := by first | (rw [hy147]; with_reducible exact H) | (have H2_ := (Option.bind_some _ _).symm.trans H; rw [hy147]; with_reducible exact H2_) | (have H2_ := (Option.bind_some _ _).symm.trans H; with_reducible exact H2_) | with_reducible exact H | (rw [hy147]; exact H) | exact H
        have Ny147 := Aside0.mk hy147
        clear hy147
        have H' := Aside0.mk H
        clear H
        go_enter Try.func23, Try.ntmps23
        go_wp2_with (first | ((with_reducible refine gate_callee (f := 32) rfl ?_); refine goesL_ (some 15) rfl rfl Try.func32 (by kernel_rfl) rfl #[.int .i64 0, .int .i64 a1] rfl zz1 ?_; (with_reducible refine (num_Part.calls 0 a1 t145 t146 _ A3.out).mono ?_); rintro e w' ⟨rfl, ⟨nd, rfl⟩⟩; refine ⟨_, rfl, ?_⟩) | ((with_reducible refine gate_dst (N := 22) rfl ?_); refine Kd.S_make (Kd.slice 25 k25) _ 26 rfl (N := 22) rfl 45 _ _ rfl a1 rfl rfl Try.underlying45 (.slice none 0 0) 24 info26 rfl (by decide) (by omega) [] (ok := fun _ => True) (okp := fun _ => True) ⟨_, rfl, Kd.R_nil _ _ _ _ _⟩ (fun _ hk => hk) trivial (of_decide_eq_true zz4) (Nat.le_trans (Nat.mul_le_mul_right _ (of_decide_eq_true zz4 : a1.toNat ≤ 11728124029610)) (by omega)) (Below.refl _ _) (Nat.le_refl _) ?_; intro v148 w7 ho8 hb hg_ hnew_; clear hg_ hnew_; (first | rw [← Ny147.out] at ho8 | (simp only [Int.reduceToNat] at ho8; rw [← Ny147.out] at ho8)); have n0_ := Aside0.mk (Kd.S_lower ho8 (below_size zz2)); have n1_ := Aside0.mk (below_step zz2 hb); clear HB; have HO149 := n0_; have HB := n1_; clear n0_ n1_; clear hb ho8))
        go_loopg [25] k (fun kq v25 w' => ∃ (x8_1 : List (List (S25))) (x25_1 : Int), v25 = .int .i64 x25_1 ∧ Aside0 (data_Spread.l0 kq a1 x8_1 l0 (l0.length : Int) x25_1 = some (r1, r2)) ∧ Aside0 (kq ≤ k) ∧ Aside0 (Kd.S (Kd.slice 25 k25) 26 w' w.heap.size (fun _ => True) v148 x8_1) ∧ Aside0 (Below w.heap.size w w'))
        case atStart => exact ⟨(y147), (0), zz5, H', ⟨Nat.le_refl _⟩, ⟨by (with_reducible repeat (first | apply Kd.S_alloc | apply Kd.S_drewN | apply Kd.S_drew)); exact HO149.out⟩, ⟨by repeat (first | (with_reducible first | exact HB.out | apply below_alloc | apply pw_below_drewN | apply below_drew1) | exact HB.out)⟩⟩
        case round =>
          clear H'
          (try clear c2); (try clear p2); (try clear c3); (try clear c4); (try clear c4b0); (try clear c4b1); (try clear c5); (try clear c5b0); (try clear c5b1); (try clear c6); (try clear c6b0); (try clear c6b1); (try clear p6)
          obtain ⟨x8_1, x25_1, rfl, HA, HK1, HO_8, HB⟩ := hrel
          cases gk with
          | zero => exact absurd HA.out (by simp [data_Spread.l0])
          | succ k1 =>
            have H := HA.out
            clear HA
            simp only [data_Spread.l0] at H
            by_cases c9 : x25_1 < (l0.length : Int)
            · rw [if_pos c9] at H
              have c9b0 : decide (x25_1 < (l0.length : Int)) = true := decide_eq_true c9
              clear c9
              by_cases c10 : 0 ≤ x25_1
              · rw [if_pos c10] at H
                have c10b0 : decide (0 ≤ x25_1) = true := decide_eq_true c10
                clear c10
                by_cases c11 : x25_1 < (l0.length : Int)
                · rw [if_pos c11] at H
                  have c11b0 : decide (x25_1 < (l0.length : Int)) = true := decide_eq_true c11
                  clear c11
                  replace H := Option.bind_eq_some_iff.mp H
                  obtain ⟨⟨t152, t153⟩, A120, H⟩ := H
                  replace H : (if 0 ≤ t152 then (if t152 < (x8_1.length : Int) then (if (rd_L3 x8_1 t152).length < 8796093022208 then (data_Spread.l0 k1 a1 (x8_1.set (t152 : Int).toNat ((rd_L3 x8_1 t152) ++ [(⟨(rd_T25 l0 x25_1).f0, (rd_T25 l0 x25_1).f1⟩ : S25)])) l0 (l0.length : Int) (wrap64 (x25_1 + 1))) else (none)) else (none)) else (none)) = some (r1, r2) := H
                  have A12 := Aside0.mk A120
                  clear A120
                  by_cases c13 : 0 ≤ t152
                  · rw [if_pos c13] at H
                    have c13b0 : decide (0 ≤ t152) = true := decide_eq_true c13
                    clear c13
                    by_cases c14 : t152 < (x8_1.length : Int)
                    · rw [if_pos c14] at H
                      have c14b0 : decide (t152 < (x8_1.length : Int)) = true := decide_eq_true c14
                      clear c14
                      by_cases c15 : (rd_L3 x8_1 t152).length < 8796093022208
                      · rw [if_pos c15] at H
                        have LMc15 := Aside0.mk c15
                        clear c15
                        obtain ⟨y155, hy155⟩ : ∃ y_ : List (S25), y_ = ((rd_L3 x8_1 t152) ++ [(⟨(rd_T25 l0 x25_1).f0, (rd_T25 l0 x25_1).f1⟩ : S25)]) := ⟨_, rfl⟩
                        replace H : (data_Spread.l0 k1 a1 (x8_1.set (t152 : Int).toNat y155) l0 (l0.length : Int) (wrap64 (x25_1 + 1))) = some (r1, r2) := by first | (rw [hy155]; with_reducible exact H) | (have H2_ := (Option.bind_some _ _).symm.trans H; rw [hy155]; with_reducible exact H2_) | (have H2_ := (Option.bind_some _ _).symm.trans H; with_reducible exact H2_) | with_reducible exact H | (rw [hy155]; exact H) | exact H
                        have Ny155 := Aside0.mk hy155
                        clear hy155
                        obtain ⟨y158, hy158⟩ : ∃ y_ : List (List (S25)), y_ = (x8_1.set (t152 : Int).toNat y155) := ⟨_, rfl⟩
                        replace H : (data_Spread.l0 k1 a1 y158 l0 (l0.length : Int) (wrap64 (x25_1 + 1))) = some (r1, r2) := by first | (rw [hy158]; with_reducible exact H) | (have H2_ := (Option.bind_some _ _).symm.trans H; rw [hy158]; with_reducible exact H2_) | (have H2_ := (Option.bind_some _ _).symm.trans H; with_reducible exact H2_) | with_reducible exact H | (rw [hy158]; exact H) | exact H
                        have Ny158 := Aside0.mk hy158
                        clear hy158
                        have H' := Aside0.mk H
                        clear H
                        have p150 : 0 ≤ (x25_1 : Int) := of_decide_eq_true zz4
                        have q150 : x25_1 < (l0.length : Int) := of_decide_eq_true zz4
                        obtain ⟨ad150, e150, hx150_0, hx150_1⟩ := at_T25 HR0.out x25_1 p150 q150
                        cases e150
                        replace hx150_0 := (HB.out.cell (World.block_lt_of_cell? w _ hx150_0)).trans hx150_0
                        replace hx150_1 := (HB.out.cell (World.block_lt_of_cell? w _ hx150_1)).trans hx150_1
                        replace p150 := eq_true p150
                        replace q150 := eq_true q150
                        try go_wp2_with (first | ((with_reducible refine gate_dst (N := 10) rfl ?_); refine box_event ?hg (N := 10) ?hd (cs := #[.int .i64 0, .int .i64 0]) (t := 25) ?hr ?_; (case hd => rfl); (case hg => rfl); (case hr => first | (go_simp; done) | (go_simp; rfl)); intro gb151 hg w17 hbox hb; have n0_ := Aside0.mk (Kd.S_below (Kd.S_elderB (by (with_reducible repeat (first | apply Kd.S_alloc | apply Kd.S_drewN | apply Kd.S_drew)); exact HO_8.out) gb151 (Nat.le_of_eq hg.symm)) hb); have n1_ := Aside0.mk (below_step zz2 hb); have n2_ := Aside0.mk (hbox); have n3_ := Aside0.mk ((by rw [hg]; exact (below_size zz2) : w.heap.size ≤ gb151)); have n4_ := Aside0.mk ((by rw [hg]; exact (below_size zz2) : w.heap.size ≤ gb151)); clear HO_8; clear HB; have HO_8 := n0_; have HB := n1_; have BK151 := n2_; have GW151 := n3_; have GE151 := n4_; clear n0_ n1_ n2_ n3_ n4_; clear hb hbox hg; obtain ⟨hcz18_0, hcz18_1, hfz18_0, hfz18_1⟩ := yC2 BK151) | ((with_reducible refine gate_callee (f := 32) rfl ?_); refine goesL_ (some 33) rfl rfl Try.func32 (by kernel_rfl) rfl #[.int .i64 ((rd_T25 l0 x25_1).f0), .int .i64 a1] rfl zz1 ?_; (with_reducible refine (num_Part.calls ((rd_T25 l0 x25_1).f0) a1 t152 t153 _ A12.out).mono ?_); rintro e w' ⟨rfl, ⟨nd, rfl⟩⟩; refine ⟨_, rfl, ?_⟩))
                        have n0_ : Aside0 (Kd.S (Kd.slice 25 k25) 26 ((w17.setCell ⟨gb151, 0, none⟩ (.int .i64 ((rd_T25 l0 x25_1).f0))).setCell ⟨gb151, 1, none⟩ (.int .i64 ((rd_T25 l0 x25_1).f1))) w.heap.size (fun k_ => k_ ≠ gb151) v148 x8_1) := ⟨by (with_reducible repeat (first | apply Kd.S_alloc | apply Kd.S_drewN | apply Kd.S_drew)); exact Kd.S_mono (Kd.S_far (p := ⟨gb151, 1, none⟩) (Kd.S_far (p := ⟨gb151, 0, none⟩) (Kd.S_mono HO_8.out (fun k_ hk => (⟨hk, hk.2⟩ : _ ∧ k_ ≠ gb151))) (fun _ hk => hk.2) (.int .i64 ((rd_T25 l0 x25_1).f0))) (fun _ hk => hk.2) (.int .i64 ((rd_T25 l0 x25_1).f1))) (fun _ hk => hk.1.2)⟩
                        have n1_ : Aside0 (((w17.setCell ⟨gb151, 0, none⟩ (.int .i64 ((rd_T25 l0 x25_1).f0))).setCell ⟨gb151, 1, none⟩ (.int .i64 ((rd_T25 l0 x25_1).f1))).heap[gb151]? = some (.cells #[.int .i64 ((rd_T25 l0 x25_1).f0), .int .i64 ((rd_T25 l0 x25_1).f1)] 25 (0, 0))) := ⟨by (with_reducible repeat (first | refine blk_drewN ?_ _ | refine blk_drew ?_ | refine blk_alloc ?_ _)); refine blk_put (cs := #[.int .i64 ((rd_T25 l0 x25_1).f0), .int .i64 0]) ?_ 1 _ rfl; (with_reducible repeat (first | refine blk_drewN ?_ _ | refine blk_drew ?_ | refine blk_alloc ?_ _)); refine blk_put (cs := #[.int .i64 0, .int .i64 0]) ?_ 0 _ rfl; (with_reducible repeat (first | refine blk_drewN ?_ _ | refine blk_drew ?_ | refine blk_alloc ?_ _)); exact BK151.out⟩
                        have n2_ : Aside0 (Below w.heap.size w ((w17.setCell ⟨gb151, 0, none⟩ (.int .i64 ((rd_T25 l0 x25_1).f0))).setCell ⟨gb151, 1, none⟩ (.int .i64 ((rd_T25 l0 x25_1).f1)))) := ⟨by repeat (first | (with_reducible first | exact HB.out | apply below_alloc | apply pw_below_drewN | apply below_drew1 | refine below_set ?_ GE151.out) | exact HB.out)⟩
                        (try clear HO_8)
                        (try clear BK151)
                        (try clear HB)
                        generalize ((w17.setCell ⟨gb151, 0, none⟩ (.int .i64 ((rd_T25 l0 x25_1).f0))).setCell ⟨gb151, 1, none⟩ (.int .i64 ((rd_T25 l0 x25_1).f1))) = w19 at n0_ n1_ n2_ ⊢
                        have HO_8 := n0_
                        have BK151 := n1_
                        have HB := n2_
                        clear n0_ n1_ n2_
                        (try (rw [drewN_self w19]; generalize hq_ : World.drewN w19 _ = w19; have n0_ : Aside0 (Kd.S (Kd.slice 25 k25) 26 w19 w.heap.size (fun k_ => k_ ≠ gb151) v148 x8_1) := ⟨by rw [← hq_]; exact (by (with_reducible repeat (first | apply Kd.S_alloc | apply Kd.S_drewN | apply Kd.S_drew)); exact HO_8.out)⟩; have n1_ : Aside0 (w19.heap[gb151]? = some (.cells #[.int .i64 ((rd_T25 l0 x25_1).f0), .int .i64 ((rd_T25 l0 x25_1).f1)] 25 (0, 0))) := ⟨by rw [← hq_]; exact (yF)⟩; have n2_ : Aside0 (Below w.heap.size w w19) := ⟨by rw [← hq_]; exact (by repeat (first | (with_reducible first | exact HB.out | apply below_alloc | apply pw_below_drewN | apply below_drew1 | refine below_set ?_ GE151.out) | exact HB.out))⟩; clear HO_8 BK151 HB hq_; have HO_8 := n0_; have BK151 := n1_; have HB := n2_; clear n0_ n1_ n2_))
                        have n0_ := Aside0.mk (Kd.S_drew HO_8.out)
                        have n1_ := Aside0.mk (blk_drew BK151.out)
                        have n2_ := Aside0.mk (below_drew1 HB.out)
                        clear HO_8
                        clear BK151
                        clear HB
                        have HO_8 := n0_
                        have BK151 := n1_
                        have HB := n2_
                        clear n0_ n1_ n2_
                        obtain ⟨Ao21, co21, eo21⟩ := Kd.S_slice HO_8.out
                        (first | subst eo21 | (injection eo21 with f1_ f2_ f3_; have f4_ := f1_.symm; have f5_ := f3_.symm; clear f1_ f2_ f3_; subst f4_; subst f5_))
                        have p154 : 0 ≤ (t152 : Int) := of_decide_eq_true zz4
                        have q154 : t152 < (x8_1.length : Int) := of_decide_eq_true zz4
                        obtain ⟨ad154, A154_0, c154_0, e154, hx154_0, hl154_0, hi154_0⟩ := at_L3 (Kd.S_reads' HO_8.out).2.2 t152 p154 q154
                        cases e154
                        obtain ⟨ce154, hce154, hMe154, hcc154⟩ := Kd.S_get HO_8.out [] t152 p154 (by first | exact q154 | exact of_decide_eq_true zz4 | (have e_ := (Kd.S_reads' HO_8.out).1; omega))
                        obtain ⟨ve154_0, rfl, ge154_0⟩ := hMe154
                        have hv154_0 := hcc154 0 _ rfl
                        rw [Nat.add_zero, show ((Kd.slice 25 k25)).sz = 1 from rfl, Nat.mul_one] at hv154_0
                        replace hv154_0 := Option.some.inj (hv154_0.symm.trans hx154_0)
                        rw [hv154_0] at ge154_0
                        have HL154_0 := Aside0.mk (show Kd.R k25 25 _ _ _ _ (rd_L3 x8_1 t152) from ge154_0)
                        clear hv154_0 ge154_0
                        have HX154_0 := Aside0.mk hx154_0
                        clear hcc154 hce154
                        have HR154_0 := Aside0.mk hi154_0
                        have HC154_0 := Aside0.mk hl154_0
                        clear hi154_0 hl154_0
                        replace p154 := eq_true p154
                        replace q154 := eq_true q154
                        obtain ⟨go22, co22, eo22, gb22, gl22, cl22, HG22⟩ := Kd.S_form HO_8.out (by have h_ : (t152 : Int) < ((x8_1.length : Int) : Int) := of_decide_eq_true zz4; have h2_ : 0 ≤ (t152 : Int) := (of_decide_eq_true zz4); omega)
                        (first | cases eo22 | (injection eo22 with ea_ en_ ec_; (first | subst ea_ | (injection ea_ with ea_; subst ea_)); subst ec_; clear en_))
                        have GB22 := Aside0.mk gb22
                        have GG22 := Aside0.mk HG22
                        clear gb22 gl22 HG22
                        (first | simp only [add_plain] at hx154_0 | skip)
                        obtain ⟨oki22, ce22, hcl22, hM22, hcc22, _, _, hH22⟩ := Kd.S_elem HO_8.out [] (t152 : Int) (of_decide_eq_true zz4) (by have h_ : (t152 : Int) < ((x8_1.length : Int) : Int) := of_decide_eq_true zz4; first | exact h_ | (have e_ := (Kd.S_reads' HO_8.out).1; omega) | simpa using h_)
                        obtain ⟨ve22_0, rfl, ge22_0⟩ := hM22
                        have hv22 := hcc22 0 _ rfl
                        have hX22 := HX154_0.out
                        (try simp only [add_plain] at hX22)
                        (try simp only [Nat.add_zero] at hv22)
                        (try rw [show ((Kd.slice 25 k25)).sz = 1 from rfl, Nat.mul_one] at hv22)
                        replace hv22 := Option.some.inj (hv22.symm.trans hX22)
                        subst hv22
                        clear hX22 hcc22 hcl22
                        have UU22 := Aside0.mk (show Kd.R k25 25 _ w.heap.size oki22 (.slice A154_0 (rd_L3 x8_1 t152).length c154_0) (rd_L3 x8_1 t152) from ge22_0)
                        have HH22 := Aside0.mk hH22
                        have HN22 := Aside0.mk (Kd.S_reads' HO_8.out).1
                        clear hH22 ge22_0
                        refine start_ (n := 11) (S := fun w' => w'.cell? ⟨gb151, 0, none⟩ = some (.int .i64 ((rd_T25 l0 x25_1).f0)) ∧ w'.cell? ⟨gb151, 1, none⟩ = some (.int .i64 ((rd_T25 l0 x25_1).f1)) ∧ w'.cell? ⟨go22, (t152).toNat, none⟩ = some (.slice A154_0 (rd_L3 x8_1 t152).length c154_0)) (ds := [10]) #[false, false, false, false, false, false, false, false, false, false, false] (by kernel_rfl) rfl rfl ⟨(blk_cell BK151.out 0).trans rfl, (blk_cell BK151.out 1).trans rfl, hx154_0⟩ (fun hHeld => ?_); refine with_tabW data_Spread.tab9 data_Spread.bits9 (fun HT_ HW_ => ?_)
                        generalize w19.drew = w20 at HO_8 BK151 HB GG22 HH22 HL154_0 HR154_0 HX154_0 UU22 hx154_0 hHeld ⊢
                        refine pure_ (i := 0) (N := some 36) (v := ?_) (a' := ?_) #[true, false, false, false, false, false, false, false, false, false, false] rfl rfl (any_of HT_.out (by kernel_rfl)) (fun _ _ _ h => h) (Or.inl ⟨by rfl, ?_⟩) ?_ ?_
                        rotate_left
                        · intro w'
                          go_simp
                          with_reducible rfl
                        rotate_left
                        · simp only [Act.put, List.setIfInBounds_toArray, List.set_cons_zero, List.set_cons_succ, i64_w, i32_w]
                          rfl
                        refine pure_ (i := 1) (N := some 37) (v := ?_) (a' := ?_) #[true, true, false, false, false, false, false, false, false, false, false] rfl rfl (any_of HT_.out (by kernel_rfl)) (fun _ _ _ h => h) (Or.inl ⟨by rfl, ?_⟩) ?_ ?_
                        rotate_left
                        · intro w'
                          go_simp
                          with_reducible rfl
                        rotate_left
                        · simp only [Act.put, List.setIfInBounds_toArray, List.set_cons_zero, List.set_cons_succ, i64_w, i32_w]
                          rfl
                        refine pure_ (i := 2) (N := some 38) (v := ?_) (a' := ?_) #[true, true, true, false, false, false, false, false, false, false, false] rfl rfl (any_of HT_.out (by kernel_rfl)) (fun _ _ _ h => h) (Or.inl ⟨by rfl, ?_⟩) ?_ ?_
                        rotate_left
                        · intro w'
                          go_simp
                          with_reducible rfl
                        rotate_left
                        · simp only [Act.put, List.setIfInBounds_toArray, List.set_cons_zero, List.set_cons_succ, i64_w, i32_w]
                          rfl
                        refine pure_ (i := 3) (N := some 39) (v := ?_) (a' := ?_) #[true, true, true, true, false, false, false, false, false, false, false] rfl rfl (any_of HT_.out (by kernel_rfl)) (fun _ _ _ h => h) (Or.inl ⟨by rfl, ?_⟩) ?_ ?_
                        rotate_left
                        · intro w'
                          go_simp
                          with_reducible rfl
                        rotate_left
                        · simp only [Act.put, List.setIfInBounds_toArray, List.set_cons_zero, List.set_cons_succ, i64_w, i32_w]
                          rfl
                        refine pure_ (i := 4) (N := some 40) (v := ?_) (a' := ?_) #[true, true, true, true, true, false, false, false, false, false, false] rfl rfl (any_of HT_.out (by kernel_rfl)) (fun _ _ _ h => h) (Or.inl ⟨by rfl, ?_⟩) ?_ ?_
                        rotate_left
                        · intro w'
                          go_simp
                          with_reducible rfl
                        rotate_left
                        · simp only [Act.put, List.setIfInBounds_toArray, List.set_cons_zero, List.set_cons_succ, i64_w, i32_w]
                          rfl
                        refine take_ (i := 5) (N := some 41) (v := ?_) (a' := ?_) #[true, true, true, true, true, true, false, false, false, false, false] rfl rfl (take_ofW HT_.out HW_.out (by kernel_rfl)) (fun _ _ _ h => h) (Or.inl ⟨by rfl, ?_⟩) hHeld ?_ ?_
                        rotate_left
                        · rintro w' ⟨s0, s1, s2⟩
                          go_simp
                          with_reducible rfl
                        rotate_left
                        · simp only [Act.put, List.setIfInBounds_toArray, List.set_cons_zero, List.set_cons_succ, i64_w, i32_w]
                          rfl
                        refine take_ (i := 6) (N := some 42) (v := ?_) (a' := ?_) #[true, true, true, true, true, true, true, false, false, false, false] rfl rfl (take_ofW HT_.out HW_.out (by kernel_rfl)) (fun _ _ _ h => h) (Or.inl ⟨by rfl, ?_⟩) hHeld ?_ ?_
                        rotate_left
                        · rintro w' ⟨s0, s1, s2⟩
                          go_simp
                          with_reducible rfl
                        rotate_left
                        · simp only [Act.put, List.setIfInBounds_toArray, List.set_cons_zero, List.set_cons_succ, i64_w, i32_w]
                          rfl
                        refine one_ (i := 7) (N := some 43) #[true, true, true, true, true, true, true, true, false, false, false] rfl rfl (one_of HT_.out (by kernel_rfl)) (by decide) (fun K hK => ?_)
                        refine value_ (w1 := ?_) (v := ?_) (by rfl) rfl ?_ ?_
                        rotate_left 2
                        · go_simp
                          constructor
                          · rfl
                          · rfl
                        refine hK.out _ _ ⟨(blk_cell (blk_alloc BK151.out _) 0).trans rfl, (blk_cell (blk_alloc BK151.out _) 1).trans rfl, (World.cell?_alloc_lt _ _ _ (World.block_lt_of_cell? _ _ (hHeld.2.2))).trans (hHeld.2.2)⟩ (fun hHeld => ?_)
                        clear hK K
                        refine norm_ (a' := ?_) ?_ ?_
                        rotate_left
                        · show Act.put _ (some 43) _ = _
                          simp only [Act.put, List.setIfInBounds_toArray, List.set_cons_zero, List.set_cons_succ, i64_w, i32_w]
                          rfl
                        refine one_ (i := 8) (N := some 44) #[true, true, true, true, true, true, true, true, true, false, false] rfl rfl (one_of HT_.out (by kernel_rfl)) (by decide) (fun K hK => ?_)
                        refine Kd.R_append_step k25 (w0 := w) w.heap.size (by rfl) (.tmp 41) (.tmp 43) 26 25 (.agg #[(.int .i64 0), (.int .i64 0)]) 16 rfl Try.underlying26 info25 rfl (by decide) (by omega) (.slice A154_0 (rd_L3 x8_1 t152).length c154_0) (rd_L3 x8_1 t152) (⟨(rd_T25 l0 x25_1).f0, (rd_T25 l0 x25_1).f1⟩ : S25) [.int .i64 ((rd_T25 l0 x25_1).f0), .int .i64 ((rd_T25 l0 x25_1).f1)] (fun k_ => oki22 k_ ∨ ((fun k_ => k_ ≠ gb151)) k_ ∧ w20.heap.size ≤ k_) (fun _ => False) rfl rfl ?aP (fun _ hk => hk.elim) ?aF ?aO ?aB ?aS ?aL ?_
                        (case aP => exact k25_mkM _ _ _ (⟨(rd_T25 l0 x25_1).f0, (rd_T25 l0 x25_1).f1⟩ : S25))
                        (case aB => exact (by repeat (first | (with_reducible first | exact HB.out | apply below_alloc | apply pw_below_drewN | apply below_drew1 | refine below_set ?_ GE151.out) | exact HB.out)))
                        (case aF => exact (fun k_ hk => .inr ⟨Kd.freshB (g := gb151) (o := .cells #[.int .i64 ((rd_T25 l0 x25_1).f0), .int .i64 ((rd_T25 l0 x25_1).f1)] 25 (0, 0)) (yF) k_ hk, hk⟩))
                        (case aO => exact (by (with_reducible repeat (first | apply Kd.R_alloc | apply Kd.R_drewN | apply Kd.R_drew)); exact Kd.R_mono UU22.out (fun _ hk => .inl hk)))
                        (case aS => exact (below_size (by repeat (first | (with_reducible first | exact HB.out | apply below_alloc | apply pw_below_drewN | apply below_drew1 | refine below_set ?_ GE151.out) | exact HB.out))))
                        (case aL => have := LMc15.out; omega)
                        intro v156 w23 ho hb hg hat
                        (first | have HS2_ := Go.Proofs.YtogainbkidgkhaaW.PrintWords.cell_grown hg (hHeld.2.2) (by first | (rw [add_block]; exact (fun e_ => ((HL154_0.out.1 _ e_.symm).2) rfl)) | (show some (Addr.add _ _).block ≠ _; rw [add_block]; exact (fun e_ => ((HL154_0.out.1 _ e_.symm).2) rfl)) | exact (fun e_ => ((HL154_0.out.1 _ e_.symm).2) rfl)) | have HS2_ := Go.Proofs.YtogainbkidgkhaaW.PrintWords.cell_grown hg (cell_unalloc (hHeld.2.2) (by first | (rw [add_block]; exact Kd.S_lt HO_8.out _ rfl) | (show (Addr.add _ _).block < _; rw [add_block]; exact Kd.S_lt HO_8.out _ rfl) | exact Kd.S_lt HO_8.out _ rfl)) (by first | (rw [add_block]; exact (fun e_ => ((HL154_0.out.1 _ e_.symm).2) rfl)) | (show some (Addr.add _ _).block ≠ _; rw [add_block]; exact (fun e_ => ((HL154_0.out.1 _ e_.symm).2) rfl)) | exact (fun e_ => ((HL154_0.out.1 _ e_.symm).2) rfl)))
                        rw [← Ny155.out] at ho
                        have n0_ := Aside0.mk (blk_grown (g := gb151) (o := .cells #[.int .i64 ((rd_T25 l0 x25_1).f0), .int .i64 ((rd_T25 l0 x25_1).f1)] 25 (0, 0)) (yF) hg (Kd.R_away HL154_0.out (fun _ hk => hk.1)))
                        have n1_ := Aside0.mk (hb)
                        have n2_ := Aside0.mk (Kd.H_grown (Kd.H_widen (by repeat (first | exact HH22.out | refine Kd.H_alloc ?_ _ | refine Kd.H_drewN ?_ _ | refine Kd.H_drew ?_))) hg (fun k_ e_ => .inl (UU22.out.1 k_ e_)))
                        have n3_ := Aside0.mk (ho)
                        clear BK151
                        clear HB
                        clear HH22
                        clear HO_8
                        clear UU22
                        clear HL154_0
                        have BK151 := n0_
                        have HB := n1_
                        have HH22 := n2_
                        have HO157 := n3_
                        clear n0_ n1_ n2_ n3_
                        clear ho hb hg hat
                        have p16 : 0 ≤ (t152 : Int) := of_decide_eq_true zz4
                        have q16 : (t152 : Int) < ((x8_1.length : Int) : Int) := of_decide_eq_true zz4
                        replace p16 := eq_true p16
                        replace q16 := eq_true q16
                        obtain ⟨Ao26, co26, eo26⟩ := Kd.R_slice HO157.out
                        (first | subst eo26 | (injection eo26 with f1_ f2_ f3_; have f4_ := f1_.symm; have f5_ := f3_.symm; clear f1_ f2_ f3_; subst f4_; subst f5_))
                        obtain ⟨_, _, hraw24, _, _, hcc24, _⟩ := Kd.H_raw HH22.out (of_decide_eq_true zz4) (by have h_ : (t152 : Int) < ((x8_1.length : Int) : Int) := of_decide_eq_true zz4; first | exact h_ | (have e_ := (HN22.out); omega) | simpa using h_)
                        obtain ⟨_, hfr24⟩ := Kd.H_at HH22.out (of_decide_eq_true zz4) (by have h_ : (t152 : Int) < ((x8_1.length : Int) : Int) := of_decide_eq_true zz4; first | exact h_ | (have e_ := (HN22.out); omega) | simpa using h_)
                        have hx24_0 := hcc24 0 _ rfl
                        have hf24_0 := hfr24 0
                        (try simp only [Nat.add_zero] at hx24_0 hf24_0)
                        (try rw [show ((Kd.slice 25 k25)).sz = 1 from rfl, Nat.mul_one] at hx24_0)
                        (try rw [show ((Kd.slice 25 k25)).sz = 1 from rfl, Nat.mul_one] at hf24_0)
                        have HP24 := Kd.S_seg0 HH22.out (of_decide_eq_true zz4) (by have h_ : (t152 : Int) < ((x8_1.length : Int) : Int) := of_decide_eq_true zz4; first | exact h_ | (have e_ := (HN22.out); omega) | simpa using h_) (seg := [.slice Ao26 y155.length co26]) (j := 0) (show 1 ≤ 1 from by decide) (x' := y155) (Kd.M_row HO157.out) (fun _ hk => hk)
                        (try simp only [show ((Kd.slice 25 k25)).sz = 1 from rfl, Nat.mul_one, Nat.add_zero] at HP24)
                        clear hcc24 hfr24
                        have HNB151_go22 := Aside0.mk (show gb151 ≠ go22 from by have h_ := Kd.R_ne hraw24 BK151.out (by decide); intro e_; exact h_ (by rw [e_]; rfl))
                        have HS24 := HP24.1
                        rw [← Ny158.out] at HS24
                        have HQ24 := Aside0.mk HS24
                        obtain ⟨_, hgg24⟩ := Kd.R_typed hraw24 go22 rfl
                        have GG24_ := Aside0.mk hgg24
                        clear HP24 HS24 hgg24
                        refine hK.out _ _ ⟨(blk_cell BK151.out 0).trans rfl, (blk_cell BK151.out 1).trans rfl, HS2_⟩ (fun hHeld => ?_)
                        clear hK K
                        refine norm_ (a' := ?_) ?_ ?_
                        rotate_left
                        · show Act.put _ (some 44) _ = _
                          simp only [Act.put, List.setIfInBounds_toArray, List.set_cons_zero, List.set_cons_succ, i64_w, i32_w]
                          rfl
                        refine pure_ (i := 9) (N := some 45) (v := ?_) (a' := ?_) #[true, true, true, true, true, true, true, true, true, true, false] rfl rfl (any_of HT_.out (by kernel_rfl)) (fun _ _ _ h => h) (Or.inl ⟨by rfl, ?_⟩) ?_ ?_
                        rotate_left
                        · intro w'
                          go_simp
                          with_reducible rfl
                        rotate_left
                        · simp only [Act.put, List.setIfInBounds_toArray, List.set_cons_zero, List.set_cons_succ, i64_w, i32_w]
                          rfl
                        refine last_ (i := 10) (N := none) #[true, true, true, true, true, true, true, true, true, true, true] rfl rfl (one_of HT_.out (by kernel_rfl)) (by decide) (fun K hK => ?_)
                        refine skip_ (w1 := ?_) (by rfl) rfl ?_ ?_
                        rotate_left
                        · go_simp
                          rfl
                        refine hK.out _ _ ?_
                        clear hK K
                        refine done_ (done_of HT_.out (by kernel_rfl)) ?_
                        try go_wp2
                        go_roundg k1
                        case measure => have := HK1.out; omega
                        case rel => exact ⟨(y158), (wrap64 (x25_1 + 1)), zz5, H', ⟨by have := HK1.out; omega⟩, ⟨by (with_reducible repeat (first | apply Kd.S_alloc | apply Kd.S_drewN | apply Kd.S_drew)); exact Kd.S_mono HQ24.out (fun _ hk => trivial)⟩, ⟨by repeat (first | (with_reducible first | exact HB.out | apply below_alloc | apply pw_below_drewN | apply below_drew1 | refine below_set ?_ GB22.out | refine below_set ?_ GE151.out) | exact HB.out)⟩⟩
                      · rw [if_neg c15] at H
                        exact absurd H (by simp)
                    · rw [if_neg c14] at H
                      exact absurd H (by simp)
                  · rw [if_neg c13] at H
                    exact absurd H (by simp)
                · rw [if_neg c11] at H
                  exact absurd H (by simp)
              · rw [if_neg c10] at H
                exact absurd H (by simp)
            · rw [if_neg c9] at H
              have c9b0 : decide (x25_1 < (l0.length : Int)) = false := decide_eq_false c9
              clear c9
              simp only [Option.some.injEq, Prod.mk.injEq] at H
              obtain ⟨rfl, rfl⟩ := H
              go_wp2
              go_ret2
              exact ⟨_, by first | rfl | (simp [errW_none, errW_some] <;> rfl) | (simp [*, errW_none, errW_some] <;> rfl), by (with_reducible repeat (first | apply Kd.S_alloc | apply Kd.S_drewN | apply Kd.S_drew)); exact HO_8.out, by repeat (first | (with_reducible first | exact HB.out | apply below_alloc | apply pw_below_drewN | apply below_drew1) | exact HB.out)⟩
      · rw [if_neg c6] at H
        exact absurd H (by simp)
    · rw [if_neg c5] at H
      exact absurd H (by simp)
  · rw [if_neg c4] at H
    have c4b0 : (t146 == 0) = false := beq_eq_false_iff_ne.mpr c4
    have c4b1 : (t146 != 0) = true := bne_iff_ne.mpr c4
    simp only [Option.some.injEq, Prod.mk.injEq] at H
    obtain ⟨rfl, rfl⟩ := H
    go_enter Try.func23, Try.ntmps23
    go_wp2_with (first | ((with_reducible refine gate_callee (f := 32) rfl ?_); refine goesL_ (some 15) rfl rfl Try.func32 (by kernel_rfl) rfl #[.int .i64 0, .int .i64 a1] rfl zz1 ?_; (with_reducible refine (num_Part.calls 0 a1 t145 t146 _ A3.out).mono ?_); rintro e w' ⟨rfl, ⟨nd, rfl⟩⟩; refine ⟨_, rfl, ?_⟩))
    go_ret2
    exact ⟨_, by first | rfl | (simp [errW_none, errW_some] <;> rfl) | (simp [*, errW_none, errW_some] <;> rfl), by first | exact Kd.S_nil _ _ _ _ _ | exact Kd.N_nil _ _ _ _ _ | exact Kd.V_nil _ _ _ _ _ | exact Kd.Q_nil _ _ _ _ _ | exact Kd.R_nil _ _ _ _ _, by repeat (first | (with_reducible first | exact HB.out | apply below_alloc | apply pw_below_drewN | apply below_drew1) | exact HB.out)⟩

end Go.Proofs.Ytogainbkidgkhaa.Q12O
