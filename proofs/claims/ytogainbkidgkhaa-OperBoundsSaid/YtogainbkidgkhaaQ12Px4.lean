-- Laid by wip/pp.py for this seat.
import Derived.Test.YtogainbkidgkhaaQ12Px0
import Derived.Test.YtogainbkidgkhaaQ12Px2
import Derived.Test.YtogainbkidgkhaaX12G
import Derived.Test.YtogainbkidgkhaaX12a
namespace Go.Proofs.Ytogainbkidgkhaa.Q12P
open Go.RowKit Go.Proofs.YtogainbkidgkhaaW.PrintWords Go.Proofs.YtogainbkidgkhaaW.PrintLast Go.Proofs.YtogainbkidgkhaaW.PrintMore
attribute [local go_sem] max2_int min2_int max_two min_two max_three min_three max_four min_four   -- for this text's walks alone
set_option linter.unusedVariables false
set_option linter.unusedSimpArgs false

open Go.Proofs.Ytogainbkidgkhaa.Ext
/-! ### watershedlaw12_OperBounds: function 5 -/
mutual
def watershedlaw12_OperBounds.j0 : Nat → List (S25) → List (S25) → List (S25) → List (S25) → Bool → Option (Bool)
  | 0, _, _, _, _, _ => none
  | k + 1, x0, x3, x5, x7, x61 => if x61 = true then (none) else (watershedlaw12_OperBounds.l0 k x0 x3 x5 x7 0 0)
def watershedlaw12_OperBounds.l0 : Nat → List (S25) → List (S25) → List (S25) → List (S25) → Int → Int → Option (Bool)
  | 0, _, _, _, _, _, _ => none
  | k + 1, x0, x3, x5, x7, x9, x10 => if x10 < (x3.length : Int) then (watershedlaw12_OperBounds.l1 k x0 x3 x5 x7 x9 x10 0 false false 0) else (some (x9 == (x0.length : Int)))
def watershedlaw12_OperBounds.l1 : Nat → List (S25) → List (S25) → List (S25) → List (S25) → Int → Int → Int → Bool → Bool → Int → Option (Bool)
  | 0, _, _, _, _, _, _, _, _, _, _ => none
  | k + 1, x0, x3, x5, x7, x9, x10, x11, x12, x13, x14 => if x14 < (x0.length : Int) then (if 0 ≤ x14 then (if 0 ≤ x10 then (if x10 < (x3.length : Int) then (if ((rd_T25 x0 x14).f0) = ((rd_T25 x3 x10).f0) then (if x12 = true then (if x13 = true then (if x10 < (x5.length : Int) then (if ((rd_T25 x0 x14).f1) < ((rd_T25 x5 x10).f1) then (none) else (if x10 < (x7.length : Int) then (if ((rd_T25 x0 x14).f1) > ((rd_T25 x7 x10).f1) then (none) else (watershedlaw12_OperBounds.l1 k x0 x3 x5 x7 x9 x10 (wrap64 (x11 + 1)) true true (wrap64 (x14 + 1)))) else (none))) else (none)) else (if x10 < (x7.length : Int) then (if x10 < (x5.length : Int) then (if ((rd_T25 x0 x14).f1) < ((rd_T25 x5 x10).f1) then (none) else (if ((rd_T25 x0 x14).f1) > ((rd_T25 x7 x10).f1) then (none) else (watershedlaw12_OperBounds.l1 k x0 x3 x5 x7 x9 x10 (wrap64 (x11 + 1)) true (((rd_T25 x0 x14).f1) == ((rd_T25 x7 x10).f1)) (wrap64 (x14 + 1))))) else (none)) else (none))) else (if x10 < (x5.length : Int) then (if x13 = true then (if ((rd_T25 x0 x14).f1) < ((rd_T25 x5 x10).f1) then (none) else (if x10 < (x7.length : Int) then (if ((rd_T25 x0 x14).f1) > ((rd_T25 x7 x10).f1) then (none) else (watershedlaw12_OperBounds.l1 k x0 x3 x5 x7 x9 x10 (wrap64 (x11 + 1)) (((rd_T25 x0 x14).f1) == ((rd_T25 x5 x10).f1)) true (wrap64 (x14 + 1)))) else (none))) else (if x10 < (x7.length : Int) then (if ((rd_T25 x0 x14).f1) < ((rd_T25 x5 x10).f1) then (none) else (if ((rd_T25 x0 x14).f1) > ((rd_T25 x7 x10).f1) then (none) else (watershedlaw12_OperBounds.l1 k x0 x3 x5 x7 x9 x10 (wrap64 (x11 + 1)) (((rd_T25 x0 x14).f1) == ((rd_T25 x5 x10).f1)) (((rd_T25 x0 x14).f1) == ((rd_T25 x7 x10).f1)) (wrap64 (x14 + 1))))) else (none))) else (none))) else (watershedlaw12_OperBounds.l1 k x0 x3 x5 x7 x9 x10 x11 x12 x13 (wrap64 (x14 + 1)))) else (none)) else (none)) else (none)) else (if 0 ≤ x10 then (if x10 < (x3.length : Int) then (if x11 = ((rd_T25 x3 x10).f1) then (if x11 = 0 then (none) else (if x12 = true then (if x13 = true then (if x10 < (x5.length : Int) then (if ((rd_T25 x5 x10).f0) = ((rd_T25 x3 x10).f0) then (if x10 < (x7.length : Int) then (if ((rd_T25 x7 x10).f0) = ((rd_T25 x3 x10).f0) then (watershedlaw12_OperBounds.l0 k x0 x3 x5 x7 (wrap64 (x9 + x11)) (wrap64 (x10 + 1))) else (none)) else (none)) else (none)) else (none)) else (none)) else (none))) else (none)) else (none)) else (none))
end
def watershedlaw12_OperBounds.f (k : Nat) (l0 : List (S25)) : Option (Bool) := (watershedlaw12_works.f k).bind fun t180 => (if t180 = true then (if (l0.length : Int) > 300 then (some true) else ((watershedlaw12_own.f l0).bind fun t181 => ((oper_Fold.f 12 t181).bind fun bt184 => ((watershedlaw12_own.f l0).bind fun t188 => ((oper_Fold.f 13 t188).bind fun bt191 => ((watershedlaw12_own.f l0).bind fun t195 => ((oper_Fold.f 14 t195).bind fun bt198 => (if bt184.2 = 0 then (if bt191.2 = 0 then (if bt198.2 = 0 then (if (bt191.1.length : Int) = (bt184.1.length : Int) then (watershedlaw12_OperBounds.j0 k l0 bt184.1 bt191.1 bt198.1 ((bt198.1.length : Int) != (bt184.1.length : Int))) else (watershedlaw12_OperBounds.j0 k l0 bt184.1 bt191.1 bt198.1 true)) else (watershedlaw12_OperBounds.j0 k l0 bt184.1 bt191.1 bt198.1 true)) else (watershedlaw12_OperBounds.j0 k l0 bt184.1 bt191.1 bt198.1 true)) else (watershedlaw12_OperBounds.j0 k l0 bt184.1 bt191.1 bt198.1 true))))))))) else (none))
theorem watershedlaw12_OperBounds.mono_l : ∀ k, (∀ y0 y1 y2 y3 y4, LeO (watershedlaw12_OperBounds.j0 k y0 y1 y2 y3 y4) (watershedlaw12_OperBounds.j0 (k + 1) y0 y1 y2 y3 y4)) ∧ (∀ y0 y1 y2 y3 y4 y5, LeO (watershedlaw12_OperBounds.l0 k y0 y1 y2 y3 y4 y5) (watershedlaw12_OperBounds.l0 (k + 1) y0 y1 y2 y3 y4 y5)) ∧ (∀ y0 y1 y2 y3 y4 y5 y6 y7 y8 y9, LeO (watershedlaw12_OperBounds.l1 k y0 y1 y2 y3 y4 y5 y6 y7 y8 y9) (watershedlaw12_OperBounds.l1 (k + 1) y0 y1 y2 y3 y4 y5 y6 y7 y8 y9))
  | 0 => ⟨fun _ _ _ _ _ r h => by simp [watershedlaw12_OperBounds.j0] at h, fun _ _ _ _ _ _ r h => by simp [watershedlaw12_OperBounds.l0] at h, fun _ _ _ _ _ _ _ _ _ _ r h => by simp [watershedlaw12_OperBounds.l1] at h⟩
  | k + 1 => by
    obtain ⟨ih0, ih1, ih2⟩ := watershedlaw12_OperBounds.mono_l k
    refine ⟨?_, ?_, ?_⟩
    · intro y0 y1 y2 y3 y4
      unfold watershedlaw12_OperBounds.j0
      repeat' first
      | (with_reducible exact ih0 _ _ _ _ _)
      | (with_reducible exact ih1 _ _ _ _ _ _)
      | (with_reducible exact ih2 _ _ _ _ _ _ _ _ _ _)
      | (with_reducible exact watershedlaw12_works.mono _)
      | (with_reducible exact LeO.refl _)
      | (with_reducible exact LeO.none _)
      | (with_reducible refine LeO.ite ?_ ?_)
      | (with_reducible refine LeO.bind ?_ (fun _ => ?_))
      | exact ih0 _ _ _ _ _
      | exact ih1 _ _ _ _ _ _
      | exact ih2 _ _ _ _ _ _ _ _ _ _
      | exact watershedlaw12_works.mono _
      | exact LeO.none _
      | refine LeO.ite ?_ ?_
      | refine LeO.bind ?_ (fun _ => ?_)
    · intro y0 y1 y2 y3 y4 y5
      unfold watershedlaw12_OperBounds.l0
      repeat' first
      | (with_reducible exact ih0 _ _ _ _ _)
      | (with_reducible exact ih1 _ _ _ _ _ _)
      | (with_reducible exact ih2 _ _ _ _ _ _ _ _ _ _)
      | (with_reducible exact watershedlaw12_works.mono _)
      | (with_reducible exact LeO.refl _)
      | (with_reducible exact LeO.none _)
      | (with_reducible refine LeO.ite ?_ ?_)
      | (with_reducible refine LeO.bind ?_ (fun _ => ?_))
      | exact ih0 _ _ _ _ _
      | exact ih1 _ _ _ _ _ _
      | exact ih2 _ _ _ _ _ _ _ _ _ _
      | exact watershedlaw12_works.mono _
      | exact LeO.none _
      | refine LeO.ite ?_ ?_
      | refine LeO.bind ?_ (fun _ => ?_)
    · intro y0 y1 y2 y3 y4 y5 y6 y7 y8 y9
      unfold watershedlaw12_OperBounds.l1
      repeat' first
      | (with_reducible exact ih0 _ _ _ _ _)
      | (with_reducible exact ih1 _ _ _ _ _ _)
      | (with_reducible exact ih2 _ _ _ _ _ _ _ _ _ _)
      | (with_reducible exact watershedlaw12_works.mono _)
      | (with_reducible exact LeO.refl _)
      | (with_reducible exact LeO.none _)
      | (with_reducible refine LeO.ite ?_ ?_)
      | (with_reducible refine LeO.bind ?_ (fun _ => ?_))
      | exact ih0 _ _ _ _ _
      | exact ih1 _ _ _ _ _ _
      | exact ih2 _ _ _ _ _ _ _ _ _ _
      | exact watershedlaw12_works.mono _
      | exact LeO.none _
      | refine LeO.ite ?_ ?_
      | refine LeO.bind ?_ (fun _ => ?_)
theorem watershedlaw12_OperBounds.mono : ∀ a0 k, LeO (watershedlaw12_OperBounds.f k a0) (watershedlaw12_OperBounds.f (k + 1) a0) := by
  intro a0 k
  obtain ⟨ih0, ih1, ih2⟩ := watershedlaw12_OperBounds.mono_l k
  unfold watershedlaw12_OperBounds.f
  repeat' first
      | (with_reducible exact ih0 _ _ _ _ _)
      | (with_reducible exact ih1 _ _ _ _ _ _)
      | (with_reducible exact ih2 _ _ _ _ _ _ _ _ _ _)
      | (with_reducible exact watershedlaw12_works.mono _)
      | (with_reducible exact LeO.refl _)
      | (with_reducible exact LeO.none _)
      | (with_reducible refine LeO.ite ?_ ?_)
      | (with_reducible refine LeO.bind ?_ (fun _ => ?_))
      | exact ih0 _ _ _ _ _
      | exact ih1 _ _ _ _ _ _
      | exact ih2 _ _ _ _ _ _ _ _ _ _
      | exact watershedlaw12_works.mono _
      | exact LeO.none _
      | refine LeO.ite ?_ ?_
      | refine LeO.bind ?_ (fun _ => ?_)
set_option maxHeartbeats 8000000 in
set_option maxRecDepth 100000 in
theorem watershedlaw12_OperBounds.calls (k : Nat) (A0 : Option Addr) (c0 : Nat) (l0 : List (S25)) (r : Bool) (w : World) (hr0 : Kd.C k25 w A0 l0.length l0) (hc0 : l0.length ≤ c0) (h : watershedlaw12_OperBounds.f k l0 = some r) :
    Calls Try.prog 5 #[.slice A0 l0.length c0] w fun e w' => e = .returned (.bool r) ∧ Below w.heap.size w w' := by
  have HR0 := Aside0.mk hr0
  have HC0 := Aside0.mk hc0
  clear hr0 hc0
  have HB := Aside0.mk (Below.refl w.heap.size w)
  have H : ((watershedlaw12_works.f k).bind fun t180 => (if t180 = true then (if (l0.length : Int) > 300 then (some true) else ((watershedlaw12_own.f l0).bind fun t181 => ((oper_Fold.f 12 t181).bind fun bt184 => ((watershedlaw12_own.f l0).bind fun t188 => ((oper_Fold.f 13 t188).bind fun bt191 => ((watershedlaw12_own.f l0).bind fun t195 => ((oper_Fold.f 14 t195).bind fun bt198 => (if bt184.2 = 0 then (if bt191.2 = 0 then (if bt198.2 = 0 then (if (bt191.1.length : Int) = (bt184.1.length : Int) then (watershedlaw12_OperBounds.j0 k l0 bt184.1 bt191.1 bt198.1 ((bt198.1.length : Int) != (bt184.1.length : Int))) else (watershedlaw12_OperBounds.j0 k l0 bt184.1 bt191.1 bt198.1 true)) else (watershedlaw12_OperBounds.j0 k l0 bt184.1 bt191.1 bt198.1 true)) else (watershedlaw12_OperBounds.j0 k l0 bt184.1 bt191.1 bt198.1 true)) else (watershedlaw12_OperBounds.j0 k l0 bt184.1 bt191.1 bt198.1 true))))))))) else (none))) = some r := h
  clear h
  replace H := Option.bind_eq_some_iff.mp H
  obtain ⟨t180, A20, H⟩ := H
  replace H : (if t180 = true then (if (l0.length : Int) > 300 then (some true) else ((watershedlaw12_own.f l0).bind fun t181 => ((oper_Fold.f 12 t181).bind fun bt184 => ((watershedlaw12_own.f l0).bind fun t188 => ((oper_Fold.f 13 t188).bind fun bt191 => ((watershedlaw12_own.f l0).bind fun t195 => ((oper_Fold.f 14 t195).bind fun bt198 => (if bt184.2 = 0 then (if bt191.2 = 0 then (if bt198.2 = 0 then (if (bt191.1.length : Int) = (bt184.1.length : Int) then (watershedlaw12_OperBounds.j0 k l0 bt184.1 bt191.1 bt198.1 ((bt198.1.length : Int) != (bt184.1.length : Int))) else (watershedlaw12_OperBounds.j0 k l0 bt184.1 bt191.1 bt198.1 true)) else (watershedlaw12_OperBounds.j0 k l0 bt184.1 bt191.1 bt198.1 true)) else (watershedlaw12_OperBounds.j0 k l0 bt184.1 bt191.1 bt198.1 true)) else (watershedlaw12_OperBounds.j0 k l0 bt184.1 bt191.1 bt198.1 true))))))))) else (none)) = some r := H
  have A2 := Aside0.mk A20
  clear A20
  by_cases c3 : t180 = true
  · subst c3
    have H1 : (if (l0.length : Int) > 300 then (some true) else ((watershedlaw12_own.f l0).bind fun t181 => ((oper_Fold.f 12 t181).bind fun bt184 => ((watershedlaw12_own.f l0).bind fun t188 => ((oper_Fold.f 13 t188).bind fun bt191 => ((watershedlaw12_own.f l0).bind fun t195 => ((oper_Fold.f 14 t195).bind fun bt198 => (if bt184.2 = 0 then (if bt191.2 = 0 then (if bt198.2 = 0 then (if (bt191.1.length : Int) = (bt184.1.length : Int) then (watershedlaw12_OperBounds.j0 k l0 bt184.1 bt191.1 bt198.1 ((bt198.1.length : Int) != (bt184.1.length : Int))) else (watershedlaw12_OperBounds.j0 k l0 bt184.1 bt191.1 bt198.1 true)) else (watershedlaw12_OperBounds.j0 k l0 bt184.1 bt191.1 bt198.1 true)) else (watershedlaw12_OperBounds.j0 k l0 bt184.1 bt191.1 bt198.1 true)) else (watershedlaw12_OperBounds.j0 k l0 bt184.1 bt191.1 bt198.1 true))))))))) = some r := by rw [if_pos rfl] at H; exact H
    clear H
    have H := H1
    clear H1
    by_cases c4 : (l0.length : Int) > 300
    · rw [if_pos c4] at H
      have c4b0 : decide (300 < (l0.length : Int)) = true := decide_eq_true c4
      have c4b1 : decide (300 < l0.length) = true := decide_eq_true (by omega)
      clear c4
      obtain rfl := Option.some.inj H
      go_enter Try.func5, Try.ntmps5
      go_wp2_with (first | (go_at_call 21; (with_reducible refine (watershedlaw12_works.calls k  true _ A2.out).mono ?_); rintro e w5 ⟨rfl, hb⟩; have n0_ := Aside0.mk (below_step zz0 hb); clear HB; have HB := n0_; clear n0_; (try clear hb); (try clear hb2); (try clear hk); (try clear hi)))
      repeat (go_quiet (first | (go_at_call 21; (with_reducible refine (watershedlaw12_works.calls k  true _ A2.out).mono ?_); rintro e w5 ⟨rfl, hb⟩; have n0_ := Aside0.mk (below_step zz0 hb); clear HB; have HB := n0_; clear n0_; (try clear hb); (try clear hb2); (try clear hk); (try clear hi))); try go_wp2_with (first | (go_at_call 21; (with_reducible refine (watershedlaw12_works.calls k  true _ A2.out).mono ?_); rintro e w5 ⟨rfl, hb⟩; have n0_ := Aside0.mk (below_step zz0 hb); clear HB; have HB := n0_; clear n0_; (try clear hb); (try clear hb2); (try clear hk); (try clear hi))))
      go_ret
      exact ⟨by first | rfl | (simp [errW_none, errW_some] <;> rfl) | (simp [*, errW_none, errW_some] <;> rfl), by repeat (first | (with_reducible first | exact HB.out | apply below_alloc | apply pw_below_drewN | apply below_drew1) | exact HB.out)⟩
    · rw [if_neg c4] at H
      have c4b0 : decide (300 < (l0.length : Int)) = false := decide_eq_false c4
      have c4b1 : decide (300 < l0.length) = false := decide_eq_false (by omega)
      clear c4
      replace H := Option.bind_eq_some_iff.mp H
      obtain ⟨t181, A60, H⟩ := H
      replace H : ((oper_Fold.f 12 t181).bind fun bt184 => ((watershedlaw12_own.f l0).bind fun t188 => ((oper_Fold.f 13 t188).bind fun bt191 => ((watershedlaw12_own.f l0).bind fun t195 => ((oper_Fold.f 14 t195).bind fun bt198 => (if bt184.2 = 0 then (if bt191.2 = 0 then (if bt198.2 = 0 then (if (bt191.1.length : Int) = (bt184.1.length : Int) then (watershedlaw12_OperBounds.j0 k l0 bt184.1 bt191.1 bt198.1 ((bt198.1.length : Int) != (bt184.1.length : Int))) else (watershedlaw12_OperBounds.j0 k l0 bt184.1 bt191.1 bt198.1 true)) else (watershedlaw12_OperBounds.j0 k l0 bt184.1 bt191.1 bt198.1 true)) else (watershedlaw12_OperBounds.j0 k l0 bt184.1 bt191.1 bt198.1 true)) else (watershedlaw12_OperBounds.j0 k l0 bt184.1 bt191.1 bt198.1 true))))))) = some r := H
      have A6 := Aside0.mk A60
      clear A60
      replace H := Option.bind_eq_some_iff.mp H
      obtain ⟨⟨t184, t185⟩, A70, H⟩ := H
      replace H : ((watershedlaw12_own.f l0).bind fun t188 => ((oper_Fold.f 13 t188).bind fun bt191 => ((watershedlaw12_own.f l0).bind fun t195 => ((oper_Fold.f 14 t195).bind fun bt198 => (if t185 = 0 then (if bt191.2 = 0 then (if bt198.2 = 0 then (if (bt191.1.length : Int) = (t184.length : Int) then (watershedlaw12_OperBounds.j0 k l0 t184 bt191.1 bt198.1 ((bt198.1.length : Int) != (t184.length : Int))) else (watershedlaw12_OperBounds.j0 k l0 t184 bt191.1 bt198.1 true)) else (watershedlaw12_OperBounds.j0 k l0 t184 bt191.1 bt198.1 true)) else (watershedlaw12_OperBounds.j0 k l0 t184 bt191.1 bt198.1 true)) else (watershedlaw12_OperBounds.j0 k l0 t184 bt191.1 bt198.1 true)))))) = some r := H
      have A7 := Aside0.mk A70
      clear A70
      replace H := Option.bind_eq_some_iff.mp H
      obtain ⟨t188, A80, H⟩ := H
      replace H : ((oper_Fold.f 13 t188).bind fun bt191 => ((watershedlaw12_own.f l0).bind fun t195 => ((oper_Fold.f 14 t195).bind fun bt198 => (if t185 = 0 then (if bt191.2 = 0 then (if bt198.2 = 0 then (if (bt191.1.length : Int) = (t184.length : Int) then (watershedlaw12_OperBounds.j0 k l0 t184 bt191.1 bt198.1 ((bt198.1.length : Int) != (t184.length : Int))) else (watershedlaw12_OperBounds.j0 k l0 t184 bt191.1 bt198.1 true)) else (watershedlaw12_OperBounds.j0 k l0 t184 bt191.1 bt198.1 true)) else (watershedlaw12_OperBounds.j0 k l0 t184 bt191.1 bt198.1 true)) else (watershedlaw12_OperBounds.j0 k l0 t184 bt191.1 bt198.1 true))))) = some r := H
      have A8 := Aside0.mk A80
      clear A80
      replace H := Option.bind_eq_some_iff.mp H
      obtain ⟨⟨t191, t192⟩, A90, H⟩ := H
      replace H : ((watershedlaw12_own.f l0).bind fun t195 => ((oper_Fold.f 14 t195).bind fun bt198 => (if t185 = 0 then (if t192 = 0 then (if bt198.2 = 0 then (if (t191.length : Int) = (t184.length : Int) then (watershedlaw12_OperBounds.j0 k l0 t184 t191 bt198.1 ((bt198.1.length : Int) != (t184.length : Int))) else (watershedlaw12_OperBounds.j0 k l0 t184 t191 bt198.1 true)) else (watershedlaw12_OperBounds.j0 k l0 t184 t191 bt198.1 true)) else (watershedlaw12_OperBounds.j0 k l0 t184 t191 bt198.1 true)) else (watershedlaw12_OperBounds.j0 k l0 t184 t191 bt198.1 true)))) = some r := H
      have A9 := Aside0.mk A90
      clear A90
      replace H := Option.bind_eq_some_iff.mp H
      obtain ⟨t195, A100, H⟩ := H
      replace H : ((oper_Fold.f 14 t195).bind fun bt198 => (if t185 = 0 then (if t192 = 0 then (if bt198.2 = 0 then (if (t191.length : Int) = (t184.length : Int) then (watershedlaw12_OperBounds.j0 k l0 t184 t191 bt198.1 ((bt198.1.length : Int) != (t184.length : Int))) else (watershedlaw12_OperBounds.j0 k l0 t184 t191 bt198.1 true)) else (watershedlaw12_OperBounds.j0 k l0 t184 t191 bt198.1 true)) else (watershedlaw12_OperBounds.j0 k l0 t184 t191 bt198.1 true)) else (watershedlaw12_OperBounds.j0 k l0 t184 t191 bt198.1 true))) = some r := H
      have A10 := Aside0.mk A100
      clear A100
      replace H := Option.bind_eq_some_iff.mp H
      obtain ⟨⟨t198, t199⟩, A110, H⟩ := H
      replace H : (if t185 = 0 then (if t192 = 0 then (if t199 = 0 then (if (t191.length : Int) = (t184.length : Int) then (watershedlaw12_OperBounds.j0 k l0 t184 t191 t198 ((t198.length : Int) != (t184.length : Int))) else (watershedlaw12_OperBounds.j0 k l0 t184 t191 t198 true)) else (watershedlaw12_OperBounds.j0 k l0 t184 t191 t198 true)) else (watershedlaw12_OperBounds.j0 k l0 t184 t191 t198 true)) else (watershedlaw12_OperBounds.j0 k l0 t184 t191 t198 true)) = some r := H
      have A11 := Aside0.mk A110
      clear A110
      have HC12 := Aside0.mk H
      clear H
      go_enter Try.func5, Try.ntmps5
      go_upto_region 8 with (first | (go_at_call 21; (with_reducible refine (watershedlaw12_works.calls k  true _ A2.out).mono ?_); rintro e w13 ⟨rfl, hb⟩; have n0_ := Aside0.mk (below_step zz0 hb); clear HB; have HB := n0_; clear n0_; (try clear hb); (try clear hb2); (try clear hk); (try clear hi)) | (go_at_call 15; (fail_if_success have := HO183); (with_reducible refine (watershedlaw12_own.calls _ _ l0 t181 _ ?side1 ?side2 A6.out).mono ?_); (case side1 => repeat (first | exact (Kd.C_below HR0.out HB.out) | (with_reducible refine Kd.C_alloc ?_ _) | (with_reducible refine Kd.C_drewN ?_ _) | (with_reducible refine Kd.C_drew ?_))); (case side2 => exact HC0.out); rintro e w14 ⟨v182, rfl, ho0, hb⟩; have n0_ := Aside0.mk (Kd.R_lower ho0 (below_size zz0)); have n1_ := Aside0.mk (below_step zz0 hb); clear HB; have HO183 := n0_; have HB := n1_; clear n0_ n1_; (try clear hb); (try clear hb2); (try clear hk); (try clear hi); (try clear ho0); obtain ⟨Ao15, co15, eo15⟩ := Kd.R_slice HO183.out; subst eo15) | (go_at_call 17; (with_reducible refine (oper_Fold.calls 12 _ _ t181 t184 t185 _ ?side1 ?side2 A7.out).mono ?_); (case side1 => repeat (first | exact (Kd.R_reads' HO183.out).2.2 | (with_reducible refine Kd.C_alloc ?_ _) | (with_reducible refine Kd.C_drewN ?_ _) | (with_reducible refine Kd.C_drew ?_))); (case side2 => exact (Kd.R_reads' HO183.out).2.1); rintro e w16 ⟨v186, rfl, ho0, hb⟩; have n0_ := Aside0.mk (Kd.R_elder' zz4 (Kd.R_base ho0) hb); have n1_ := Aside0.mk (Kd.R_lower (Kd.R_new' ho0 (Kd.R_lt zz4)) (below_size zz0)); have n2_ := Aside0.mk (below_step zz0 hb); clear HO183; clear HB; have HO183 := n0_; have HO187 := n1_; have HB := n2_; clear n0_ n1_ n2_; (try clear hb); (try clear hb2); (try clear hk); (try clear hi); (try clear ho0)) | (go_at_call 15; (fail_if_success have := HO190); (with_reducible refine (watershedlaw12_own.calls _ _ l0 t188 _ ?side1 ?side2 A8.out).mono ?_); (case side1 => repeat (first | exact (Kd.C_below HR0.out HB.out) | (with_reducible refine Kd.C_alloc ?_ _) | (with_reducible refine Kd.C_drewN ?_ _) | (with_reducible refine Kd.C_drew ?_))); (case side2 => exact HC0.out); rintro e w17 ⟨v189, rfl, ho0, hb⟩; have n0_ := Aside0.mk (Kd.R_elder' zz4 (Kd.R_base ho0) hb); have n1_ := Aside0.mk (Kd.R_elder' zz6 (Kd.R_base ho0) hb); have n2_ := Aside0.mk (Kd.R_lower (Kd.R_new' (Kd.R_new' ho0 (Kd.R_lt zz4)) (Kd.R_lt zz6)) (below_size zz0)); have n3_ := Aside0.mk (below_step zz0 hb); clear HO183; clear HO187; clear HB; have HO183 := n0_; have HO187 := n1_; have HO190 := n2_; have HB := n3_; clear n0_ n1_ n2_ n3_; (try clear hb); (try clear hb2); (try clear hk); (try clear hi); (try clear ho0); obtain ⟨Ao18, co18, eo18⟩ := Kd.R_slice HO190.out; subst eo18) | (go_at_call 17; (with_reducible refine (oper_Fold.calls 13 _ _ t188 t191 t192 _ ?side1 ?side2 A9.out).mono ?_); (case side1 => repeat (first | exact (Kd.R_reads' HO190.out).2.2 | (with_reducible refine Kd.C_alloc ?_ _) | (with_reducible refine Kd.C_drewN ?_ _) | (with_reducible refine Kd.C_drew ?_))); (case side2 => exact (Kd.R_reads' HO190.out).2.1); rintro e w19 ⟨v193, rfl, ho0, hb⟩; have n0_ := Aside0.mk (Kd.R_elder' zz4 (Kd.R_base ho0) hb); have n1_ := Aside0.mk (Kd.R_elder' zz6 (Kd.R_base ho0) hb); have n2_ := Aside0.mk (Kd.R_elder' zz7 (Kd.R_base ho0) hb); have n3_ := Aside0.mk (Kd.R_lower (Kd.R_new' (Kd.R_new' (Kd.R_new' ho0 (Kd.R_lt zz4)) (Kd.R_lt zz6)) (Kd.R_lt zz7)) (below_size zz0)); have n4_ := Aside0.mk (below_step zz0 hb); clear HO183; clear HO187; clear HO190; clear HB; have HO183 := n0_; have HO187 := n1_; have HO190 := n2_; have HO194 := n3_; have HB := n4_; clear n0_ n1_ n2_ n3_ n4_; (try clear hb); (try clear hb2); (try clear hk); (try clear hi); (try clear ho0)) | (go_at_call 15; (fail_if_success have := HO197); (with_reducible refine (watershedlaw12_own.calls _ _ l0 t195 _ ?side1 ?side2 A10.out).mono ?_); (case side1 => repeat (first | exact (Kd.C_below HR0.out HB.out) | (with_reducible refine Kd.C_alloc ?_ _) | (with_reducible refine Kd.C_drewN ?_ _) | (with_reducible refine Kd.C_drew ?_))); (case side2 => exact HC0.out); rintro e w20 ⟨v196, rfl, ho0, hb⟩; have n0_ := Aside0.mk (Kd.R_elder' zz4 (Kd.R_base ho0) hb); have n1_ := Aside0.mk (Kd.R_elder' zz6 (Kd.R_base ho0) hb); have n2_ := Aside0.mk (Kd.R_elder' zz7 (Kd.R_base ho0) hb); have n3_ := Aside0.mk (Kd.R_elder' zz9 (Kd.R_base ho0) hb); have n4_ := Aside0.mk (Kd.R_lower (Kd.R_new' (Kd.R_new' (Kd.R_new' (Kd.R_new' ho0 (Kd.R_lt zz4)) (Kd.R_lt zz6)) (Kd.R_lt zz7)) (Kd.R_lt zz9)) (below_size zz0)); have n5_ := Aside0.mk (below_step zz0 hb); clear HO183; clear HO187; clear HO190; clear HO194; clear HB; have HO183 := n0_; have HO187 := n1_; have HO190 := n2_; have HO194 := n3_; have HO197 := n4_; have HB := n5_; clear n0_ n1_ n2_ n3_ n4_ n5_; (try clear hb); (try clear hb2); (try clear hk); (try clear hi); (try clear ho0); obtain ⟨Ao21, co21, eo21⟩ := Kd.R_slice HO197.out; subst eo21) | (go_at_call 17; (with_reducible refine (oper_Fold.calls 14 _ _ t195 t198 t199 _ ?side1 ?side2 A11.out).mono ?_); (case side1 => repeat (first | exact (Kd.R_reads' HO197.out).2.2 | (with_reducible refine Kd.C_alloc ?_ _) | (with_reducible refine Kd.C_drewN ?_ _) | (with_reducible refine Kd.C_drew ?_))); (case side2 => exact (Kd.R_reads' HO197.out).2.1); rintro e w22 ⟨v200, rfl, ho0, hb⟩; have n0_ := Aside0.mk (Kd.R_elder' zz4 (Kd.R_base ho0) hb); have n1_ := Aside0.mk (Kd.R_elder' zz6 (Kd.R_base ho0) hb); have n2_ := Aside0.mk (Kd.R_elder' zz7 (Kd.R_base ho0) hb); have n3_ := Aside0.mk (Kd.R_elder' zz9 (Kd.R_base ho0) hb); have n4_ := Aside0.mk (Kd.R_elder' zz14 (Kd.R_base ho0) hb); have n5_ := Aside0.mk (Kd.R_lower (Kd.R_new' (Kd.R_new' (Kd.R_new' (Kd.R_new' (Kd.R_new' ho0 (Kd.R_lt zz4)) (Kd.R_lt zz6)) (Kd.R_lt zz7)) (Kd.R_lt zz9)) (Kd.R_lt zz14)) (below_size zz0)); have n6_ := Aside0.mk (below_step zz0 hb); clear HO183; clear HO187; clear HO190; clear HO194; clear HO197; clear HB; have HO183 := n0_; have HO187 := n1_; have HO190 := n2_; have HO194 := n3_; have HO197 := n4_; have HO201 := n5_; have HB := n6_; clear n0_ n1_ n2_ n3_ n4_ n5_ n6_; (try clear hb); (try clear hb2); (try clear hk); (try clear hi); (try clear ho0)))
      repeat (go_quiet (first | (go_at_call 21; (with_reducible refine (watershedlaw12_works.calls k  true _ A2.out).mono ?_); rintro e w13 ⟨rfl, hb⟩; have n0_ := Aside0.mk (below_step zz0 hb); clear HB; have HB := n0_; clear n0_; (try clear hb); (try clear hb2); (try clear hk); (try clear hi)) | (go_at_call 15; (fail_if_success have := HO183); (with_reducible refine (watershedlaw12_own.calls _ _ l0 t181 _ ?side1 ?side2 A6.out).mono ?_); (case side1 => repeat (first | exact (Kd.C_below HR0.out HB.out) | (with_reducible refine Kd.C_alloc ?_ _) | (with_reducible refine Kd.C_drewN ?_ _) | (with_reducible refine Kd.C_drew ?_))); (case side2 => exact HC0.out); rintro e w14 ⟨v182, rfl, ho0, hb⟩; have n0_ := Aside0.mk (Kd.R_lower ho0 (below_size zz0)); have n1_ := Aside0.mk (below_step zz0 hb); clear HB; have HO183 := n0_; have HB := n1_; clear n0_ n1_; (try clear hb); (try clear hb2); (try clear hk); (try clear hi); (try clear ho0); obtain ⟨Ao15, co15, eo15⟩ := Kd.R_slice HO183.out; subst eo15) | (go_at_call 17; (with_reducible refine (oper_Fold.calls 12 _ _ t181 t184 t185 _ ?side1 ?side2 A7.out).mono ?_); (case side1 => repeat (first | exact (Kd.R_reads' HO183.out).2.2 | (with_reducible refine Kd.C_alloc ?_ _) | (with_reducible refine Kd.C_drewN ?_ _) | (with_reducible refine Kd.C_drew ?_))); (case side2 => exact (Kd.R_reads' HO183.out).2.1); rintro e w16 ⟨v186, rfl, ho0, hb⟩; have n0_ := Aside0.mk (Kd.R_elder' zz4 (Kd.R_base ho0) hb); have n1_ := Aside0.mk (Kd.R_lower (Kd.R_new' ho0 (Kd.R_lt zz4)) (below_size zz0)); have n2_ := Aside0.mk (below_step zz0 hb); clear HO183; clear HB; have HO183 := n0_; have HO187 := n1_; have HB := n2_; clear n0_ n1_ n2_; (try clear hb); (try clear hb2); (try clear hk); (try clear hi); (try clear ho0)) | (go_at_call 15; (fail_if_success have := HO190); (with_reducible refine (watershedlaw12_own.calls _ _ l0 t188 _ ?side1 ?side2 A8.out).mono ?_); (case side1 => repeat (first | exact (Kd.C_below HR0.out HB.out) | (with_reducible refine Kd.C_alloc ?_ _) | (with_reducible refine Kd.C_drewN ?_ _) | (with_reducible refine Kd.C_drew ?_))); (case side2 => exact HC0.out); rintro e w17 ⟨v189, rfl, ho0, hb⟩; have n0_ := Aside0.mk (Kd.R_elder' zz4 (Kd.R_base ho0) hb); have n1_ := Aside0.mk (Kd.R_elder' zz6 (Kd.R_base ho0) hb); have n2_ := Aside0.mk (Kd.R_lower (Kd.R_new' (Kd.R_new' ho0 (Kd.R_lt zz4)) (Kd.R_lt zz6)) (below_size zz0)); have n3_ := Aside0.mk (below_step zz0 hb); clear HO183; clear HO187; clear HB; have HO183 := n0_; have HO187 := n1_; have HO190 := n2_; have HB := n3_; clear n0_ n1_ n2_ n3_; (try clear hb); (try clear hb2); (try clear hk); (try clear hi); (try clear ho0); obtain ⟨Ao18, co18, eo18⟩ := Kd.R_slice HO190.out; subst eo18) | (go_at_call 17; (with_reducible refine (oper_Fold.calls 13 _ _ t188 t191 t192 _ ?side1 ?side2 A9.out).mono ?_); (case side1 => repeat (first | exact (Kd.R_reads' HO190.out).2.2 | (with_reducible refine Kd.C_alloc ?_ _) | (with_reducible refine Kd.C_drewN ?_ _) | (with_reducible refine Kd.C_drew ?_))); (case side2 => exact (Kd.R_reads' HO190.out).2.1); rintro e w19 ⟨v193, rfl, ho0, hb⟩; have n0_ := Aside0.mk (Kd.R_elder' zz4 (Kd.R_base ho0) hb); have n1_ := Aside0.mk (Kd.R_elder' zz6 (Kd.R_base ho0) hb); have n2_ := Aside0.mk (Kd.R_elder' zz7 (Kd.R_base ho0) hb); have n3_ := Aside0.mk (Kd.R_lower (Kd.R_new' (Kd.R_new' (Kd.R_new' ho0 (Kd.R_lt zz4)) (Kd.R_lt zz6)) (Kd.R_lt zz7)) (below_size zz0)); have n4_ := Aside0.mk (below_step zz0 hb); clear HO183; clear HO187; clear HO190; clear HB; have HO183 := n0_; have HO187 := n1_; have HO190 := n2_; have HO194 := n3_; have HB := n4_; clear n0_ n1_ n2_ n3_ n4_; (try clear hb); (try clear hb2); (try clear hk); (try clear hi); (try clear ho0)) | (go_at_call 15; (fail_if_success have := HO197); (with_reducible refine (watershedlaw12_own.calls _ _ l0 t195 _ ?side1 ?side2 A10.out).mono ?_); (case side1 => repeat (first | exact (Kd.C_below HR0.out HB.out) | (with_reducible refine Kd.C_alloc ?_ _) | (with_reducible refine Kd.C_drewN ?_ _) | (with_reducible refine Kd.C_drew ?_))); (case side2 => exact HC0.out); rintro e w20 ⟨v196, rfl, ho0, hb⟩; have n0_ := Aside0.mk (Kd.R_elder' zz4 (Kd.R_base ho0) hb); have n1_ := Aside0.mk (Kd.R_elder' zz6 (Kd.R_base ho0) hb); have n2_ := Aside0.mk (Kd.R_elder' zz7 (Kd.R_base ho0) hb); have n3_ := Aside0.mk (Kd.R_elder' zz9 (Kd.R_base ho0) hb); have n4_ := Aside0.mk (Kd.R_lower (Kd.R_new' (Kd.R_new' (Kd.R_new' (Kd.R_new' ho0 (Kd.R_lt zz4)) (Kd.R_lt zz6)) (Kd.R_lt zz7)) (Kd.R_lt zz9)) (below_size zz0)); have n5_ := Aside0.mk (below_step zz0 hb); clear HO183; clear HO187; clear HO190; clear HO194; clear HB; have HO183 := n0_; have HO187 := n1_; have HO190 := n2_; have HO194 := n3_; have HO197 := n4_; have HB := n5_; clear n0_ n1_ n2_ n3_ n4_ n5_; (try clear hb); (try clear hb2); (try clear hk); (try clear hi); (try clear ho0); obtain ⟨Ao21, co21, eo21⟩ := Kd.R_slice HO197.out; subst eo21) | (go_at_call 17; (with_reducible refine (oper_Fold.calls 14 _ _ t195 t198 t199 _ ?side1 ?side2 A11.out).mono ?_); (case side1 => repeat (first | exact (Kd.R_reads' HO197.out).2.2 | (with_reducible refine Kd.C_alloc ?_ _) | (with_reducible refine Kd.C_drewN ?_ _) | (with_reducible refine Kd.C_drew ?_))); (case side2 => exact (Kd.R_reads' HO197.out).2.1); rintro e w22 ⟨v200, rfl, ho0, hb⟩; have n0_ := Aside0.mk (Kd.R_elder' zz4 (Kd.R_base ho0) hb); have n1_ := Aside0.mk (Kd.R_elder' zz6 (Kd.R_base ho0) hb); have n2_ := Aside0.mk (Kd.R_elder' zz7 (Kd.R_base ho0) hb); have n3_ := Aside0.mk (Kd.R_elder' zz9 (Kd.R_base ho0) hb); have n4_ := Aside0.mk (Kd.R_elder' zz14 (Kd.R_base ho0) hb); have n5_ := Aside0.mk (Kd.R_lower (Kd.R_new' (Kd.R_new' (Kd.R_new' (Kd.R_new' (Kd.R_new' ho0 (Kd.R_lt zz4)) (Kd.R_lt zz6)) (Kd.R_lt zz7)) (Kd.R_lt zz9)) (Kd.R_lt zz14)) (below_size zz0)); have n6_ := Aside0.mk (below_step zz0 hb); clear HO183; clear HO187; clear HO190; clear HO194; clear HO197; clear HB; have HO183 := n0_; have HO187 := n1_; have HO190 := n2_; have HO194 := n3_; have HO197 := n4_; have HO201 := n5_; have HB := n6_; clear n0_ n1_ n2_ n3_ n4_ n5_ n6_; (try clear hb); (try clear hb2); (try clear hk); (try clear hi); (try clear ho0))); go_upto_region 8 with (first | (go_at_call 21; (with_reducible refine (watershedlaw12_works.calls k  true _ A2.out).mono ?_); rintro e w13 ⟨rfl, hb⟩; have n0_ := Aside0.mk (below_step zz0 hb); clear HB; have HB := n0_; clear n0_; (try clear hb); (try clear hb2); (try clear hk); (try clear hi)) | (go_at_call 15; (fail_if_success have := HO183); (with_reducible refine (watershedlaw12_own.calls _ _ l0 t181 _ ?side1 ?side2 A6.out).mono ?_); (case side1 => repeat (first | exact (Kd.C_below HR0.out HB.out) | (with_reducible refine Kd.C_alloc ?_ _) | (with_reducible refine Kd.C_drewN ?_ _) | (with_reducible refine Kd.C_drew ?_))); (case side2 => exact HC0.out); rintro e w14 ⟨v182, rfl, ho0, hb⟩; have n0_ := Aside0.mk (Kd.R_lower ho0 (below_size zz0)); have n1_ := Aside0.mk (below_step zz0 hb); clear HB; have HO183 := n0_; have HB := n1_; clear n0_ n1_; (try clear hb); (try clear hb2); (try clear hk); (try clear hi); (try clear ho0); obtain ⟨Ao15, co15, eo15⟩ := Kd.R_slice HO183.out; subst eo15) | (go_at_call 17; (with_reducible refine (oper_Fold.calls 12 _ _ t181 t184 t185 _ ?side1 ?side2 A7.out).mono ?_); (case side1 => repeat (first | exact (Kd.R_reads' HO183.out).2.2 | (with_reducible refine Kd.C_alloc ?_ _) | (with_reducible refine Kd.C_drewN ?_ _) | (with_reducible refine Kd.C_drew ?_))); (case side2 => exact (Kd.R_reads' HO183.out).2.1); rintro e w16 ⟨v186, rfl, ho0, hb⟩; have n0_ := Aside0.mk (Kd.R_elder' zz4 (Kd.R_base ho0) hb); have n1_ := Aside0.mk (Kd.R_lower (Kd.R_new' ho0 (Kd.R_lt zz4)) (below_size zz0)); have n2_ := Aside0.mk (below_step zz0 hb); clear HO183; clear HB; have HO183 := n0_; have HO187 := n1_; have HB := n2_; clear n0_ n1_ n2_; (try clear hb); (try clear hb2); (try clear hk); (try clear hi); (try clear ho0)) | (go_at_call 15; (fail_if_success have := HO190); (with_reducible refine (watershedlaw12_own.calls _ _ l0 t188 _ ?side1 ?side2 A8.out).mono ?_); (case side1 => repeat (first | exact (Kd.C_below HR0.out HB.out) | (with_reducible refine Kd.C_alloc ?_ _) | (with_reducible refine Kd.C_drewN ?_ _) | (with_reducible refine Kd.C_drew ?_))); (case side2 => exact HC0.out); rintro e w17 ⟨v189, rfl, ho0, hb⟩; have n0_ := Aside0.mk (Kd.R_elder' zz4 (Kd.R_base ho0) hb); have n1_ := Aside0.mk (Kd.R_elder' zz6 (Kd.R_base ho0) hb); have n2_ := Aside0.mk (Kd.R_lower (Kd.R_new' (Kd.R_new' ho0 (Kd.R_lt zz4)) (Kd.R_lt zz6)) (below_size zz0)); have n3_ := Aside0.mk (below_step zz0 hb); clear HO183; clear HO187; clear HB; have HO183 := n0_; have HO187 := n1_; have HO190 := n2_; have HB := n3_; clear n0_ n1_ n2_ n3_; (try clear hb); (try clear hb2); (try clear hk); (try clear hi); (try clear ho0); obtain ⟨Ao18, co18, eo18⟩ := Kd.R_slice HO190.out; subst eo18) | (go_at_call 17; (with_reducible refine (oper_Fold.calls 13 _ _ t188 t191 t192 _ ?side1 ?side2 A9.out).mono ?_); (case side1 => repeat (first | exact (Kd.R_reads' HO190.out).2.2 | (with_reducible refine Kd.C_alloc ?_ _) | (with_reducible refine Kd.C_drewN ?_ _) | (with_reducible refine Kd.C_drew ?_))); (case side2 => exact (Kd.R_reads' HO190.out).2.1); rintro e w19 ⟨v193, rfl, ho0, hb⟩; have n0_ := Aside0.mk (Kd.R_elder' zz4 (Kd.R_base ho0) hb); have n1_ := Aside0.mk (Kd.R_elder' zz6 (Kd.R_base ho0) hb); have n2_ := Aside0.mk (Kd.R_elder' zz7 (Kd.R_base ho0) hb); have n3_ := Aside0.mk (Kd.R_lower (Kd.R_new' (Kd.R_new' (Kd.R_new' ho0 (Kd.R_lt zz4)) (Kd.R_lt zz6)) (Kd.R_lt zz7)) (below_size zz0)); have n4_ := Aside0.mk (below_step zz0 hb); clear HO183; clear HO187; clear HO190; clear HB; have HO183 := n0_; have HO187 := n1_; have HO190 := n2_; have HO194 := n3_; have HB := n4_; clear n0_ n1_ n2_ n3_ n4_; (try clear hb); (try clear hb2); (try clear hk); (try clear hi); (try clear ho0)) | (go_at_call 15; (fail_if_success have := HO197); (with_reducible refine (watershedlaw12_own.calls _ _ l0 t195 _ ?side1 ?side2 A10.out).mono ?_); (case side1 => repeat (first | exact (Kd.C_below HR0.out HB.out) | (with_reducible refine Kd.C_alloc ?_ _) | (with_reducible refine Kd.C_drewN ?_ _) | (with_reducible refine Kd.C_drew ?_))); (case side2 => exact HC0.out); rintro e w20 ⟨v196, rfl, ho0, hb⟩; have n0_ := Aside0.mk (Kd.R_elder' zz4 (Kd.R_base ho0) hb); have n1_ := Aside0.mk (Kd.R_elder' zz6 (Kd.R_base ho0) hb); have n2_ := Aside0.mk (Kd.R_elder' zz7 (Kd.R_base ho0) hb); have n3_ := Aside0.mk (Kd.R_elder' zz9 (Kd.R_base ho0) hb); have n4_ := Aside0.mk (Kd.R_lower (Kd.R_new' (Kd.R_new' (Kd.R_new' (Kd.R_new' ho0 (Kd.R_lt zz4)) (Kd.R_lt zz6)) (Kd.R_lt zz7)) (Kd.R_lt zz9)) (below_size zz0)); have n5_ := Aside0.mk (below_step zz0 hb); clear HO183; clear HO187; clear HO190; clear HO194; clear HB; have HO183 := n0_; have HO187 := n1_; have HO190 := n2_; have HO194 := n3_; have HO197 := n4_; have HB := n5_; clear n0_ n1_ n2_ n3_ n4_ n5_; (try clear hb); (try clear hb2); (try clear hk); (try clear hi); (try clear ho0); obtain ⟨Ao21, co21, eo21⟩ := Kd.R_slice HO197.out; subst eo21) | (go_at_call 17; (with_reducible refine (oper_Fold.calls 14 _ _ t195 t198 t199 _ ?side1 ?side2 A11.out).mono ?_); (case side1 => repeat (first | exact (Kd.R_reads' HO197.out).2.2 | (with_reducible refine Kd.C_alloc ?_ _) | (with_reducible refine Kd.C_drewN ?_ _) | (with_reducible refine Kd.C_drew ?_))); (case side2 => exact (Kd.R_reads' HO197.out).2.1); rintro e w22 ⟨v200, rfl, ho0, hb⟩; have n0_ := Aside0.mk (Kd.R_elder' zz4 (Kd.R_base ho0) hb); have n1_ := Aside0.mk (Kd.R_elder' zz6 (Kd.R_base ho0) hb); have n2_ := Aside0.mk (Kd.R_elder' zz7 (Kd.R_base ho0) hb); have n3_ := Aside0.mk (Kd.R_elder' zz9 (Kd.R_base ho0) hb); have n4_ := Aside0.mk (Kd.R_elder' zz14 (Kd.R_base ho0) hb); have n5_ := Aside0.mk (Kd.R_lower (Kd.R_new' (Kd.R_new' (Kd.R_new' (Kd.R_new' (Kd.R_new' ho0 (Kd.R_lt zz4)) (Kd.R_lt zz6)) (Kd.R_lt zz7)) (Kd.R_lt zz9)) (Kd.R_lt zz14)) (below_size zz0)); have n6_ := Aside0.mk (below_step zz0 hb); clear HO183; clear HO187; clear HO190; clear HO194; clear HO197; clear HB; have HO183 := n0_; have HO187 := n1_; have HO190 := n2_; have HO194 := n3_; have HO197 := n4_; have HO201 := n5_; have HB := n6_; clear n0_ n1_ n2_ n3_ n4_ n5_ n6_; (try clear hb); (try clear hb2); (try clear hk); (try clear hi); (try clear ho0))))
      (try simp only [Act.put, List.setIfInBounds_toArray, List.set_cons_zero, List.set_cons_succ])
      go_cut [61] (fun v61 wc => ∃ (kq : Nat) (x61_11 : Bool), v61 = .bool x61_11 ∧ Aside0 (watershedlaw12_OperBounds.j0 kq l0 t184 t191 t198 x61_11 = some r) ∧ Aside0 (kq ≤ k) ∧ Aside0 (Kd.R k25 25 wc w.heap.size (fun k_ => some k_ ≠ (v193 : Value).ownBlock ∧ some k_ ≠ (v200 : Value).ownBlock) v186 t184) ∧ Aside0 (Kd.R k25 25 wc w.heap.size (fun k_ => some k_ ≠ (v186 : Value).ownBlock ∧ some k_ ≠ (v200 : Value).ownBlock) v193 t191) ∧ Aside0 (Kd.R k25 25 wc w.heap.size (fun k_ => some k_ ≠ (v186 : Value).ownBlock ∧ some k_ ≠ (v193 : Value).ownBlock) v200 t198) ∧ Aside0 (Below w.heap.size w wc))
      case first =>
        have H := HC12.out
        clear HC12
        by_cases c23 : t185 = 0
        · rw [if_pos c23] at H
          have c23b0 : (t185 == 0) = true := beq_iff_eq.mpr c23
          have c23b1 : (t185 != 0) = false := bne_eq_false_iff_eq.mpr c23
          clear c23
          (first | rw [c23b0] | (simp only [i64_w, i32_w]; rw [c23b0]) | skip)
          by_cases c24 : t192 = 0
          · rw [if_pos c24] at H
            have c24b0 : (t192 == 0) = true := beq_iff_eq.mpr c24
            have c24b1 : (t192 != 0) = false := bne_eq_false_iff_eq.mpr c24
            clear c24
            by_cases c25 : t199 = 0
            · rw [if_pos c25] at H
              have c25b0 : (t199 == 0) = true := beq_iff_eq.mpr c25
              have c25b1 : (t199 != 0) = false := bne_eq_false_iff_eq.mpr c25
              clear c25
              by_cases c26 : (t191.length : Int) = (t184.length : Int)
              · rw [if_pos c26] at H
                have c26b0 : ((t191.length : Int) == (t184.length : Int)) = true := beq_iff_eq.mpr c26
                have c26b1 : ((t191.length : Int) != (t184.length : Int)) = false := bne_eq_false_iff_eq.mpr c26
                have c26b2 : (t191.length == t184.length) = true := by first | simpa using c26 | (simp at c26 ⊢; omega)
                clear c26
                have H' := Aside0.mk H
                clear H
                obtain ⟨Ao27, co27, eo27⟩ := Kd.R_slice HO194.out
                subst eo27
                obtain ⟨Ao28, co28, eo28⟩ := Kd.R_slice HO187.out
                subst eo28
                obtain ⟨Ao29, co29, eo29⟩ := Kd.R_slice HO201.out
                subst eo29
                go_wp2
                repeat (go_quiet (fail); try go_wp2)
                go_meet
                case rel => exact ⟨_, (((t198.length : Int) != (t184.length : Int))), zz1, H', ⟨by first | omega | exact Nat.le_refl _⟩, ⟨by (with_reducible repeat (first | apply Kd.R_alloc | apply Kd.R_drewN | apply Kd.R_drew)); exact Kd.R_mono HO187.out (fun _ hk => ⟨hk.1.1.2, hk.2⟩)⟩, ⟨by (with_reducible repeat (first | apply Kd.R_alloc | apply Kd.R_drewN | apply Kd.R_drew)); exact Kd.R_mono HO194.out (fun _ hk => ⟨hk.1.1.1.2, hk.2⟩)⟩, ⟨by (with_reducible repeat (first | apply Kd.R_alloc | apply Kd.R_drewN | apply Kd.R_drew)); exact Kd.R_mono HO201.out (fun _ hk => ⟨hk.1.1.1.2, hk.1.2⟩)⟩, ⟨by repeat (first | (with_reducible first | exact HB.out | apply below_alloc | apply pw_below_drewN | apply below_drew1) | exact HB.out)⟩⟩
              · rw [if_neg c26] at H
                have c26b0 : ((t191.length : Int) == (t184.length : Int)) = false := beq_eq_false_iff_ne.mpr c26
                have c26b1 : ((t191.length : Int) != (t184.length : Int)) = true := bne_iff_ne.mpr c26
                have c26b2 : (t191.length == t184.length) = false := by first | simpa using c26 | (simp at c26 ⊢; omega)
                have H' := Aside0.mk H
                clear H
                obtain ⟨Ao30, co30, eo30⟩ := Kd.R_slice HO194.out
                subst eo30
                obtain ⟨Ao31, co31, eo31⟩ := Kd.R_slice HO187.out
                subst eo31
                go_wp2
                repeat (go_quiet (fail); try go_wp2)
                go_meet
                case rel => exact ⟨_, (true), zz1, H', ⟨by first | omega | exact Nat.le_refl _⟩, ⟨by (with_reducible repeat (first | apply Kd.R_alloc | apply Kd.R_drewN | apply Kd.R_drew)); exact Kd.R_mono HO187.out (fun _ hk => ⟨hk.1.1.2, hk.2⟩)⟩, ⟨by (with_reducible repeat (first | apply Kd.R_alloc | apply Kd.R_drewN | apply Kd.R_drew)); exact Kd.R_mono HO194.out (fun _ hk => ⟨hk.1.1.1.2, hk.2⟩)⟩, ⟨by (with_reducible repeat (first | apply Kd.R_alloc | apply Kd.R_drewN | apply Kd.R_drew)); exact Kd.R_mono HO201.out (fun _ hk => ⟨hk.1.1.1.2, hk.1.2⟩)⟩, ⟨by repeat (first | (with_reducible first | exact HB.out | apply below_alloc | apply pw_below_drewN | apply below_drew1) | exact HB.out)⟩⟩
            · rw [if_neg c25] at H
              have c25b0 : (t199 == 0) = false := beq_eq_false_iff_ne.mpr c25
              have c25b1 : (t199 != 0) = true := bne_iff_ne.mpr c25
              have H' := Aside0.mk H
              clear H
              go_wp2
              repeat (go_quiet (fail); try go_wp2)
              go_meet
              case rel => exact ⟨_, (true), zz1, H', ⟨by first | omega | exact Nat.le_refl _⟩, ⟨by (with_reducible repeat (first | apply Kd.R_alloc | apply Kd.R_drewN | apply Kd.R_drew)); exact Kd.R_mono HO187.out (fun _ hk => ⟨hk.1.1.2, hk.2⟩)⟩, ⟨by (with_reducible repeat (first | apply Kd.R_alloc | apply Kd.R_drewN | apply Kd.R_drew)); exact Kd.R_mono HO194.out (fun _ hk => ⟨hk.1.1.1.2, hk.2⟩)⟩, ⟨by (with_reducible repeat (first | apply Kd.R_alloc | apply Kd.R_drewN | apply Kd.R_drew)); exact Kd.R_mono HO201.out (fun _ hk => ⟨hk.1.1.1.2, hk.1.2⟩)⟩, ⟨by repeat (first | (with_reducible first | exact HB.out | apply below_alloc | apply pw_below_drewN | apply below_drew1) | exact HB.out)⟩⟩
          · rw [if_neg c24] at H
            have c24b0 : (t192 == 0) = false := beq_eq_false_iff_ne.mpr c24
            have c24b1 : (t192 != 0) = true := bne_iff_ne.mpr c24
            have H' := Aside0.mk H
            clear H
            go_wp2
            repeat (go_quiet (fail); try go_wp2)
            go_meet
            case rel => exact ⟨_, (true), zz1, H', ⟨by first | omega | exact Nat.le_refl _⟩, ⟨by (with_reducible repeat (first | apply Kd.R_alloc | apply Kd.R_drewN | apply Kd.R_drew)); exact Kd.R_mono HO187.out (fun _ hk => ⟨hk.1.1.2, hk.2⟩)⟩, ⟨by (with_reducible repeat (first | apply Kd.R_alloc | apply Kd.R_drewN | apply Kd.R_drew)); exact Kd.R_mono HO194.out (fun _ hk => ⟨hk.1.1.1.2, hk.2⟩)⟩, ⟨by (with_reducible repeat (first | apply Kd.R_alloc | apply Kd.R_drewN | apply Kd.R_drew)); exact Kd.R_mono HO201.out (fun _ hk => ⟨hk.1.1.1.2, hk.1.2⟩)⟩, ⟨by repeat (first | (with_reducible first | exact HB.out | apply below_alloc | apply pw_below_drewN | apply below_drew1) | exact HB.out)⟩⟩
        · rw [if_neg c23] at H
          have c23b0 : (t185 == 0) = false := beq_eq_false_iff_ne.mpr c23
          have c23b1 : (t185 != 0) = true := bne_iff_ne.mpr c23
          (first | rw [c23b0] | (simp only [i64_w, i32_w]; rw [c23b0]) | skip)
          have H' := Aside0.mk H
          clear H
          go_wp2
          repeat (go_quiet (fail); try go_wp2)
          go_meet
          case rel => exact ⟨_, (true), zz1, H', ⟨by first | omega | exact Nat.le_refl _⟩, ⟨by (with_reducible repeat (first | apply Kd.R_alloc | apply Kd.R_drewN | apply Kd.R_drew)); exact Kd.R_mono HO187.out (fun _ hk => ⟨hk.1.1.2, hk.2⟩)⟩, ⟨by (with_reducible repeat (first | apply Kd.R_alloc | apply Kd.R_drewN | apply Kd.R_drew)); exact Kd.R_mono HO194.out (fun _ hk => ⟨hk.1.1.1.2, hk.2⟩)⟩, ⟨by (with_reducible repeat (first | apply Kd.R_alloc | apply Kd.R_drewN | apply Kd.R_drew)); exact Kd.R_mono HO201.out (fun _ hk => ⟨hk.1.1.1.2, hk.1.2⟩)⟩, ⟨by repeat (first | (with_reducible first | exact HB.out | apply below_alloc | apply pw_below_drewN | apply below_drew1) | exact HB.out)⟩⟩
      case rest =>
        clear HC12
        (try clear c2); (try clear p2); (try clear c3); (try clear c4); (try clear c4b0); (try clear c4b1); (try clear c5); (try clear p6); (try clear c23); (try clear c23b0); (try clear c23b1); (try clear c24); (try clear c24b0); (try clear c24b1); (try clear c25); (try clear c25b0); (try clear c25b1); (try clear c26); (try clear c26b0); (try clear c26b1); (try clear c26b2)
        obtain ⟨kq, x61_11, rfl, HA, HJ11, HO_3, HO_5, HO_7, HB⟩ := hcut
        cases kq with
        | zero => exact absurd HA.out (by simp [watershedlaw12_OperBounds.j0])
        | succ kj11 =>
          have H := HA.out
          clear HA
          simp only [watershedlaw12_OperBounds.j0] at H
          by_cases c32 : x61_11 = true
          · subst c32
            have H1 : (none) = some r := by rw [if_pos rfl] at H; exact H
            clear H
            have H := H1
            clear H1
            exact absurd H (by simp)
          · replace c32 := Bool.eq_false_iff.mpr c32
            subst c32
            have H1 : (watershedlaw12_OperBounds.l0 kj11 l0 t184 t191 t198 0 0) = some r := by rw [if_neg (show ¬ (false = true) by decide)] at H; exact H
            clear H
            have H := H1
            clear H1
            have H' := Aside0.mk H
            clear H
            go_wp2
            repeat (go_quiet (fail); try go_wp2)
            go_loopg [9, 10] kj11 (fun kq v9 v10 w' => ∃ (x9_2 : Int) (x10_2 : Int), v9 = .int .i64 x9_2 ∧ v10 = .int .i64 x10_2 ∧ Aside0 (watershedlaw12_OperBounds.l0 kq l0 t184 t191 t198 x9_2 x10_2 = some r) ∧ Aside0 (kq ≤ kj11) ∧ Aside0 (Kd.R k25 25 w' w.heap.size (fun k_ => some k_ ≠ (v193 : Value).ownBlock ∧ some k_ ≠ (v200 : Value).ownBlock) v186 t184) ∧ Aside0 (Kd.R k25 25 w' w.heap.size (fun k_ => some k_ ≠ (v186 : Value).ownBlock ∧ some k_ ≠ (v200 : Value).ownBlock) v193 t191) ∧ Aside0 (Kd.R k25 25 w' w.heap.size (fun k_ => some k_ ≠ (v186 : Value).ownBlock ∧ some k_ ≠ (v193 : Value).ownBlock) v200 t198) ∧ Aside0 (Below w.heap.size w w'))
            case atStart => exact ⟨(0), (0), zz1, zz1, H', ⟨Nat.le_refl _⟩, ⟨by (with_reducible repeat (first | apply Kd.R_alloc | apply Kd.R_drewN | apply Kd.R_drew)); exact HO_3.out⟩, ⟨by (with_reducible repeat (first | apply Kd.R_alloc | apply Kd.R_drewN | apply Kd.R_drew)); exact HO_5.out⟩, ⟨by (with_reducible repeat (first | apply Kd.R_alloc | apply Kd.R_drewN | apply Kd.R_drew)); exact HO_7.out⟩, ⟨by repeat (first | (with_reducible first | exact HB.out | apply below_alloc | apply pw_below_drewN | apply below_drew1) | exact HB.out)⟩⟩
            case round =>
              clear H'
              (try clear c2); (try clear p2); (try clear c3); (try clear c4); (try clear c4b0); (try clear c4b1); (try clear c5); (try clear p6); (try clear c23); (try clear c23b0); (try clear c23b1); (try clear c24); (try clear c24b0); (try clear c24b1); (try clear c25); (try clear c25b0); (try clear c25b1); (try clear c26); (try clear c26b0); (try clear c26b1); (try clear c26b2); (try clear c32); (try clear p2); (try clear p6)
              obtain ⟨x9_2, x10_2, rfl, rfl, HA, HK2, HO_3, HO_5, HO_7, HB⟩ := hrel
              cases gk with
              | zero => exact absurd HA.out (by simp [watershedlaw12_OperBounds.l0])
              | succ k2 =>
                have H := HA.out
                clear HA
                simp only [watershedlaw12_OperBounds.l0] at H
                by_cases c33 : x10_2 < (t184.length : Int)
                · rw [if_pos c33] at H
                  have c33b0 : decide (x10_2 < (t184.length : Int)) = true := decide_eq_true c33
                  clear c33
                  have H' := Aside0.mk H
                  clear H
                  obtain ⟨Ao34, co34, eo34⟩ := Kd.R_slice HO_3.out
                  subst eo34
                  go_wp2
                  repeat (go_quiet (fail); try go_wp2)
                  go_loopg [11, 12, 13, 14] k2 (fun kq v11 v12 v13 v14 w' => ∃ (x11_3 : Int) (x12_3 : Bool) (x13_3 : Bool) (x14_3 : Int), v11 = .int .i64 x11_3 ∧ v12 = .bool x12_3 ∧ v13 = .bool x13_3 ∧ v14 = .int .i64 x14_3 ∧ Aside0 (watershedlaw12_OperBounds.l1 kq l0 t184 t191 t198 x9_2 x10_2 x11_3 x12_3 x13_3 x14_3 = some r) ∧ Aside0 (kq ≤ k2) ∧ Aside0 (Kd.R k25 25 w' w.heap.size (fun k_ => some k_ ≠ (v193 : Value).ownBlock ∧ some k_ ≠ (v200 : Value).ownBlock) (.slice Ao34 t184.length co34) t184) ∧ Aside0 (Kd.R k25 25 w' w.heap.size (fun k_ => some k_ ≠ ((.slice Ao34 t184.length co34) : Value).ownBlock ∧ some k_ ≠ (v200 : Value).ownBlock) v193 t191) ∧ Aside0 (Kd.R k25 25 w' w.heap.size (fun k_ => some k_ ≠ ((.slice Ao34 t184.length co34) : Value).ownBlock ∧ some k_ ≠ (v193 : Value).ownBlock) v200 t198) ∧ Aside0 (Below w.heap.size w w'))
                  case atStart => exact ⟨(0), (false), (false), (0), zz1, zz1, zz1, zz1, H', ⟨Nat.le_refl _⟩, ⟨by (with_reducible repeat (first | apply Kd.R_alloc | apply Kd.R_drewN | apply Kd.R_drew)); exact HO_3.out⟩, ⟨by (with_reducible repeat (first | apply Kd.R_alloc | apply Kd.R_drewN | apply Kd.R_drew)); exact HO_5.out⟩, ⟨by (with_reducible repeat (first | apply Kd.R_alloc | apply Kd.R_drewN | apply Kd.R_drew)); exact HO_7.out⟩, ⟨by repeat (first | (with_reducible first | exact HB.out | apply below_alloc | apply pw_below_drewN | apply below_drew1) | exact HB.out)⟩⟩
                  case round =>
                    clear H'
                    (try clear c2); (try clear p2); (try clear c3); (try clear c4); (try clear c4b0); (try clear c4b1); (try clear c5); (try clear p6); (try clear c23); (try clear c23b0); (try clear c23b1); (try clear c24); (try clear c24b0); (try clear c24b1); (try clear c25); (try clear c25b0); (try clear c25b1); (try clear c26); (try clear c26b0); (try clear c26b1); (try clear c26b2); (try clear c32); (try clear c33); (try clear c33b0); (try clear p2); (try clear p6)
                    obtain ⟨x11_3, x12_3, x13_3, x14_3, rfl, rfl, rfl, rfl, HA, HK3, HO_3, HO_5, HO_7, HB⟩ := hrel
                    cases gk with
                    | zero => exact absurd HA.out (by simp [watershedlaw12_OperBounds.l1])
                    | succ k3 =>
                      have H := HA.out
                      clear HA
                      simp only [watershedlaw12_OperBounds.l1] at H
                      by_cases c35 : x14_3 < (l0.length : Int)
                      · rw [if_pos c35] at H
                        have c35b0 : decide (x14_3 < (l0.length : Int)) = true := decide_eq_true c35
                        clear c35
                        by_cases c36 : 0 ≤ x14_3
                        · rw [if_pos c36] at H
                          have c36b0 : decide (0 ≤ x14_3) = true := decide_eq_true c36
                          clear c36
                          by_cases c37 : 0 ≤ x10_2
                          · rw [if_pos c37] at H
                            have c37b0 : decide (0 ≤ x10_2) = true := decide_eq_true c37
                            clear c37
                            by_cases c38 : x10_2 < (t184.length : Int)
                            · rw [if_pos c38] at H
                              have c38b0 : decide (x10_2 < (t184.length : Int)) = true := decide_eq_true c38
                              clear c38
                              by_cases c39 : ((rd_T25 l0 x14_3).f0) = ((rd_T25 t184 x10_2).f0)
                              · rw [if_pos c39] at H
                                have c39b0 : (((rd_T25 l0 x14_3).f0) == ((rd_T25 t184 x10_2).f0)) = true := beq_iff_eq.mpr c39
                                have c39b1 : (((rd_T25 l0 x14_3).f0) != ((rd_T25 t184 x10_2).f0)) = false := bne_eq_false_iff_eq.mpr c39
                                clear c39
                                by_cases c40 : x12_3 = true
                                · subst c40
                                  have H1 : (if x13_3 = true then (if x10_2 < (t191.length : Int) then (if ((rd_T25 l0 x14_3).f1) < ((rd_T25 t191 x10_2).f1) then (none) else (if x10_2 < (t198.length : Int) then (if ((rd_T25 l0 x14_3).f1) > ((rd_T25 t198 x10_2).f1) then (none) else (watershedlaw12_OperBounds.l1 k3 l0 t184 t191 t198 x9_2 x10_2 (wrap64 (x11_3 + 1)) true true (wrap64 (x14_3 + 1)))) else (none))) else (none)) else (if x10_2 < (t198.length : Int) then (if x10_2 < (t191.length : Int) then (if ((rd_T25 l0 x14_3).f1) < ((rd_T25 t191 x10_2).f1) then (none) else (if ((rd_T25 l0 x14_3).f1) > ((rd_T25 t198 x10_2).f1) then (none) else (watershedlaw12_OperBounds.l1 k3 l0 t184 t191 t198 x9_2 x10_2 (wrap64 (x11_3 + 1)) true (((rd_T25 l0 x14_3).f1) == ((rd_T25 t198 x10_2).f1)) (wrap64 (x14_3 + 1))))) else (none)) else (none))) = some r := by rw [if_pos rfl] at H; exact H
                                  clear H
                                  have H := H1
                                  clear H1
                                  by_cases c41 : x13_3 = true
                                  · subst c41
                                    have H1 : (if x10_2 < (t191.length : Int) then (if ((rd_T25 l0 x14_3).f1) < ((rd_T25 t191 x10_2).f1) then (none) else (if x10_2 < (t198.length : Int) then (if ((rd_T25 l0 x14_3).f1) > ((rd_T25 t198 x10_2).f1) then (none) else (watershedlaw12_OperBounds.l1 k3 l0 t184 t191 t198 x9_2 x10_2 (wrap64 (x11_3 + 1)) true true (wrap64 (x14_3 + 1)))) else (none))) else (none)) = some r := by rw [if_pos rfl] at H; exact H
                                    clear H
                                    have H := H1
                                    clear H1
                                    by_cases c42 : x10_2 < (t191.length : Int)
                                    · rw [if_pos c42] at H
                                      have c42b0 : decide (x10_2 < (t191.length : Int)) = true := decide_eq_true c42
                                      clear c42
                                      by_cases c43 : ((rd_T25 l0 x14_3).f1) < ((rd_T25 t191 x10_2).f1)
                                      · rw [if_pos c43] at H
                                        exact absurd H (by simp)
                                      · rw [if_neg c43] at H
                                        have c43b0 : decide (((rd_T25 l0 x14_3).f1) < ((rd_T25 t191 x10_2).f1)) = false := decide_eq_false c43
                                        clear c43
                                        by_cases c44 : x10_2 < (t198.length : Int)
                                        · rw [if_pos c44] at H
                                          have c44b0 : decide (x10_2 < (t198.length : Int)) = true := decide_eq_true c44
                                          clear c44
                                          by_cases c45 : ((rd_T25 l0 x14_3).f1) > ((rd_T25 t198 x10_2).f1)
                                          · rw [if_pos c45] at H
                                            exact absurd H (by simp)
                                          · rw [if_neg c45] at H
                                            have c45b0 : decide (((rd_T25 t198 x10_2).f1) < ((rd_T25 l0 x14_3).f1)) = false := decide_eq_false c45
                                            clear c45
                                            have H' := Aside0.mk H
                                            clear H
                                            have p207 : 0 ≤ (x14_3 : Int) := of_decide_eq_true zz2
                                            have q207 : x14_3 < (l0.length : Int) := of_decide_eq_true zz2
                                            obtain ⟨ad207, e207, hx207_0, hx207_1⟩ := at_T25 HR0.out x14_3 p207 q207
                                            cases e207
                                            replace hx207_0 := (HB.out.cell (World.block_lt_of_cell? w _ hx207_0)).trans hx207_0
                                            replace hx207_1 := (HB.out.cell (World.block_lt_of_cell? w _ hx207_1)).trans hx207_1
                                            replace p207 := eq_true p207
                                            replace q207 := eq_true q207
                                            have p208 : 0 ≤ (x10_2 : Int) := of_decide_eq_true zz2
                                            have q208 : x10_2 < (t184.length : Int) := of_decide_eq_true zz2
                                            obtain ⟨ad208, e208, hx208_0, hx208_1⟩ := at_T25 (Kd.R_reads' HO_3.out).2.2 x10_2 p208 q208
                                            cases e208
                                            replace p208 := eq_true p208
                                            replace q208 := eq_true q208
                                            have p209 : 0 ≤ (x14_3 : Int) := of_decide_eq_true zz2
                                            have q209 : x14_3 < (l0.length : Int) := of_decide_eq_true zz2
                                            obtain ⟨ad209, e209, hx209_0, hx209_1⟩ := at_T25 HR0.out x14_3 p209 q209
                                            obtain rfl : ad207 = ad209 := (by injection e209)
                                            replace hx209_0 := (HB.out.cell (World.block_lt_of_cell? w _ hx209_0)).trans hx209_0
                                            replace hx209_1 := (HB.out.cell (World.block_lt_of_cell? w _ hx209_1)).trans hx209_1
                                            replace p209 := eq_true p209
                                            replace q209 := eq_true q209
                                            obtain ⟨Ao46, co46, eo46⟩ := Kd.R_slice HO_5.out
                                            subst eo46
                                            have p210 : 0 ≤ (x10_2 : Int) := of_decide_eq_true zz2
                                            have q210 : x10_2 < (t191.length : Int) := of_decide_eq_true zz2
                                            obtain ⟨ad210, e210, hx210_0, hx210_1⟩ := at_T25 (Kd.R_reads' HO_5.out).2.2 x10_2 p210 q210
                                            cases e210
                                            replace p210 := eq_true p210
                                            replace q210 := eq_true q210
                                            have p211 : 0 ≤ (x14_3 : Int) := of_decide_eq_true zz2
                                            have q211 : x14_3 < (l0.length : Int) := of_decide_eq_true zz2
                                            obtain ⟨ad211, e211, hx211_0, hx211_1⟩ := at_T25 HR0.out x14_3 p211 q211
                                            obtain rfl : ad207 = ad211 := (by injection e211)
                                            replace hx211_0 := (HB.out.cell (World.block_lt_of_cell? w _ hx211_0)).trans hx211_0
                                            replace hx211_1 := (HB.out.cell (World.block_lt_of_cell? w _ hx211_1)).trans hx211_1
                                            replace p211 := eq_true p211
                                            replace q211 := eq_true q211
                                            obtain ⟨Ao47, co47, eo47⟩ := Kd.R_slice HO_7.out
                                            subst eo47
                                            have p212 : 0 ≤ (x10_2 : Int) := of_decide_eq_true zz2
                                            have q212 : x10_2 < (t198.length : Int) := of_decide_eq_true zz2
                                            obtain ⟨ad212, e212, hx212_0, hx212_1⟩ := at_T25 (Kd.R_reads' HO_7.out).2.2 x10_2 p212 q212
                                            cases e212
                                            replace p212 := eq_true p212
                                            replace q212 := eq_true q212
                                            go_wp2
                                            repeat (go_quiet (fail); try go_wp2)
                                            go_roundg k3
                                            case measure => have := HJ11.out; have := HK2.out; have := HK3.out; omega
                                            case rel => exact ⟨(wrap64 (x11_3 + 1)), (true), (true), (wrap64 (x14_3 + 1)), zz1, zz1, zz1, zz1, H', ⟨by have := HJ11.out; have := HK2.out; have := HK3.out; omega⟩, ⟨by (with_reducible repeat (first | apply Kd.R_alloc | apply Kd.R_drewN | apply Kd.R_drew)); exact HO_3.out⟩, ⟨by (with_reducible repeat (first | apply Kd.R_alloc | apply Kd.R_drewN | apply Kd.R_drew)); exact HO_5.out⟩, ⟨by (with_reducible repeat (first | apply Kd.R_alloc | apply Kd.R_drewN | apply Kd.R_drew)); exact HO_7.out⟩, ⟨by repeat (first | (with_reducible first | exact HB.out | apply below_alloc | apply pw_below_drewN | apply below_drew1) | exact HB.out)⟩⟩
                                        · rw [if_neg c44] at H
                                          exact absurd H (by simp)
                                    · rw [if_neg c42] at H
                                      exact absurd H (by simp)
                                  · replace c41 := Bool.eq_false_iff.mpr c41
                                    subst c41
                                    have H1 : (if x10_2 < (t198.length : Int) then (if x10_2 < (t191.length : Int) then (if ((rd_T25 l0 x14_3).f1) < ((rd_T25 t191 x10_2).f1) then (none) else (if ((rd_T25 l0 x14_3).f1) > ((rd_T25 t198 x10_2).f1) then (none) else (watershedlaw12_OperBounds.l1 k3 l0 t184 t191 t198 x9_2 x10_2 (wrap64 (x11_3 + 1)) true (((rd_T25 l0 x14_3).f1) == ((rd_T25 t198 x10_2).f1)) (wrap64 (x14_3 + 1))))) else (none)) else (none)) = some r := by rw [if_neg (show ¬ (false = true) by decide)] at H; exact H
                                    clear H
                                    have H := H1
                                    clear H1
                                    by_cases c48 : x10_2 < (t198.length : Int)
                                    · rw [if_pos c48] at H
                                      have c48b0 : decide (x10_2 < (t198.length : Int)) = true := decide_eq_true c48
                                      clear c48
                                      by_cases c49 : x10_2 < (t191.length : Int)
                                      · rw [if_pos c49] at H
                                        have c49b0 : decide (x10_2 < (t191.length : Int)) = true := decide_eq_true c49
                                        clear c49
                                        by_cases c50 : ((rd_T25 l0 x14_3).f1) < ((rd_T25 t191 x10_2).f1)
                                        · rw [if_pos c50] at H
                                          exact absurd H (by simp)
                                        · rw [if_neg c50] at H
                                          have c50b0 : decide (((rd_T25 l0 x14_3).f1) < ((rd_T25 t191 x10_2).f1)) = false := decide_eq_false c50
                                          clear c50
                                          by_cases c51 : ((rd_T25 l0 x14_3).f1) > ((rd_T25 t198 x10_2).f1)
                                          · rw [if_pos c51] at H
                                            exact absurd H (by simp)
                                          · rw [if_neg c51] at H
                                            have c51b0 : decide (((rd_T25 t198 x10_2).f1) < ((rd_T25 l0 x14_3).f1)) = false := decide_eq_false c51
                                            clear c51
                                            have H' := Aside0.mk H
                                            clear H
                                            have p207 : 0 ≤ (x14_3 : Int) := of_decide_eq_true zz2
                                            have q207 : x14_3 < (l0.length : Int) := of_decide_eq_true zz2
                                            obtain ⟨ad207, e207, hx207_0, hx207_1⟩ := at_T25 HR0.out x14_3 p207 q207
                                            cases e207
                                            replace hx207_0 := (HB.out.cell (World.block_lt_of_cell? w _ hx207_0)).trans hx207_0
                                            replace hx207_1 := (HB.out.cell (World.block_lt_of_cell? w _ hx207_1)).trans hx207_1
                                            replace p207 := eq_true p207
                                            replace q207 := eq_true q207
                                            have p208 : 0 ≤ (x10_2 : Int) := of_decide_eq_true zz2
                                            have q208 : x10_2 < (t184.length : Int) := of_decide_eq_true zz2
                                            obtain ⟨ad208, e208, hx208_0, hx208_1⟩ := at_T25 (Kd.R_reads' HO_3.out).2.2 x10_2 p208 q208
                                            cases e208
                                            replace p208 := eq_true p208
                                            replace q208 := eq_true q208
                                            have p213 : 0 ≤ (x14_3 : Int) := of_decide_eq_true zz2
                                            have q213 : x14_3 < (l0.length : Int) := of_decide_eq_true zz2
                                            obtain ⟨ad213, e213, hx213_0, hx213_1⟩ := at_T25 HR0.out x14_3 p213 q213
                                            obtain rfl : ad207 = ad213 := (by injection e213)
                                            replace hx213_0 := (HB.out.cell (World.block_lt_of_cell? w _ hx213_0)).trans hx213_0
                                            replace hx213_1 := (HB.out.cell (World.block_lt_of_cell? w _ hx213_1)).trans hx213_1
                                            replace p213 := eq_true p213
                                            replace q213 := eq_true q213
                                            obtain ⟨Ao52, co52, eo52⟩ := Kd.R_slice HO_7.out
                                            subst eo52
                                            have p214 : 0 ≤ (x10_2 : Int) := of_decide_eq_true zz2
                                            have q214 : x10_2 < (t198.length : Int) := of_decide_eq_true zz2
                                            obtain ⟨ad214, e214, hx214_0, hx214_1⟩ := at_T25 (Kd.R_reads' HO_7.out).2.2 x10_2 p214 q214
                                            cases e214
                                            replace p214 := eq_true p214
                                            replace q214 := eq_true q214
                                            have p215 : 0 ≤ (x14_3 : Int) := of_decide_eq_true zz2
                                            have q215 : x14_3 < (l0.length : Int) := of_decide_eq_true zz2
                                            obtain ⟨ad215, e215, hx215_0, hx215_1⟩ := at_T25 HR0.out x14_3 p215 q215
                                            obtain rfl : ad207 = ad215 := (by injection e215)
                                            replace hx215_0 := (HB.out.cell (World.block_lt_of_cell? w _ hx215_0)).trans hx215_0
                                            replace hx215_1 := (HB.out.cell (World.block_lt_of_cell? w _ hx215_1)).trans hx215_1
                                            replace p215 := eq_true p215
                                            replace q215 := eq_true q215
                                            obtain ⟨Ao53, co53, eo53⟩ := Kd.R_slice HO_5.out
                                            subst eo53
                                            have p216 : 0 ≤ (x10_2 : Int) := of_decide_eq_true zz2
                                            have q216 : x10_2 < (t191.length : Int) := of_decide_eq_true zz2
                                            obtain ⟨ad216, e216, hx216_0, hx216_1⟩ := at_T25 (Kd.R_reads' HO_5.out).2.2 x10_2 p216 q216
                                            cases e216
                                            replace p216 := eq_true p216
                                            replace q216 := eq_true q216
                                            have p217 : 0 ≤ (x14_3 : Int) := of_decide_eq_true zz2
                                            have q217 : x14_3 < (l0.length : Int) := of_decide_eq_true zz2
                                            obtain ⟨ad217, e217, hx217_0, hx217_1⟩ := at_T25 HR0.out x14_3 p217 q217
                                            obtain rfl : ad207 = ad217 := (by injection e217)
                                            replace hx217_0 := (HB.out.cell (World.block_lt_of_cell? w _ hx217_0)).trans hx217_0
                                            replace hx217_1 := (HB.out.cell (World.block_lt_of_cell? w _ hx217_1)).trans hx217_1
                                            replace p217 := eq_true p217
                                            replace q217 := eq_true q217
                                            have p218 : 0 ≤ (x10_2 : Int) := of_decide_eq_true zz2
                                            have q218 : x10_2 < (t198.length : Int) := of_decide_eq_true zz2
                                            obtain ⟨ad218, e218, hx218_0, hx218_1⟩ := at_T25 (Kd.R_reads' HO_7.out).2.2 x10_2 p218 q218
                                            obtain rfl : ad214 = ad218 := (by injection e218)
                                            replace p218 := eq_true p218
                                            replace q218 := eq_true q218
                                            go_wp2
                                            repeat (go_quiet (fail); try go_wp2)
                                            go_roundg k3
                                            case measure => have := HJ11.out; have := HK2.out; have := HK3.out; omega
                                            case rel => exact ⟨(wrap64 (x11_3 + 1)), (true), ((((rd_T25 l0 x14_3).f1) == ((rd_T25 t198 x10_2).f1))), (wrap64 (x14_3 + 1)), zz1, zz1, zz1, zz1, H', ⟨by have := HJ11.out; have := HK2.out; have := HK3.out; omega⟩, ⟨by (with_reducible repeat (first | apply Kd.R_alloc | apply Kd.R_drewN | apply Kd.R_drew)); exact HO_3.out⟩, ⟨by (with_reducible repeat (first | apply Kd.R_alloc | apply Kd.R_drewN | apply Kd.R_drew)); exact HO_5.out⟩, ⟨by (with_reducible repeat (first | apply Kd.R_alloc | apply Kd.R_drewN | apply Kd.R_drew)); exact HO_7.out⟩, ⟨by repeat (first | (with_reducible first | exact HB.out | apply below_alloc | apply pw_below_drewN | apply below_drew1) | exact HB.out)⟩⟩
                                      · rw [if_neg c49] at H
                                        exact absurd H (by simp)
                                    · rw [if_neg c48] at H
                                      exact absurd H (by simp)
                                · replace c40 := Bool.eq_false_iff.mpr c40
                                  subst c40
                                  have H1 : (if x10_2 < (t191.length : Int) then (if x13_3 = true then (if ((rd_T25 l0 x14_3).f1) < ((rd_T25 t191 x10_2).f1) then (none) else (if x10_2 < (t198.length : Int) then (if ((rd_T25 l0 x14_3).f1) > ((rd_T25 t198 x10_2).f1) then (none) else (watershedlaw12_OperBounds.l1 k3 l0 t184 t191 t198 x9_2 x10_2 (wrap64 (x11_3 + 1)) (((rd_T25 l0 x14_3).f1) == ((rd_T25 t191 x10_2).f1)) true (wrap64 (x14_3 + 1)))) else (none))) else (if x10_2 < (t198.length : Int) then (if ((rd_T25 l0 x14_3).f1) < ((rd_T25 t191 x10_2).f1) then (none) else (if ((rd_T25 l0 x14_3).f1) > ((rd_T25 t198 x10_2).f1) then (none) else (watershedlaw12_OperBounds.l1 k3 l0 t184 t191 t198 x9_2 x10_2 (wrap64 (x11_3 + 1)) (((rd_T25 l0 x14_3).f1) == ((rd_T25 t191 x10_2).f1)) (((rd_T25 l0 x14_3).f1) == ((rd_T25 t198 x10_2).f1)) (wrap64 (x14_3 + 1))))) else (none))) else (none)) = some r := by rw [if_neg (show ¬ (false = true) by decide)] at H; exact H
                                  clear H
                                  have H := H1
                                  clear H1
                                  by_cases c54 : x10_2 < (t191.length : Int)
                                  · rw [if_pos c54] at H
                                    have c54b0 : decide (x10_2 < (t191.length : Int)) = true := decide_eq_true c54
                                    clear c54
                                    by_cases c55 : x13_3 = true
                                    · subst c55
                                      have H1 : (if ((rd_T25 l0 x14_3).f1) < ((rd_T25 t191 x10_2).f1) then (none) else (if x10_2 < (t198.length : Int) then (if ((rd_T25 l0 x14_3).f1) > ((rd_T25 t198 x10_2).f1) then (none) else (watershedlaw12_OperBounds.l1 k3 l0 t184 t191 t198 x9_2 x10_2 (wrap64 (x11_3 + 1)) (((rd_T25 l0 x14_3).f1) == ((rd_T25 t191 x10_2).f1)) true (wrap64 (x14_3 + 1)))) else (none))) = some r := by rw [if_pos rfl] at H; exact H
                                      clear H
                                      have H := H1
                                      clear H1
                                      by_cases c56 : ((rd_T25 l0 x14_3).f1) < ((rd_T25 t191 x10_2).f1)
                                      · rw [if_pos c56] at H
                                        exact absurd H (by simp)
                                      · rw [if_neg c56] at H
                                        have c56b0 : decide (((rd_T25 l0 x14_3).f1) < ((rd_T25 t191 x10_2).f1)) = false := decide_eq_false c56
                                        clear c56
                                        by_cases c57 : x10_2 < (t198.length : Int)
                                        · rw [if_pos c57] at H
                                          have c57b0 : decide (x10_2 < (t198.length : Int)) = true := decide_eq_true c57
                                          clear c57
                                          by_cases c58 : ((rd_T25 l0 x14_3).f1) > ((rd_T25 t198 x10_2).f1)
                                          · rw [if_pos c58] at H
                                            exact absurd H (by simp)
                                          · rw [if_neg c58] at H
                                            have c58b0 : decide (((rd_T25 t198 x10_2).f1) < ((rd_T25 l0 x14_3).f1)) = false := decide_eq_false c58
                                            clear c58
                                            have H' := Aside0.mk H
                                            clear H
                                            have p207 : 0 ≤ (x14_3 : Int) := of_decide_eq_true zz2
                                            have q207 : x14_3 < (l0.length : Int) := of_decide_eq_true zz2
                                            obtain ⟨ad207, e207, hx207_0, hx207_1⟩ := at_T25 HR0.out x14_3 p207 q207
                                            cases e207
                                            replace hx207_0 := (HB.out.cell (World.block_lt_of_cell? w _ hx207_0)).trans hx207_0
                                            replace hx207_1 := (HB.out.cell (World.block_lt_of_cell? w _ hx207_1)).trans hx207_1
                                            replace p207 := eq_true p207
                                            replace q207 := eq_true q207
                                            have p208 : 0 ≤ (x10_2 : Int) := of_decide_eq_true zz2
                                            have q208 : x10_2 < (t184.length : Int) := of_decide_eq_true zz2
                                            obtain ⟨ad208, e208, hx208_0, hx208_1⟩ := at_T25 (Kd.R_reads' HO_3.out).2.2 x10_2 p208 q208
                                            cases e208
                                            replace p208 := eq_true p208
                                            replace q208 := eq_true q208
                                            have p219 : 0 ≤ (x14_3 : Int) := of_decide_eq_true zz2
                                            have q219 : x14_3 < (l0.length : Int) := of_decide_eq_true zz2
                                            obtain ⟨ad219, e219, hx219_0, hx219_1⟩ := at_T25 HR0.out x14_3 p219 q219
                                            obtain rfl : ad207 = ad219 := (by injection e219)
                                            replace hx219_0 := (HB.out.cell (World.block_lt_of_cell? w _ hx219_0)).trans hx219_0
                                            replace hx219_1 := (HB.out.cell (World.block_lt_of_cell? w _ hx219_1)).trans hx219_1
                                            replace p219 := eq_true p219
                                            replace q219 := eq_true q219
                                            obtain ⟨Ao59, co59, eo59⟩ := Kd.R_slice HO_5.out
                                            subst eo59
                                            have p220 : 0 ≤ (x10_2 : Int) := of_decide_eq_true zz2
                                            have q220 : x10_2 < (t191.length : Int) := of_decide_eq_true zz2
                                            obtain ⟨ad220, e220, hx220_0, hx220_1⟩ := at_T25 (Kd.R_reads' HO_5.out).2.2 x10_2 p220 q220
                                            cases e220
                                            replace p220 := eq_true p220
                                            replace q220 := eq_true q220
                                            have p221 : 0 ≤ (x14_3 : Int) := of_decide_eq_true zz2
                                            have q221 : x14_3 < (l0.length : Int) := of_decide_eq_true zz2
                                            obtain ⟨ad221, e221, hx221_0, hx221_1⟩ := at_T25 HR0.out x14_3 p221 q221
                                            obtain rfl : ad207 = ad221 := (by injection e221)
                                            replace hx221_0 := (HB.out.cell (World.block_lt_of_cell? w _ hx221_0)).trans hx221_0
                                            replace hx221_1 := (HB.out.cell (World.block_lt_of_cell? w _ hx221_1)).trans hx221_1
                                            replace p221 := eq_true p221
                                            replace q221 := eq_true q221
                                            have p222 : 0 ≤ (x10_2 : Int) := of_decide_eq_true zz2
                                            have q222 : x10_2 < (t191.length : Int) := of_decide_eq_true zz2
                                            obtain ⟨ad222, e222, hx222_0, hx222_1⟩ := at_T25 (Kd.R_reads' HO_5.out).2.2 x10_2 p222 q222
                                            obtain rfl : ad220 = ad222 := (by injection e222)
                                            replace p222 := eq_true p222
                                            replace q222 := eq_true q222
                                            have p223 : 0 ≤ (x14_3 : Int) := of_decide_eq_true zz2
                                            have q223 : x14_3 < (l0.length : Int) := of_decide_eq_true zz2
                                            obtain ⟨ad223, e223, hx223_0, hx223_1⟩ := at_T25 HR0.out x14_3 p223 q223
                                            obtain rfl : ad207 = ad223 := (by injection e223)
                                            replace hx223_0 := (HB.out.cell (World.block_lt_of_cell? w _ hx223_0)).trans hx223_0
                                            replace hx223_1 := (HB.out.cell (World.block_lt_of_cell? w _ hx223_1)).trans hx223_1
                                            replace p223 := eq_true p223
                                            replace q223 := eq_true q223
                                            obtain ⟨Ao60, co60, eo60⟩ := Kd.R_slice HO_7.out
                                            subst eo60
                                            have p224 : 0 ≤ (x10_2 : Int) := of_decide_eq_true zz2
                                            have q224 : x10_2 < (t198.length : Int) := of_decide_eq_true zz2
                                            obtain ⟨ad224, e224, hx224_0, hx224_1⟩ := at_T25 (Kd.R_reads' HO_7.out).2.2 x10_2 p224 q224
                                            cases e224
                                            replace p224 := eq_true p224
                                            replace q224 := eq_true q224
                                            go_wp2
                                            repeat (go_quiet (fail); try go_wp2)
                                            go_roundg k3
                                            case measure => have := HJ11.out; have := HK2.out; have := HK3.out; omega
                                            case rel => exact ⟨(wrap64 (x11_3 + 1)), ((((rd_T25 l0 x14_3).f1) == ((rd_T25 t191 x10_2).f1))), (true), (wrap64 (x14_3 + 1)), zz1, zz1, zz1, zz1, H', ⟨by have := HJ11.out; have := HK2.out; have := HK3.out; omega⟩, ⟨by (with_reducible repeat (first | apply Kd.R_alloc | apply Kd.R_drewN | apply Kd.R_drew)); exact HO_3.out⟩, ⟨by (with_reducible repeat (first | apply Kd.R_alloc | apply Kd.R_drewN | apply Kd.R_drew)); exact HO_5.out⟩, ⟨by (with_reducible repeat (first | apply Kd.R_alloc | apply Kd.R_drewN | apply Kd.R_drew)); exact HO_7.out⟩, ⟨by repeat (first | (with_reducible first | exact HB.out | apply below_alloc | apply pw_below_drewN | apply below_drew1) | exact HB.out)⟩⟩
                                        · rw [if_neg c57] at H
                                          exact absurd H (by simp)
                                    · replace c55 := Bool.eq_false_iff.mpr c55
                                      subst c55
                                      have H1 : (if x10_2 < (t198.length : Int) then (if ((rd_T25 l0 x14_3).f1) < ((rd_T25 t191 x10_2).f1) then (none) else (if ((rd_T25 l0 x14_3).f1) > ((rd_T25 t198 x10_2).f1) then (none) else (watershedlaw12_OperBounds.l1 k3 l0 t184 t191 t198 x9_2 x10_2 (wrap64 (x11_3 + 1)) (((rd_T25 l0 x14_3).f1) == ((rd_T25 t191 x10_2).f1)) (((rd_T25 l0 x14_3).f1) == ((rd_T25 t198 x10_2).f1)) (wrap64 (x14_3 + 1))))) else (none)) = some r := by rw [if_neg (show ¬ (false = true) by decide)] at H; exact H
                                      clear H
                                      have H := H1
                                      clear H1
                                      by_cases c61 : x10_2 < (t198.length : Int)
                                      · rw [if_pos c61] at H
                                        have c61b0 : decide (x10_2 < (t198.length : Int)) = true := decide_eq_true c61
                                        clear c61
                                        by_cases c62 : ((rd_T25 l0 x14_3).f1) < ((rd_T25 t191 x10_2).f1)
                                        · rw [if_pos c62] at H
                                          exact absurd H (by simp)
                                        · rw [if_neg c62] at H
                                          have c62b0 : decide (((rd_T25 l0 x14_3).f1) < ((rd_T25 t191 x10_2).f1)) = false := decide_eq_false c62
                                          clear c62
                                          by_cases c63 : ((rd_T25 l0 x14_3).f1) > ((rd_T25 t198 x10_2).f1)
                                          · rw [if_pos c63] at H
                                            exact absurd H (by simp)
                                          · rw [if_neg c63] at H
                                            have c63b0 : decide (((rd_T25 t198 x10_2).f1) < ((rd_T25 l0 x14_3).f1)) = false := decide_eq_false c63
                                            clear c63
                                            have H' := Aside0.mk H
                                            clear H
                                            have p207 : 0 ≤ (x14_3 : Int) := of_decide_eq_true zz2
                                            have q207 : x14_3 < (l0.length : Int) := of_decide_eq_true zz2
                                            obtain ⟨ad207, e207, hx207_0, hx207_1⟩ := at_T25 HR0.out x14_3 p207 q207
                                            cases e207
                                            replace hx207_0 := (HB.out.cell (World.block_lt_of_cell? w _ hx207_0)).trans hx207_0
                                            replace hx207_1 := (HB.out.cell (World.block_lt_of_cell? w _ hx207_1)).trans hx207_1
                                            replace p207 := eq_true p207
                                            replace q207 := eq_true q207
                                            have p208 : 0 ≤ (x10_2 : Int) := of_decide_eq_true zz2
                                            have q208 : x10_2 < (t184.length : Int) := of_decide_eq_true zz2
                                            obtain ⟨ad208, e208, hx208_0, hx208_1⟩ := at_T25 (Kd.R_reads' HO_3.out).2.2 x10_2 p208 q208
                                            cases e208
                                            replace p208 := eq_true p208
                                            replace q208 := eq_true q208
                                            have p219 : 0 ≤ (x14_3 : Int) := of_decide_eq_true zz2
                                            have q219 : x14_3 < (l0.length : Int) := of_decide_eq_true zz2
                                            obtain ⟨ad219, e219, hx219_0, hx219_1⟩ := at_T25 HR0.out x14_3 p219 q219
                                            obtain rfl : ad207 = ad219 := (by injection e219)
                                            replace hx219_0 := (HB.out.cell (World.block_lt_of_cell? w _ hx219_0)).trans hx219_0
                                            replace hx219_1 := (HB.out.cell (World.block_lt_of_cell? w _ hx219_1)).trans hx219_1
                                            replace p219 := eq_true p219
                                            replace q219 := eq_true q219
                                            obtain ⟨Ao64, co64, eo64⟩ := Kd.R_slice HO_5.out
                                            subst eo64
                                            have p220 : 0 ≤ (x10_2 : Int) := of_decide_eq_true zz2
                                            have q220 : x10_2 < (t191.length : Int) := of_decide_eq_true zz2
                                            obtain ⟨ad220, e220, hx220_0, hx220_1⟩ := at_T25 (Kd.R_reads' HO_5.out).2.2 x10_2 p220 q220
                                            cases e220
                                            replace p220 := eq_true p220
                                            replace q220 := eq_true q220
                                            have p225 : 0 ≤ (x14_3 : Int) := of_decide_eq_true zz2
                                            have q225 : x14_3 < (l0.length : Int) := of_decide_eq_true zz2
                                            obtain ⟨ad225, e225, hx225_0, hx225_1⟩ := at_T25 HR0.out x14_3 p225 q225
                                            obtain rfl : ad207 = ad225 := (by injection e225)
                                            replace hx225_0 := (HB.out.cell (World.block_lt_of_cell? w _ hx225_0)).trans hx225_0
                                            replace hx225_1 := (HB.out.cell (World.block_lt_of_cell? w _ hx225_1)).trans hx225_1
                                            replace p225 := eq_true p225
                                            replace q225 := eq_true q225
                                            obtain ⟨Ao65, co65, eo65⟩ := Kd.R_slice HO_7.out
                                            subst eo65
                                            have p226 : 0 ≤ (x10_2 : Int) := of_decide_eq_true zz2
                                            have q226 : x10_2 < (t198.length : Int) := of_decide_eq_true zz2
                                            obtain ⟨ad226, e226, hx226_0, hx226_1⟩ := at_T25 (Kd.R_reads' HO_7.out).2.2 x10_2 p226 q226
                                            cases e226
                                            replace p226 := eq_true p226
                                            replace q226 := eq_true q226
                                            have p227 : 0 ≤ (x14_3 : Int) := of_decide_eq_true zz2
                                            have q227 : x14_3 < (l0.length : Int) := of_decide_eq_true zz2
                                            obtain ⟨ad227, e227, hx227_0, hx227_1⟩ := at_T25 HR0.out x14_3 p227 q227
                                            obtain rfl : ad207 = ad227 := (by injection e227)
                                            replace hx227_0 := (HB.out.cell (World.block_lt_of_cell? w _ hx227_0)).trans hx227_0
                                            replace hx227_1 := (HB.out.cell (World.block_lt_of_cell? w _ hx227_1)).trans hx227_1
                                            replace p227 := eq_true p227
                                            replace q227 := eq_true q227
                                            have p228 : 0 ≤ (x10_2 : Int) := of_decide_eq_true zz2
                                            have q228 : x10_2 < (t191.length : Int) := of_decide_eq_true zz2
                                            obtain ⟨ad228, e228, hx228_0, hx228_1⟩ := at_T25 (Kd.R_reads' HO_5.out).2.2 x10_2 p228 q228
                                            obtain rfl : ad220 = ad228 := (by injection e228)
                                            replace p228 := eq_true p228
                                            replace q228 := eq_true q228
                                            have p229 : 0 ≤ (x14_3 : Int) := of_decide_eq_true zz2
                                            have q229 : x14_3 < (l0.length : Int) := of_decide_eq_true zz2
                                            obtain ⟨ad229, e229, hx229_0, hx229_1⟩ := at_T25 HR0.out x14_3 p229 q229
                                            obtain rfl : ad207 = ad229 := (by injection e229)
                                            replace hx229_0 := (HB.out.cell (World.block_lt_of_cell? w _ hx229_0)).trans hx229_0
                                            replace hx229_1 := (HB.out.cell (World.block_lt_of_cell? w _ hx229_1)).trans hx229_1
                                            replace p229 := eq_true p229
                                            replace q229 := eq_true q229
                                            have p230 : 0 ≤ (x10_2 : Int) := of_decide_eq_true zz2
                                            have q230 : x10_2 < (t198.length : Int) := of_decide_eq_true zz2
                                            obtain ⟨ad230, e230, hx230_0, hx230_1⟩ := at_T25 (Kd.R_reads' HO_7.out).2.2 x10_2 p230 q230
                                            obtain rfl : ad226 = ad230 := (by injection e230)
                                            replace p230 := eq_true p230
                                            replace q230 := eq_true q230
                                            go_wp2
                                            repeat (go_quiet (fail); try go_wp2)
                                            go_roundg k3
                                            case measure => have := HJ11.out; have := HK2.out; have := HK3.out; omega
                                            case rel => exact ⟨(wrap64 (x11_3 + 1)), ((((rd_T25 l0 x14_3).f1) == ((rd_T25 t191 x10_2).f1))), ((((rd_T25 l0 x14_3).f1) == ((rd_T25 t198 x10_2).f1))), (wrap64 (x14_3 + 1)), zz1, zz1, zz1, zz1, H', ⟨by have := HJ11.out; have := HK2.out; have := HK3.out; omega⟩, ⟨by (with_reducible repeat (first | apply Kd.R_alloc | apply Kd.R_drewN | apply Kd.R_drew)); exact HO_3.out⟩, ⟨by (with_reducible repeat (first | apply Kd.R_alloc | apply Kd.R_drewN | apply Kd.R_drew)); exact HO_5.out⟩, ⟨by (with_reducible repeat (first | apply Kd.R_alloc | apply Kd.R_drewN | apply Kd.R_drew)); exact HO_7.out⟩, ⟨by repeat (first | (with_reducible first | exact HB.out | apply below_alloc | apply pw_below_drewN | apply below_drew1) | exact HB.out)⟩⟩
                                      · rw [if_neg c61] at H
                                        exact absurd H (by simp)
                                  · rw [if_neg c54] at H
                                    exact absurd H (by simp)
                              · rw [if_neg c39] at H
                                have c39b0 : (((rd_T25 l0 x14_3).f0) == ((rd_T25 t184 x10_2).f0)) = false := beq_eq_false_iff_ne.mpr c39
                                have c39b1 : (((rd_T25 l0 x14_3).f0) != ((rd_T25 t184 x10_2).f0)) = true := bne_iff_ne.mpr c39
                                have H' := Aside0.mk H
                                clear H
                                have p207 : 0 ≤ (x14_3 : Int) := of_decide_eq_true zz2
                                have q207 : x14_3 < (l0.length : Int) := of_decide_eq_true zz2
                                obtain ⟨ad207, e207, hx207_0, hx207_1⟩ := at_T25 HR0.out x14_3 p207 q207
                                cases e207
                                replace hx207_0 := (HB.out.cell (World.block_lt_of_cell? w _ hx207_0)).trans hx207_0
                                replace hx207_1 := (HB.out.cell (World.block_lt_of_cell? w _ hx207_1)).trans hx207_1
                                replace p207 := eq_true p207
                                replace q207 := eq_true q207
                                have p208 : 0 ≤ (x10_2 : Int) := of_decide_eq_true zz2
                                have q208 : x10_2 < (t184.length : Int) := of_decide_eq_true zz2
                                obtain ⟨ad208, e208, hx208_0, hx208_1⟩ := at_T25 (Kd.R_reads' HO_3.out).2.2 x10_2 p208 q208
                                cases e208
                                replace p208 := eq_true p208
                                replace q208 := eq_true q208
                                go_wp2
                                repeat (go_quiet (fail); try go_wp2)
                                go_roundg k3
                                case measure => have := HJ11.out; have := HK2.out; have := HK3.out; omega
                                case rel => exact ⟨(x11_3), (x12_3), (x13_3), (wrap64 (x14_3 + 1)), zz1, zz1, zz1, zz1, H', ⟨by have := HJ11.out; have := HK2.out; have := HK3.out; omega⟩, ⟨by (with_reducible repeat (first | apply Kd.R_alloc | apply Kd.R_drewN | apply Kd.R_drew)); exact HO_3.out⟩, ⟨by (with_reducible repeat (first | apply Kd.R_alloc | apply Kd.R_drewN | apply Kd.R_drew)); exact HO_5.out⟩, ⟨by (with_reducible repeat (first | apply Kd.R_alloc | apply Kd.R_drewN | apply Kd.R_drew)); exact HO_7.out⟩, ⟨by repeat (first | (with_reducible first | exact HB.out | apply below_alloc | apply pw_below_drewN | apply below_drew1) | exact HB.out)⟩⟩
                            · rw [if_neg c38] at H
                              exact absurd H (by simp)
                          · rw [if_neg c37] at H
                            exact absurd H (by simp)
                        · rw [if_neg c36] at H
                          exact absurd H (by simp)
                      · rw [if_neg c35] at H
                        have c35b0 : decide (x14_3 < (l0.length : Int)) = false := decide_eq_false c35
                        clear c35
                        by_cases c66 : 0 ≤ x10_2
                        · rw [if_pos c66] at H
                          have c66b0 : decide (0 ≤ x10_2) = true := decide_eq_true c66
                          clear c66
                          by_cases c67 : x10_2 < (t184.length : Int)
                          · rw [if_pos c67] at H
                            have c67b0 : decide (x10_2 < (t184.length : Int)) = true := decide_eq_true c67
                            clear c67
                            by_cases c68 : x11_3 = ((rd_T25 t184 x10_2).f1)
                            · rw [if_pos c68] at H
                              have c68b0 : (x11_3 == ((rd_T25 t184 x10_2).f1)) = true := beq_iff_eq.mpr c68
                              have c68b1 : (x11_3 != ((rd_T25 t184 x10_2).f1)) = false := bne_eq_false_iff_eq.mpr c68
                              clear c68
                              by_cases c69 : x11_3 = 0
                              · rw [if_pos c69] at H
                                exact absurd H (by simp)
                              · rw [if_neg c69] at H
                                have c69b0 : (x11_3 == 0) = false := beq_eq_false_iff_ne.mpr c69
                                have c69b1 : (x11_3 != 0) = true := bne_iff_ne.mpr c69
                                by_cases c70 : x12_3 = true
                                · subst c70
                                  have H1 : (if x13_3 = true then (if x10_2 < (t191.length : Int) then (if ((rd_T25 t191 x10_2).f0) = ((rd_T25 t184 x10_2).f0) then (if x10_2 < (t198.length : Int) then (if ((rd_T25 t198 x10_2).f0) = ((rd_T25 t184 x10_2).f0) then (watershedlaw12_OperBounds.l0 k3 l0 t184 t191 t198 (wrap64 (x9_2 + x11_3)) (wrap64 (x10_2 + 1))) else (none)) else (none)) else (none)) else (none)) else (none)) = some r := by rw [if_pos rfl] at H; exact H
                                  clear H
                                  have H := H1
                                  clear H1
                                  by_cases c71 : x13_3 = true
                                  · subst c71
                                    have H1 : (if x10_2 < (t191.length : Int) then (if ((rd_T25 t191 x10_2).f0) = ((rd_T25 t184 x10_2).f0) then (if x10_2 < (t198.length : Int) then (if ((rd_T25 t198 x10_2).f0) = ((rd_T25 t184 x10_2).f0) then (watershedlaw12_OperBounds.l0 k3 l0 t184 t191 t198 (wrap64 (x9_2 + x11_3)) (wrap64 (x10_2 + 1))) else (none)) else (none)) else (none)) else (none)) = some r := by rw [if_pos rfl] at H; exact H
                                    clear H
                                    have H := H1
                                    clear H1
                                    by_cases c72 : x10_2 < (t191.length : Int)
                                    · rw [if_pos c72] at H
                                      have c72b0 : decide (x10_2 < (t191.length : Int)) = true := decide_eq_true c72
                                      clear c72
                                      by_cases c73 : ((rd_T25 t191 x10_2).f0) = ((rd_T25 t184 x10_2).f0)
                                      · rw [if_pos c73] at H
                                        have c73b0 : (((rd_T25 t191 x10_2).f0) == ((rd_T25 t184 x10_2).f0)) = true := beq_iff_eq.mpr c73
                                        have c73b1 : (((rd_T25 t191 x10_2).f0) != ((rd_T25 t184 x10_2).f0)) = false := bne_eq_false_iff_eq.mpr c73
                                        clear c73
                                        by_cases c74 : x10_2 < (t198.length : Int)
                                        · rw [if_pos c74] at H
                                          have c74b0 : decide (x10_2 < (t198.length : Int)) = true := decide_eq_true c74
                                          clear c74
                                          by_cases c75 : ((rd_T25 t198 x10_2).f0) = ((rd_T25 t184 x10_2).f0)
                                          · rw [if_pos c75] at H
                                            have c75b0 : (((rd_T25 t198 x10_2).f0) == ((rd_T25 t184 x10_2).f0)) = true := beq_iff_eq.mpr c75
                                            have c75b1 : (((rd_T25 t198 x10_2).f0) != ((rd_T25 t184 x10_2).f0)) = false := bne_eq_false_iff_eq.mpr c75
                                            clear c75
                                            have H' := Aside0.mk H
                                            clear H
                                            have p202 : 0 ≤ (x10_2 : Int) := of_decide_eq_true zz2
                                            have q202 : x10_2 < (t184.length : Int) := of_decide_eq_true zz2
                                            obtain ⟨ad202, e202, hx202_0, hx202_1⟩ := at_T25 (Kd.R_reads' HO_3.out).2.2 x10_2 p202 q202
                                            cases e202
                                            replace p202 := eq_true p202
                                            replace q202 := eq_true q202
                                            obtain ⟨Ao76, co76, eo76⟩ := Kd.R_slice HO_5.out
                                            subst eo76
                                            have p203 : 0 ≤ (x10_2 : Int) := of_decide_eq_true zz2
                                            have q203 : x10_2 < (t191.length : Int) := of_decide_eq_true zz2
                                            obtain ⟨ad203, e203, hx203_0, hx203_1⟩ := at_T25 (Kd.R_reads' HO_5.out).2.2 x10_2 p203 q203
                                            cases e203
                                            replace p203 := eq_true p203
                                            replace q203 := eq_true q203
                                            have p204 : 0 ≤ (x10_2 : Int) := of_decide_eq_true zz2
                                            have q204 : x10_2 < (t184.length : Int) := of_decide_eq_true zz2
                                            obtain ⟨ad204, e204, hx204_0, hx204_1⟩ := at_T25 (Kd.R_reads' HO_3.out).2.2 x10_2 p204 q204
                                            obtain rfl : ad202 = ad204 := (by injection e204)
                                            replace p204 := eq_true p204
                                            replace q204 := eq_true q204
                                            obtain ⟨Ao77, co77, eo77⟩ := Kd.R_slice HO_7.out
                                            subst eo77
                                            have p205 : 0 ≤ (x10_2 : Int) := of_decide_eq_true zz2
                                            have q205 : x10_2 < (t198.length : Int) := of_decide_eq_true zz2
                                            obtain ⟨ad205, e205, hx205_0, hx205_1⟩ := at_T25 (Kd.R_reads' HO_7.out).2.2 x10_2 p205 q205
                                            cases e205
                                            replace p205 := eq_true p205
                                            replace q205 := eq_true q205
                                            have p206 : 0 ≤ (x10_2 : Int) := of_decide_eq_true zz2
                                            have q206 : x10_2 < (t184.length : Int) := of_decide_eq_true zz2
                                            obtain ⟨ad206, e206, hx206_0, hx206_1⟩ := at_T25 (Kd.R_reads' HO_3.out).2.2 x10_2 p206 q206
                                            obtain rfl : ad202 = ad206 := (by injection e206)
                                            replace p206 := eq_true p206
                                            replace q206 := eq_true q206
                                            go_wp2
                                            repeat (go_quiet (fail); try go_wp2)
                                            go_roundg k3
                                            case measure => have := HJ11.out; have := HK2.out; have := HK3.out; omega
                                            case rel => exact ⟨(wrap64 (x9_2 + x11_3)), (wrap64 (x10_2 + 1)), zz1, zz1, H', ⟨by have := HJ11.out; have := HK2.out; have := HK3.out; omega⟩, ⟨by (with_reducible repeat (first | apply Kd.R_alloc | apply Kd.R_drewN | apply Kd.R_drew)); exact HO_3.out⟩, ⟨by (with_reducible repeat (first | apply Kd.R_alloc | apply Kd.R_drewN | apply Kd.R_drew)); exact HO_5.out⟩, ⟨by (with_reducible repeat (first | apply Kd.R_alloc | apply Kd.R_drewN | apply Kd.R_drew)); exact HO_7.out⟩, ⟨by repeat (first | (with_reducible first | exact HB.out | apply below_alloc | apply pw_below_drewN | apply below_drew1) | exact HB.out)⟩⟩
                                          · rw [if_neg c75] at H
                                            exact absurd H (by simp)
                                        · rw [if_neg c74] at H
                                          exact absurd H (by simp)
                                      · rw [if_neg c73] at H
                                        exact absurd H (by simp)
                                    · rw [if_neg c72] at H
                                      exact absurd H (by simp)
                                  · replace c71 := Bool.eq_false_iff.mpr c71
                                    subst c71
                                    have H1 : (none) = some r := by rw [if_neg (show ¬ (false = true) by decide)] at H; exact H
                                    clear H
                                    have H := H1
                                    clear H1
                                    exact absurd H (by simp)
                                · replace c70 := Bool.eq_false_iff.mpr c70
                                  subst c70
                                  have H1 : (none) = some r := by rw [if_neg (show ¬ (false = true) by decide)] at H; exact H
                                  clear H
                                  have H := H1
                                  clear H1
                                  exact absurd H (by simp)
                            · rw [if_neg c68] at H
                              exact absurd H (by simp)
                          · rw [if_neg c67] at H
                            exact absurd H (by simp)
                        · rw [if_neg c66] at H
                          exact absurd H (by simp)
                · rw [if_neg c33] at H
                  have c33b0 : decide (x10_2 < (t184.length : Int)) = false := decide_eq_false c33
                  clear c33
                  obtain rfl := Option.some.inj H
                  obtain ⟨Ao78, co78, eo78⟩ := Kd.R_slice HO_3.out
                  subst eo78
                  go_wp2
                  repeat (go_quiet (fail); try go_wp2)
                  go_ret
                  exact ⟨by first | rfl | (simp [errW_none, errW_some] <;> rfl) | (simp [*, errW_none, errW_some] <;> rfl), by repeat (first | (with_reducible first | exact HB.out | apply below_alloc | apply pw_below_drewN | apply below_drew1) | exact HB.out)⟩
  · replace c3 := Bool.eq_false_iff.mpr c3
    subst c3
    have H1 : (none) = some r := by rw [if_neg (show ¬ (false = true) by decide)] at H; exact H
    clear H
    have H := H1
    clear H1
    exact absurd H (by simp)

end Go.Proofs.Ytogainbkidgkhaa.Q12P
