-- Laid by wip/pp.py for this seat.
import Derived.Test.YtjkbgcdhhiakmaaDoorQ04Ax0
import Derived.Test.YtjkbgcdhhiakmaaDoorQ04Ax1
import Derived.Test.YtjkbgcdhhiakmaaDoorX04
import Derived.Test.YtjkbgcdhhiakmaaDoorX04o
namespace Go.Proofs.YtjkbgcdhhiakmaaDoor.Q04A
open Go.RowKit Go.Proofs.YtjkbgcdhhiakmaaDoorW.PrintWords Go.Proofs.YtjkbgcdhhiakmaaDoorW.PrintLast Go.Proofs.YtjkbgcdhhiakmaaDoorW.PrintMore
attribute [local go_sem] max2_int min2_int max_two min_two max_three min_three max_four min_four   -- for this text's walks alone
set_option linter.unusedVariables false
set_option linter.unusedSimpArgs false

open Go.Proofs.YtjkbgcdhhiakmaaDoor.Ext
/-! ### watershedlaw04_StampAlong: function 5 -/
mutual
def watershedlaw04_StampAlong.j0 : Nat → Int → Bool → Int → Int → Int → Int → Int → Int → Int → Int → Int → Int → Option (Bool)
  | 0, _, _, _, _, _, _, _, _, _, _, _, _ => none
  | k + 1, x2, x23, x113000, x113001, x113002, x113003, x113004, x114000, x114001, x114002, x114003, x114004 => if x23 = true then (some true) else ((stamp_Enter.f x113000 x113001 x113002 x113003 x113004).bind fun bt117 => ((stamp_Enter.f x114000 x114001 x114002 x114003 x114004).bind fun bt124 => (if bt117.2.2.2.2.2 = bt124.2.2.2.2.2 then (if bt117.2.2.2.2.2 = 0 then ((stamp_LE.f bt117.1 bt117.2.1 bt117.2.2.1 bt117.2.2.2.1 bt117.2.2.2.2.1 bt124.1 bt124.2.1 bt124.2.2.1 bt124.2.2.2.1 bt124.2.2.2.2.1).bind fun t131 => (watershedlaw04_StampAlong.j1 k x2 (!t131) x113000 x113001 x113002 x113003 x113004 x114000 x114001 x114002 x114003 x114004)) else (watershedlaw04_StampAlong.j1 k x2 false x113000 x113001 x113002 x113003 x113004 x114000 x114001 x114002 x114003 x114004)) else (watershedlaw04_StampAlong.j1 k x2 true x113000 x113001 x113002 x113003 x113004 x114000 x114001 x114002 x114003 x114004))))
def watershedlaw04_StampAlong.j1 : Nat → Int → Bool → Int → Int → Int → Int → Int → Int → Int → Int → Int → Int → Option (Bool)
  | 0, _, _, _, _, _, _, _, _, _, _, _, _ => none
  | k + 1, x2, x46, x113000, x113001, x113002, x113003, x113004, x114000, x114001, x114002, x114003, x114004 => if x46 = true then (none) else ((stamp_Leave.f x113000 x113001 x113002 x113003 x113004).bind fun bt132 => ((stamp_Leave.f x114000 x114001 x114002 x114003 x114004).bind fun bt138 => (if bt132.2.2.2.2.2 = bt138.2.2.2.2.2 then (if bt132.2.2.2.2.2 = 0 then ((stamp_LE.f bt132.1 bt132.2.1 bt132.2.2.1 bt132.2.2.2.1 bt132.2.2.2.2.1 bt138.1 bt138.2.1 bt138.2.2.1 bt138.2.2.2.1 bt138.2.2.2.2.1).bind fun t144 => (watershedlaw04_StampAlong.j2 k x2 (!t144) x113000 x113001 x113002 x113003 x113004 x114000 x114001 x114002 x114003 x114004)) else (watershedlaw04_StampAlong.j2 k x2 false x113000 x113001 x113002 x113003 x113004 x114000 x114001 x114002 x114003 x114004)) else (watershedlaw04_StampAlong.j2 k x2 true x113000 x113001 x113002 x113003 x113004 x114000 x114001 x114002 x114003 x114004))))
def watershedlaw04_StampAlong.j2 : Nat → Int → Bool → Int → Int → Int → Int → Int → Int → Int → Int → Int → Int → Option (Bool)
  | 0, _, _, _, _, _, _, _, _, _, _, _, _ => none
  | k + 1, x2, x69, x113000, x113001, x113002, x113003, x113004, x114000, x114001, x114002, x114003, x114004 => if x69 = true then (none) else ((stamp_Next.f x113000 x113001 x113002 x113003 x113004).bind fun bt145 => ((stamp_Next.f x114000 x114001 x114002 x114003 x114004).bind fun bt151 => (if bt151.2.2.2.2.2 = 0 then (if bt145.2.2.2.2.2 = 0 then ((stamp_LE.f bt145.1 bt145.2.1 bt145.2.2.1 bt145.2.2.2.1 bt145.2.2.2.2.1 bt151.1 bt151.2.1 bt151.2.2.1 bt151.2.2.2.1 bt151.2.2.2.2.1).bind fun t157 => (watershedlaw04_StampAlong.j3 k x2 (!t157) x113000 x113001 x113002 x113003 x113004 x114000 x114001 x114002 x114003 x114004)) else (watershedlaw04_StampAlong.j3 k x2 true x113000 x113001 x113002 x113003 x113004 x114000 x114001 x114002 x114003 x114004)) else (watershedlaw04_StampAlong.j3 k x2 false x113000 x113001 x113002 x113003 x113004 x114000 x114001 x114002 x114003 x114004))))
def watershedlaw04_StampAlong.j3 : Nat → Int → Bool → Int → Int → Int → Int → Int → Int → Int → Int → Int → Int → Option (Bool)
  | 0, _, _, _, _, _, _, _, _, _, _, _, _ => none
  | k + 1, x2, x91, x113000, x113001, x113002, x113003, x113004, x114000, x114001, x114002, x114003, x114004 => if x91 = true then (none) else ((stamp_Later.f x113000 x113001 x113002 x113003 x113004 x2).bind fun bt158 => ((stamp_Later.f x114000 x114001 x114002 x114003 x114004 x2).bind fun bt164 => (if bt164.2.2.2.2.2 = 0 then (if bt158.2.2.2.2.2 = 0 then ((stamp_LE.f bt158.1 bt158.2.1 bt158.2.2.1 bt158.2.2.2.1 bt158.2.2.2.2.1 bt164.1 bt164.2.1 bt164.2.2.1 bt164.2.2.2.1 bt164.2.2.2.2.1).bind fun t170 => (some t170)) else (none)) else (some true))))
end
def watershedlaw04_StampAlong.f (k : Nat) (a0_0 : Int) (a0_1 : Int) (a0_2 : Int) (a0_3 : Int) (a0_4 : Int) (a1_0 : Int) (a1_1 : Int) (a1_2 : Int) (a1_3 : Int) (a1_4 : Int) (a2 : Int) : Option (Bool) := (watershedlaw04_works.f).bind fun t114 => (if t114 = true then ((watershedlaw04_ok.f a0_0 a0_1 a0_2 a0_3 a0_4 a1_0 a1_1 a1_2 a1_3 a1_4 a1_0 a1_1 a1_2 a1_3 a1_4).bind fun t115 => (if t115 = true then ((stamp_LE.f a0_0 a0_1 a0_2 a0_3 a0_4 a1_0 a1_1 a1_2 a1_3 a1_4).bind fun t116 => (watershedlaw04_StampAlong.j0 k a2 (!t116) a0_0 a0_1 a0_2 a0_3 a0_4 a1_0 a1_1 a1_2 a1_3 a1_4)) else (watershedlaw04_StampAlong.j0 k a2 true a0_0 a0_1 a0_2 a0_3 a0_4 a1_0 a1_1 a1_2 a1_3 a1_4))) else (none))
theorem watershedlaw04_StampAlong.mono_l : ∀ k, (∀ y0 y1 y2 y3 y4 y5 y6 y7 y8 y9 y10 y11, LeO (watershedlaw04_StampAlong.j0 k y0 y1 y2 y3 y4 y5 y6 y7 y8 y9 y10 y11) (watershedlaw04_StampAlong.j0 (k + 1) y0 y1 y2 y3 y4 y5 y6 y7 y8 y9 y10 y11)) ∧ (∀ y0 y1 y2 y3 y4 y5 y6 y7 y8 y9 y10 y11, LeO (watershedlaw04_StampAlong.j1 k y0 y1 y2 y3 y4 y5 y6 y7 y8 y9 y10 y11) (watershedlaw04_StampAlong.j1 (k + 1) y0 y1 y2 y3 y4 y5 y6 y7 y8 y9 y10 y11)) ∧ (∀ y0 y1 y2 y3 y4 y5 y6 y7 y8 y9 y10 y11, LeO (watershedlaw04_StampAlong.j2 k y0 y1 y2 y3 y4 y5 y6 y7 y8 y9 y10 y11) (watershedlaw04_StampAlong.j2 (k + 1) y0 y1 y2 y3 y4 y5 y6 y7 y8 y9 y10 y11)) ∧ (∀ y0 y1 y2 y3 y4 y5 y6 y7 y8 y9 y10 y11, LeO (watershedlaw04_StampAlong.j3 k y0 y1 y2 y3 y4 y5 y6 y7 y8 y9 y10 y11) (watershedlaw04_StampAlong.j3 (k + 1) y0 y1 y2 y3 y4 y5 y6 y7 y8 y9 y10 y11))
  | 0 => ⟨fun _ _ _ _ _ _ _ _ _ _ _ _ r h => by simp [watershedlaw04_StampAlong.j0] at h, fun _ _ _ _ _ _ _ _ _ _ _ _ r h => by simp [watershedlaw04_StampAlong.j1] at h, fun _ _ _ _ _ _ _ _ _ _ _ _ r h => by simp [watershedlaw04_StampAlong.j2] at h, fun _ _ _ _ _ _ _ _ _ _ _ _ r h => by simp [watershedlaw04_StampAlong.j3] at h⟩
  | k + 1 => by
    obtain ⟨ih0, ih1, ih2, ih3⟩ := watershedlaw04_StampAlong.mono_l k
    refine ⟨?_, ?_, ?_, ?_⟩
    · intro y0 y1 y2 y3 y4 y5 y6 y7 y8 y9 y10 y11
      unfold watershedlaw04_StampAlong.j0
      repeat' first
      | (with_reducible exact ih0 _ _ _ _ _ _ _ _ _ _ _ _)
      | (with_reducible exact ih1 _ _ _ _ _ _ _ _ _ _ _ _)
      | (with_reducible exact ih2 _ _ _ _ _ _ _ _ _ _ _ _)
      | (with_reducible exact ih3 _ _ _ _ _ _ _ _ _ _ _ _)
      | (with_reducible exact LeO.refl _)
      | (with_reducible exact LeO.none _)
      | (with_reducible refine LeO.ite ?_ ?_)
      | (with_reducible refine LeO.bind ?_ (fun _ => ?_))
      | exact ih0 _ _ _ _ _ _ _ _ _ _ _ _
      | exact ih1 _ _ _ _ _ _ _ _ _ _ _ _
      | exact ih2 _ _ _ _ _ _ _ _ _ _ _ _
      | exact ih3 _ _ _ _ _ _ _ _ _ _ _ _
      | exact LeO.none _
      | refine LeO.ite ?_ ?_
      | refine LeO.bind ?_ (fun _ => ?_)
    · intro y0 y1 y2 y3 y4 y5 y6 y7 y8 y9 y10 y11
      unfold watershedlaw04_StampAlong.j1
      repeat' first
      | (with_reducible exact ih0 _ _ _ _ _ _ _ _ _ _ _ _)
      | (with_reducible exact ih1 _ _ _ _ _ _ _ _ _ _ _ _)
      | (with_reducible exact ih2 _ _ _ _ _ _ _ _ _ _ _ _)
      | (with_reducible exact ih3 _ _ _ _ _ _ _ _ _ _ _ _)
      | (with_reducible exact LeO.refl _)
      | (with_reducible exact LeO.none _)
      | (with_reducible refine LeO.ite ?_ ?_)
      | (with_reducible refine LeO.bind ?_ (fun _ => ?_))
      | exact ih0 _ _ _ _ _ _ _ _ _ _ _ _
      | exact ih1 _ _ _ _ _ _ _ _ _ _ _ _
      | exact ih2 _ _ _ _ _ _ _ _ _ _ _ _
      | exact ih3 _ _ _ _ _ _ _ _ _ _ _ _
      | exact LeO.none _
      | refine LeO.ite ?_ ?_
      | refine LeO.bind ?_ (fun _ => ?_)
    · intro y0 y1 y2 y3 y4 y5 y6 y7 y8 y9 y10 y11
      unfold watershedlaw04_StampAlong.j2
      repeat' first
      | (with_reducible exact ih0 _ _ _ _ _ _ _ _ _ _ _ _)
      | (with_reducible exact ih1 _ _ _ _ _ _ _ _ _ _ _ _)
      | (with_reducible exact ih2 _ _ _ _ _ _ _ _ _ _ _ _)
      | (with_reducible exact ih3 _ _ _ _ _ _ _ _ _ _ _ _)
      | (with_reducible exact LeO.refl _)
      | (with_reducible exact LeO.none _)
      | (with_reducible refine LeO.ite ?_ ?_)
      | (with_reducible refine LeO.bind ?_ (fun _ => ?_))
      | exact ih0 _ _ _ _ _ _ _ _ _ _ _ _
      | exact ih1 _ _ _ _ _ _ _ _ _ _ _ _
      | exact ih2 _ _ _ _ _ _ _ _ _ _ _ _
      | exact ih3 _ _ _ _ _ _ _ _ _ _ _ _
      | exact LeO.none _
      | refine LeO.ite ?_ ?_
      | refine LeO.bind ?_ (fun _ => ?_)
    · intro y0 y1 y2 y3 y4 y5 y6 y7 y8 y9 y10 y11
      unfold watershedlaw04_StampAlong.j3
      repeat' first
      | (with_reducible exact ih0 _ _ _ _ _ _ _ _ _ _ _ _)
      | (with_reducible exact ih1 _ _ _ _ _ _ _ _ _ _ _ _)
      | (with_reducible exact ih2 _ _ _ _ _ _ _ _ _ _ _ _)
      | (with_reducible exact ih3 _ _ _ _ _ _ _ _ _ _ _ _)
      | (with_reducible exact LeO.refl _)
      | (with_reducible exact LeO.none _)
      | (with_reducible refine LeO.ite ?_ ?_)
      | (with_reducible refine LeO.bind ?_ (fun _ => ?_))
      | exact ih0 _ _ _ _ _ _ _ _ _ _ _ _
      | exact ih1 _ _ _ _ _ _ _ _ _ _ _ _
      | exact ih2 _ _ _ _ _ _ _ _ _ _ _ _
      | exact ih3 _ _ _ _ _ _ _ _ _ _ _ _
      | exact LeO.none _
      | refine LeO.ite ?_ ?_
      | refine LeO.bind ?_ (fun _ => ?_)
theorem watershedlaw04_StampAlong.mono : ∀ a0 a1 a2 a3 a4 a5 a6 a7 a8 a9 a10 k, LeO (watershedlaw04_StampAlong.f k a0 a1 a2 a3 a4 a5 a6 a7 a8 a9 a10) (watershedlaw04_StampAlong.f (k + 1) a0 a1 a2 a3 a4 a5 a6 a7 a8 a9 a10) := by
  intro a0 a1 a2 a3 a4 a5 a6 a7 a8 a9 a10 k
  obtain ⟨ih0, ih1, ih2, ih3⟩ := watershedlaw04_StampAlong.mono_l k
  unfold watershedlaw04_StampAlong.f
  repeat' first
      | (with_reducible exact ih0 _ _ _ _ _ _ _ _ _ _ _ _)
      | (with_reducible exact ih1 _ _ _ _ _ _ _ _ _ _ _ _)
      | (with_reducible exact ih2 _ _ _ _ _ _ _ _ _ _ _ _)
      | (with_reducible exact ih3 _ _ _ _ _ _ _ _ _ _ _ _)
      | (with_reducible exact LeO.refl _)
      | (with_reducible exact LeO.none _)
      | (with_reducible refine LeO.ite ?_ ?_)
      | (with_reducible refine LeO.bind ?_ (fun _ => ?_))
      | exact ih0 _ _ _ _ _ _ _ _ _ _ _ _
      | exact ih1 _ _ _ _ _ _ _ _ _ _ _ _
      | exact ih2 _ _ _ _ _ _ _ _ _ _ _ _
      | exact ih3 _ _ _ _ _ _ _ _ _ _ _ _
      | exact LeO.none _
      | refine LeO.ite ?_ ?_
      | refine LeO.bind ?_ (fun _ => ?_)
set_option maxHeartbeats 8000000 in
set_option maxRecDepth 100000 in
theorem watershedlaw04_StampAlong.calls (k : Nat) (a0_0 : Int) (a0_1 : Int) (a0_2 : Int) (a0_3 : Int) (a0_4 : Int) (a1_0 : Int) (a1_1 : Int) (a1_2 : Int) (a1_3 : Int) (a1_4 : Int) (a2 : Int) (r : Bool) (w : World) (h : watershedlaw04_StampAlong.f k a0_0 a0_1 a0_2 a0_3 a0_4 a1_0 a1_1 a1_2 a1_3 a1_4 a2 = some r) (HV : Aside0 (VARS w) := by first | exact HV | exact ⟨Ext.vars_below HV.out (by repeat (first | (with_reducible first | exact HB.out | apply below_alloc | apply pw_below_drewN | apply below_drew1 | refine below_set ?_ (Aside0.out (by assumption))) | exact HB.out))⟩) :
    Calls Tryd.prog 5 #[.agg #[.int .u32 a0_0, .int .i64 a0_1, .int .u32 a0_2, .int .u32 a0_3, .int .u32 a0_4], .agg #[.int .u32 a1_0, .int .i64 a1_1, .int .u32 a1_2, .int .u32 a1_3, .int .u32 a1_4], .int .u32 a2] w fun e w' => e = .returned (.bool r) ∧ Below w.heap.size w w' := by
  have hu25 := Tryd.underlying25
  have HB := Aside0.mk (Below.refl w.heap.size w)
  have H : ((watershedlaw04_works.f).bind fun t114 => (if t114 = true then ((watershedlaw04_ok.f a0_0 a0_1 a0_2 a0_3 a0_4 a1_0 a1_1 a1_2 a1_3 a1_4 a1_0 a1_1 a1_2 a1_3 a1_4).bind fun t115 => (if t115 = true then ((stamp_LE.f a0_0 a0_1 a0_2 a0_3 a0_4 a1_0 a1_1 a1_2 a1_3 a1_4).bind fun t116 => (watershedlaw04_StampAlong.j0 k a2 (!t116) a0_0 a0_1 a0_2 a0_3 a0_4 a1_0 a1_1 a1_2 a1_3 a1_4)) else (watershedlaw04_StampAlong.j0 k a2 true a0_0 a0_1 a0_2 a0_3 a0_4 a1_0 a1_1 a1_2 a1_3 a1_4))) else (none))) = some r := h
  clear h
  replace H := Option.bind_eq_some_iff.mp H
  obtain ⟨t114, A40, H⟩ := H
  replace H : (if t114 = true then ((watershedlaw04_ok.f a0_0 a0_1 a0_2 a0_3 a0_4 a1_0 a1_1 a1_2 a1_3 a1_4 a1_0 a1_1 a1_2 a1_3 a1_4).bind fun t115 => (if t115 = true then ((stamp_LE.f a0_0 a0_1 a0_2 a0_3 a0_4 a1_0 a1_1 a1_2 a1_3 a1_4).bind fun t116 => (watershedlaw04_StampAlong.j0 k a2 (!t116) a0_0 a0_1 a0_2 a0_3 a0_4 a1_0 a1_1 a1_2 a1_3 a1_4)) else (watershedlaw04_StampAlong.j0 k a2 true a0_0 a0_1 a0_2 a0_3 a0_4 a1_0 a1_1 a1_2 a1_3 a1_4))) else (none)) = some r := H
  have A4 := Aside0.mk A40
  clear A40
  by_cases c5 : t114 = true
  · subst c5
    have H1 : ((watershedlaw04_ok.f a0_0 a0_1 a0_2 a0_3 a0_4 a1_0 a1_1 a1_2 a1_3 a1_4 a1_0 a1_1 a1_2 a1_3 a1_4).bind fun t115 => (if t115 = true then ((stamp_LE.f a0_0 a0_1 a0_2 a0_3 a0_4 a1_0 a1_1 a1_2 a1_3 a1_4).bind fun t116 => (watershedlaw04_StampAlong.j0 k a2 (!t116) a0_0 a0_1 a0_2 a0_3 a0_4 a1_0 a1_1 a1_2 a1_3 a1_4)) else (watershedlaw04_StampAlong.j0 k a2 true a0_0 a0_1 a0_2 a0_3 a0_4 a1_0 a1_1 a1_2 a1_3 a1_4))) = some r := by rw [if_pos rfl] at H; exact H
    clear H
    have H := H1
    clear H1
    have HC6 := Aside0.mk H
    clear H
    go_enter Tryd.func5, Tryd.ntmps5
    go_upto_region 3 with (first | ((with_reducible refine gate_dst (N := 3) rfl ?_); refine box_event ?hg (N := 3) ?hd (cs := #[.int .u32 a0_0, .int .i64 a0_1, .int .u32 a0_2, .int .u32 a0_3, .int .u32 a0_4]) (t := 25) ?hr ?_; (case hd => rfl); (case hg => rfl); (case hr => first | (go_simp; done) | (go_simp; rfl)); intro gb112 hg w7 hbox hb; have n0_ := Aside0.mk (below_step zz0 hb); have n1_ := Aside0.mk (hbox); have n2_ := Aside0.mk ((by rw [hg]; exact (below_size zz0) : w.heap.size ≤ gb112)); have n3_ := Aside0.mk ((by rw [hg]; exact (below_size zz0) : w.heap.size ≤ gb112)); clear HB; have HB := n0_; have BK112 := n1_; have GW112 := n2_; have GE112 := n3_; clear n0_ n1_ n2_ n3_; clear hb hbox hg) | ((with_reducible refine gate_dst (N := 4) rfl ?_); refine box_event ?hg (N := 4) ?hd (cs := #[.int .u32 a1_0, .int .i64 a1_1, .int .u32 a1_2, .int .u32 a1_3, .int .u32 a1_4]) (t := 25) ?hr ?_; (case hd => rfl); (case hg => rfl); (case hr => first | (go_simp; done) | (go_simp; rfl)); intro gb113 hg w8 hbox hb; have n0_ := yB BK112 hb; have n1_ := Aside0.mk (below_step (by repeat (first | (with_reducible first | exact HB.out | apply below_alloc | apply pw_below_drewN | apply below_drew1 | refine below_set ?_ GE112.out) | exact HB.out)) hb); have n2_ := Aside0.mk (hbox); have n3_ := Aside0.mk ((by rw [hg]; exact (below_size (by repeat (first | (with_reducible first | exact HB.out | apply below_alloc | apply pw_below_drewN | apply below_drew1 | refine below_set ?_ GE112.out) | exact HB.out))) : w.heap.size ≤ gb113)); have n4_ := Aside0.mk ((by rw [hg]; exact (below_size (by repeat (first | (with_reducible first | exact HB.out | apply below_alloc | apply pw_below_drewN | apply below_drew1 | refine below_set ?_ GE112.out) | exact HB.out))) : w.heap.size ≤ gb113)); have n5_ := yN BK112 hg; have n6_ := yM BK112 hg; clear BK112; clear HB; have BK112 := n0_; have HB := n1_; have BK113 := n2_; have GW113 := n3_; have GE113 := n4_; have NB112_113 := n5_; have NB113_112 := n6_; clear n0_ n1_ n2_ n3_ n4_ n5_ n6_; clear hb hbox hg) | ((with_reducible refine gate_callee (f := 12) rfl ?_); refine goesL_ (some 11) rfl rfl Tryd.func12 (by kernel_rfl) rfl #[] rfl zz1 ?_; (with_reducible refine (watershedlaw04_works.calls  true _ A4.out).mono ?_); rintro e w9 ⟨rfl, hb⟩; refine ⟨_, rfl, ?_⟩; have n0_ := yB BK112 hb; have n1_ := yB BK113 hb; have n2_ := Aside0.mk (below_step zz6 hb); clear BK112; clear BK113; clear HB; have BK112 := n0_; have BK113 := n1_; have HB := n2_; clear n0_ n1_ n2_; (try clear hb); (try clear hb2); (try clear hk); (try clear hi)))
    (try simp only [Act.put, List.setIfInBounds_toArray, List.set_cons_zero, List.set_cons_succ])
    go_cut [23] (fun v23 wc => ∃ (kq : Nat) (x23_5 : Bool), v23 = .bool x23_5 ∧ Aside0 (watershedlaw04_StampAlong.j0 kq a2 x23_5 a0_0 a0_1 a0_2 a0_3 a0_4 a1_0 a1_1 a1_2 a1_3 a1_4 = some r) ∧ Aside0 (kq ≤ k) ∧ Aside0 (wc.heap[gb112]? = some (.cells #[.int .u32 a0_0, .int .i64 a0_1, .int .u32 a0_2, .int .u32 a0_3, .int .u32 a0_4] 25 (0, 0))) ∧ Aside0 (wc.heap[gb113]? = some (.cells #[.int .u32 a1_0, .int .i64 a1_1, .int .u32 a1_2, .int .u32 a1_3, .int .u32 a1_4] 25 (0, 0))) ∧ Aside0 (Below w.heap.size w wc))
    case first =>
      have H := HC6.out
      clear HC6
      replace H := Option.bind_eq_some_iff.mp H
      obtain ⟨t115, A100, H⟩ := H
      replace H : (if t115 = true then ((stamp_LE.f a0_0 a0_1 a0_2 a0_3 a0_4 a1_0 a1_1 a1_2 a1_3 a1_4).bind fun t116 => (watershedlaw04_StampAlong.j0 k a2 (!t116) a0_0 a0_1 a0_2 a0_3 a0_4 a1_0 a1_1 a1_2 a1_3 a1_4)) else (watershedlaw04_StampAlong.j0 k a2 true a0_0 a0_1 a0_2 a0_3 a0_4 a1_0 a1_1 a1_2 a1_3 a1_4)) = some r := H
      have A10 := Aside0.mk A100
      clear A100
      by_cases c11 : t115 = true
      · subst c11
        have H1 : ((stamp_LE.f a0_0 a0_1 a0_2 a0_3 a0_4 a1_0 a1_1 a1_2 a1_3 a1_4).bind fun t116 => (watershedlaw04_StampAlong.j0 k a2 (!t116) a0_0 a0_1 a0_2 a0_3 a0_4 a1_0 a1_1 a1_2 a1_3 a1_4)) = some r := by rw [if_pos rfl] at H; exact H
        clear H
        have H := H1
        clear H1
        replace H := Option.bind_eq_some_iff.mp H
        obtain ⟨t116, A120, H⟩ := H
        replace H : (watershedlaw04_StampAlong.j0 k a2 (!t116) a0_0 a0_1 a0_2 a0_3 a0_4 a1_0 a1_1 a1_2 a1_3 a1_4) = some r := H
        have A12 := Aside0.mk A120
        clear A120
        have H' := Aside0.mk H
        clear H
        have hnb13 := NB112_113.out
        have hnc13 := NB113_112.out
        obtain ⟨hcz14_0, hcz14_1, hcz14_2, hcz14_3, hcz14_4, hfz14_0, hfz14_1, hfz14_2, hfz14_3, hfz14_4⟩ := yC5 BK112
        obtain ⟨hcz15_0, hcz15_1, hcz15_2, hcz15_3, hcz15_4, hfz15_0, hfz15_1, hfz15_2, hfz15_3, hfz15_4⟩ := yC5 BK113
        go_wp2_with (first | ((with_reducible refine gate_callee (f := 16) rfl ?_); refine goesL_ (some 16) rfl rfl Tryd.func16 (by kernel_rfl) rfl #[.agg #[.int .u32 a0_0, .int .i64 a0_1, .int .u32 a0_2, .int .u32 a0_3, .int .u32 a0_4], .agg #[.int .u32 a1_0, .int .i64 a1_1, .int .u32 a1_2, .int .u32 a1_3, .int .u32 a1_4], .agg #[.int .u32 a1_0, .int .i64 a1_1, .int .u32 a1_2, .int .u32 a1_3, .int .u32 a1_4]] rfl zz1 ?_; (with_reducible refine (watershedlaw04_ok.calls a0_0 a0_1 a0_2 a0_3 a0_4 a1_0 a1_1 a1_2 a1_3 a1_4 a1_0 a1_1 a1_2 a1_3 a1_4 true _ A10.out).mono ?_); rintro e w16 ⟨rfl, hb⟩; refine ⟨_, rfl, ?_⟩; have n0_ := yB BK112 hb; have n1_ := yB BK113 hb; have n2_ := Aside0.mk (below_step zz6 hb); clear BK112; clear BK113; clear HB; have BK112 := n0_; have BK113 := n1_; have HB := n2_; clear n0_ n1_ n2_; (try clear hb); (try clear hb2); (try clear hk); (try clear hi); obtain ⟨hcz17_0, hcz17_1, hcz17_2, hcz17_3, hcz17_4, hfz17_0, hfz17_1, hfz17_2, hfz17_3, hfz17_4⟩ := yC5 BK112; obtain ⟨hcz18_0, hcz18_1, hcz18_2, hcz18_3, hcz18_4, hfz18_0, hfz18_1, hfz18_2, hfz18_3, hfz18_4⟩ := yC5 BK113) | (go_at_call 14; (with_reducible refine (stamp_LE.calls a0_0 a0_1 a0_2 a0_3 a0_4 a1_0 a1_1 a1_2 a1_3 a1_4 t116 _ A12.out).mono ?_); rintro e w19 ⟨rfl, hb⟩; have n0_ := yB BK112 hb; have n1_ := yB BK113 hb; have n2_ := Aside0.mk (below_step zz6 hb); clear BK112; clear BK113; clear HB; have BK112 := n0_; have BK113 := n1_; have HB := n2_; clear n0_ n1_ n2_; (try clear hb); (try clear hb2); (try clear hk); (try clear hi)))
        go_meet
        case rel => exact ⟨_, (!t116), zz8, H', ⟨by first | omega | exact Nat.le_refl _⟩, ⟨yF⟩, ⟨yF⟩, ⟨by repeat (first | (with_reducible first | exact HB.out | apply below_alloc | apply pw_below_drewN | apply below_drew1 | refine below_set ?_ GE112.out | refine below_set ?_ GE113.out) | exact HB.out)⟩⟩
      · replace c11 := Bool.eq_false_iff.mpr c11
        subst c11
        have H1 : (watershedlaw04_StampAlong.j0 k a2 true a0_0 a0_1 a0_2 a0_3 a0_4 a1_0 a1_1 a1_2 a1_3 a1_4) = some r := by rw [if_neg (show ¬ (false = true) by decide)] at H; exact H
        clear H
        have H := H1
        clear H1
        have H' := Aside0.mk H
        clear H
        have hnb20 := NB112_113.out
        have hnc20 := NB113_112.out
        obtain ⟨hcz21_0, hcz21_1, hcz21_2, hcz21_3, hcz21_4, hfz21_0, hfz21_1, hfz21_2, hfz21_3, hfz21_4⟩ := yC5 BK112
        obtain ⟨hcz22_0, hcz22_1, hcz22_2, hcz22_3, hcz22_4, hfz22_0, hfz22_1, hfz22_2, hfz22_3, hfz22_4⟩ := yC5 BK113
        go_wp2_with (first | ((with_reducible refine gate_callee (f := 16) rfl ?_); refine goesL_ (some 16) rfl rfl Tryd.func16 (by kernel_rfl) rfl #[.agg #[.int .u32 a0_0, .int .i64 a0_1, .int .u32 a0_2, .int .u32 a0_3, .int .u32 a0_4], .agg #[.int .u32 a1_0, .int .i64 a1_1, .int .u32 a1_2, .int .u32 a1_3, .int .u32 a1_4], .agg #[.int .u32 a1_0, .int .i64 a1_1, .int .u32 a1_2, .int .u32 a1_3, .int .u32 a1_4]] rfl zz1 ?_; (with_reducible refine (watershedlaw04_ok.calls a0_0 a0_1 a0_2 a0_3 a0_4 a1_0 a1_1 a1_2 a1_3 a1_4 a1_0 a1_1 a1_2 a1_3 a1_4 false _ A10.out).mono ?_); rintro e w23 ⟨rfl, hb⟩; refine ⟨_, rfl, ?_⟩; have n0_ := yB BK112 hb; have n1_ := yB BK113 hb; have n2_ := Aside0.mk (below_step zz6 hb); clear BK112; clear BK113; clear HB; have BK112 := n0_; have BK113 := n1_; have HB := n2_; clear n0_ n1_ n2_; (try clear hb); (try clear hb2); (try clear hk); (try clear hi)))
        go_meet
        case rel => exact ⟨_, (true), zz8, H', ⟨by first | omega | exact Nat.le_refl _⟩, ⟨yF⟩, ⟨yF⟩, ⟨by repeat (first | (with_reducible first | exact HB.out | apply below_alloc | apply pw_below_drewN | apply below_drew1 | refine below_set ?_ GE112.out | refine below_set ?_ GE113.out) | exact HB.out)⟩⟩
    case rest =>
      clear HC6
      (try clear c1); (try clear c2); (try clear p2); (try clear c5); (try clear p6); (try clear c11); (try clear c12); (try clear c13); (try clear c16); (try clear c20); (try clear hcz14_0); (try clear hcz14_1); (try clear hcz14_2); (try clear hcz14_3); (try clear hcz14_4); (try clear hcz15_0); (try clear hcz15_1); (try clear hcz15_2); (try clear hcz15_3); (try clear hcz15_4); (try clear hcz17_0); (try clear hcz17_1); (try clear hcz17_2); (try clear hcz17_3); (try clear hcz17_4); (try clear hcz18_0); (try clear hcz18_1); (try clear hcz18_2); (try clear hcz18_3); (try clear hcz18_4); (try clear hcz21_0); (try clear hcz21_1); (try clear hcz21_2); (try clear hcz21_3); (try clear hcz21_4); (try clear hcz22_0); (try clear hcz22_1); (try clear hcz22_2); (try clear hcz22_3); (try clear hcz22_4); (try clear hfz14_0); (try clear hfz14_1); (try clear hfz14_2); (try clear hfz14_3); (try clear hfz14_4); (try clear hfz15_0); (try clear hfz15_1); (try clear hfz15_2); (try clear hfz15_3); (try clear hfz15_4); (try clear hfz17_0); (try clear hfz17_1); (try clear hfz17_2); (try clear hfz17_3); (try clear hfz17_4); (try clear hfz18_0); (try clear hfz18_1); (try clear hfz18_2); (try clear hfz18_3); (try clear hfz18_4); (try clear hfz21_0); (try clear hfz21_1); (try clear hfz21_2); (try clear hfz21_3); (try clear hfz21_4); (try clear hfz22_0); (try clear hfz22_1); (try clear hfz22_2); (try clear hfz22_3); (try clear hfz22_4)
      obtain ⟨kq, x23_5, rfl, HA, HJ5, BK112, BK113, HB⟩ := hcut
      cases kq with
      | zero => exact absurd HA.out (by simp [watershedlaw04_StampAlong.j0])
      | succ kj5 =>
        have H := HA.out
        clear HA
        simp only [watershedlaw04_StampAlong.j0] at H
        by_cases c24 : x23_5 = true
        · subst c24
          have H1 : (some true) = some r := by rw [if_pos rfl] at H; exact H
          clear H
          have H := H1
          clear H1
          obtain rfl := Option.some.inj H
          go_wp2
          go_ret
          exact ⟨by first | rfl | (simp [errW_none, errW_some] <;> rfl) | (simp [*, errW_none, errW_some] <;> rfl), by repeat (first | (with_reducible first | exact HB.out | apply below_alloc | apply pw_below_drewN | apply below_drew1 | refine below_set ?_ GE112.out | refine below_set ?_ GE113.out) | exact HB.out)⟩
        · replace c24 := Bool.eq_false_iff.mpr c24
          subst c24
          have H1 : ((stamp_Enter.f a0_0 a0_1 a0_2 a0_3 a0_4).bind fun bt117 => ((stamp_Enter.f a1_0 a1_1 a1_2 a1_3 a1_4).bind fun bt124 => (if bt117.2.2.2.2.2 = bt124.2.2.2.2.2 then (if bt117.2.2.2.2.2 = 0 then ((stamp_LE.f bt117.1 bt117.2.1 bt117.2.2.1 bt117.2.2.2.1 bt117.2.2.2.2.1 bt124.1 bt124.2.1 bt124.2.2.1 bt124.2.2.2.1 bt124.2.2.2.2.1).bind fun t131 => (watershedlaw04_StampAlong.j1 kj5 a2 (!t131) a0_0 a0_1 a0_2 a0_3 a0_4 a1_0 a1_1 a1_2 a1_3 a1_4)) else (watershedlaw04_StampAlong.j1 kj5 a2 false a0_0 a0_1 a0_2 a0_3 a0_4 a1_0 a1_1 a1_2 a1_3 a1_4)) else (watershedlaw04_StampAlong.j1 kj5 a2 true a0_0 a0_1 a0_2 a0_3 a0_4 a1_0 a1_1 a1_2 a1_3 a1_4)))) = some r := by rw [if_neg (show ¬ (false = true) by decide)] at H; exact H
          clear H
          have H := H1
          clear H1
          replace H := Option.bind_eq_some_iff.mp H
          obtain ⟨⟨t117, t118, t119, t120, t121, t122⟩, A250, H⟩ := H
          replace H : ((stamp_Enter.f a1_0 a1_1 a1_2 a1_3 a1_4).bind fun bt124 => (if t122 = bt124.2.2.2.2.2 then (if t122 = 0 then ((stamp_LE.f t117 t118 t119 t120 t121 bt124.1 bt124.2.1 bt124.2.2.1 bt124.2.2.2.1 bt124.2.2.2.2.1).bind fun t131 => (watershedlaw04_StampAlong.j1 kj5 a2 (!t131) a0_0 a0_1 a0_2 a0_3 a0_4 a1_0 a1_1 a1_2 a1_3 a1_4)) else (watershedlaw04_StampAlong.j1 kj5 a2 false a0_0 a0_1 a0_2 a0_3 a0_4 a1_0 a1_1 a1_2 a1_3 a1_4)) else (watershedlaw04_StampAlong.j1 kj5 a2 true a0_0 a0_1 a0_2 a0_3 a0_4 a1_0 a1_1 a1_2 a1_3 a1_4))) = some r := H
          have A25 := Aside0.mk A250
          clear A250
          replace H := Option.bind_eq_some_iff.mp H
          obtain ⟨⟨t124, t125, t126, t127, t128, t129⟩, A260, H⟩ := H
          replace H : (if t122 = t129 then (if t122 = 0 then ((stamp_LE.f t117 t118 t119 t120 t121 t124 t125 t126 t127 t128).bind fun t131 => (watershedlaw04_StampAlong.j1 kj5 a2 (!t131) a0_0 a0_1 a0_2 a0_3 a0_4 a1_0 a1_1 a1_2 a1_3 a1_4)) else (watershedlaw04_StampAlong.j1 kj5 a2 false a0_0 a0_1 a0_2 a0_3 a0_4 a1_0 a1_1 a1_2 a1_3 a1_4)) else (watershedlaw04_StampAlong.j1 kj5 a2 true a0_0 a0_1 a0_2 a0_3 a0_4 a1_0 a1_1 a1_2 a1_3 a1_4)) = some r := H
          have A26 := Aside0.mk A260
          clear A260
          have HC27 := Aside0.mk H
          clear H
          have hnb28 := NB112_113.out
          have hnc28 := NB113_112.out
          obtain ⟨hcz29_0, hcz29_1, hcz29_2, hcz29_3, hcz29_4, hfz29_0, hfz29_1, hfz29_2, hfz29_3, hfz29_4⟩ := yC5 BK112
          go_upto_region 7 with (first | ((with_reducible refine gate_callee (f := 17) rfl ?_); refine goesL_ (some 26) rfl rfl Tryd.func17 (by kernel_rfl) rfl #[.agg #[.int .u32 a0_0, .int .i64 a0_1, .int .u32 a0_2, .int .u32 a0_3, .int .u32 a0_4]] rfl zz1 ?_; (with_reducible refine (stamp_Enter.calls a0_0 a0_1 a0_2 a0_3 a0_4 t117 t118 t119 t120 t121 t122 _ A25.out).mono ?_); rintro e w30 ⟨rfl, hb⟩; refine ⟨_, rfl, ?_⟩; have n0_ := yB BK112 hb; have n1_ := yB BK113 hb; have n2_ := Aside0.mk (below_step zz6 hb); clear BK112; clear BK113; clear HB; have BK112 := n0_; have BK113 := n1_; have HB := n2_; clear n0_ n1_ n2_; (try clear hb); (try clear hb2); (try clear hk); (try clear hi)) | ((with_reducible refine gate_dst (N := 7) rfl ?_); refine box_event ?hg (N := 7) ?hd (cs := #[.int .u32 0, .int .i64 0, .int .u32 0, .int .u32 0, .int .u32 0]) (t := 25) ?hr ?_; (case hd => rfl); (case hg => rfl); (case hr => first | (go_simp; done) | (go_simp; rfl)); intro gb123 hg w31 hbox hb; have n0_ := yB BK112 hb; have n1_ := yB BK113 hb; have n2_ := Aside0.mk (below_step zz6 hb); have n3_ := Aside0.mk (hbox); have n4_ := Aside0.mk ((by rw [hg]; exact (below_size zz6) : w.heap.size ≤ gb123)); have n5_ := Aside0.mk ((by rw [hg]; exact (below_size zz6) : w.heap.size ≤ gb123)); have n6_ := yN BK112 hg; have n7_ := yM BK112 hg; have n8_ := yN BK113 hg; have n9_ := yM BK113 hg; clear BK112; clear BK113; clear HB; have BK112 := n0_; have BK113 := n1_; have HB := n2_; have BK123 := n3_; have GW123 := n4_; have GE123 := n5_; have NB112_123 := n6_; have NB123_112 := n7_; have NB113_123 := n8_; have NB123_113 := n9_; clear n0_ n1_ n2_ n3_ n4_ n5_ n6_ n7_ n8_ n9_; clear hb hbox hg; have hnb32 := NB123_112.out; have hnc32 := NB112_123.out; have hnb33 := NB123_113.out; have hnc33 := NB113_123.out; obtain ⟨hcz34_0, hcz34_1, hcz34_2, hcz34_3, hcz34_4, hfz34_0, hfz34_1, hfz34_2, hfz34_3, hfz34_4⟩ := yC5 BK123; obtain ⟨hcz35_0, hcz35_1, hcz35_2, hcz35_3, hcz35_4, hfz35_0, hfz35_1, hfz35_2, hfz35_3, hfz35_4⟩ := yC5 BK113) | ((with_reducible refine gate_callee (f := 17) rfl ?_); refine goesL_ (some 31) rfl rfl Tryd.func17 (by kernel_rfl) rfl #[.agg #[.int .u32 a1_0, .int .i64 a1_1, .int .u32 a1_2, .int .u32 a1_3, .int .u32 a1_4]] rfl zz1 ?_; (with_reducible refine (stamp_Enter.calls a1_0 a1_1 a1_2 a1_3 a1_4 t124 t125 t126 t127 t128 t129 _ A26.out).mono ?_); rintro e w36 ⟨rfl, hb⟩; refine ⟨_, rfl, ?_⟩; have n0_ := yB BK112 hb; have n1_ := yB BK113 hb; have n2_ := Aside0.mk (blk_below (g := gb123) (o := .cells #[.int .u32 t117, .int .i64 t118, .int .u32 t119, .int .u32 t120, .int .u32 t121] 25 (0, 0)) (by (with_reducible repeat (first | refine blk_drewN ?_ _ | refine blk_drew ?_ | refine blk_alloc ?_ _)); refine blk_put (cs := #[.int .u32 t117, .int .i64 t118, .int .u32 t119, .int .u32 t120, .int .u32 0]) ?_ 4 _ rfl; (with_reducible repeat (first | refine blk_drewN ?_ _ | refine blk_drew ?_ | refine blk_alloc ?_ _)); refine blk_put (cs := #[.int .u32 t117, .int .i64 t118, .int .u32 t119, .int .u32 0, .int .u32 0]) ?_ 3 _ rfl; (with_reducible repeat (first | refine blk_drewN ?_ _ | refine blk_drew ?_ | refine blk_alloc ?_ _)); refine blk_put (cs := #[.int .u32 t117, .int .i64 t118, .int .u32 0, .int .u32 0, .int .u32 0]) ?_ 2 _ rfl; (with_reducible repeat (first | refine blk_drewN ?_ _ | refine blk_drew ?_ | refine blk_alloc ?_ _)); refine blk_put (cs := #[.int .u32 t117, .int .i64 0, .int .u32 0, .int .u32 0, .int .u32 0]) ?_ 1 _ rfl; (with_reducible repeat (first | refine blk_drewN ?_ _ | refine blk_drew ?_ | refine blk_alloc ?_ _)); refine blk_put (cs := #[.int .u32 0, .int .i64 0, .int .u32 0, .int .u32 0, .int .u32 0]) ?_ 0 _ rfl; (with_reducible repeat (first | refine blk_drewN ?_ _ | refine blk_drew ?_ | refine blk_alloc ?_ _)); exact BK123.out) hb); have n3_ := Aside0.mk (below_step zz11 hb); clear BK112; clear BK113; clear BK123; clear HB; have BK112 := n0_; have BK113 := n1_; have BK123 := n2_; have HB := n3_; clear n0_ n1_ n2_ n3_; (try clear hb); (try clear hb2); (try clear hk); (try clear hi)) | ((with_reducible refine gate_dst (N := 9) rfl ?_); refine box_event ?hg (N := 9) ?hd (cs := #[.int .u32 0, .int .i64 0, .int .u32 0, .int .u32 0, .int .u32 0]) (t := 25) ?hr ?_; (case hd => rfl); (case hg => rfl); (case hr => first | (go_simp; done) | (go_simp; rfl)); intro gb130 hg w37 hbox hb; have n0_ := yB BK112 hb; have n1_ := yB BK113 hb; have n2_ := yB BK123 hb; have n3_ := Aside0.mk (below_step zz11 hb); have n4_ := Aside0.mk (hbox); have n5_ := Aside0.mk ((by rw [hg]; exact (below_size zz11) : w.heap.size ≤ gb130)); have n6_ := Aside0.mk ((by rw [hg]; exact (below_size zz11) : w.heap.size ≤ gb130)); have n7_ := yN BK112 hg; have n8_ := yM BK112 hg; have n9_ := yN BK113 hg; have n10_ := yM BK113 hg; have n11_ := yN BK123 hg; have n12_ := yM BK123 hg; clear BK112; clear BK113; clear BK123; clear HB; have BK112 := n0_; have BK113 := n1_; have BK123 := n2_; have HB := n3_; have BK130 := n4_; have GW130 := n5_; have GE130 := n6_; have NB112_130 := n7_; have NB130_112 := n8_; have NB113_130 := n9_; have NB130_113 := n10_; have NB123_130 := n11_; have NB130_123 := n12_; clear n0_ n1_ n2_ n3_ n4_ n5_ n6_ n7_ n8_ n9_ n10_ n11_ n12_; clear hb hbox hg; have hnb38 := NB130_112.out; have hnc38 := NB112_130.out; have hnb39 := NB130_113.out; have hnc39 := NB113_130.out; have hnb40 := NB130_123.out; have hnc40 := NB123_130.out; obtain ⟨hcz41_0, hcz41_1, hcz41_2, hcz41_3, hcz41_4, hfz41_0, hfz41_1, hfz41_2, hfz41_3, hfz41_4⟩ := yC5 BK130))
          (try simp only [Act.put, List.setIfInBounds_toArray, List.set_cons_zero, List.set_cons_succ])
          go_cut [46] (fun v46 wc => ∃ (kq : Nat) (x46_26 : Bool), v46 = .bool x46_26 ∧ Aside0 (watershedlaw04_StampAlong.j1 kq a2 x46_26 a0_0 a0_1 a0_2 a0_3 a0_4 a1_0 a1_1 a1_2 a1_3 a1_4 = some r) ∧ Aside0 (kq ≤ kj5) ∧ Aside0 (wc.heap[gb112]? = some (.cells #[.int .u32 a0_0, .int .i64 a0_1, .int .u32 a0_2, .int .u32 a0_3, .int .u32 a0_4] 25 (0, 0))) ∧ Aside0 (wc.heap[gb113]? = some (.cells #[.int .u32 a1_0, .int .i64 a1_1, .int .u32 a1_2, .int .u32 a1_3, .int .u32 a1_4] 25 (0, 0))) ∧ Aside0 (wc.heap[gb123]? = some (.cells #[.int .u32 t117, .int .i64 t118, .int .u32 t119, .int .u32 t120, .int .u32 t121] 25 (0, 0))) ∧ Aside0 (wc.heap[gb130]? = some (.cells #[.int .u32 t124, .int .i64 t125, .int .u32 t126, .int .u32 t127, .int .u32 t128] 25 (0, 0))) ∧ Aside0 (Below w.heap.size w wc))
          case first =>
            have H := HC27.out
            clear HC27
            by_cases c42 : t122 = t129
            · rw [if_pos c42] at H
              have c42b0 : (t122 == t129) = true := beq_iff_eq.mpr c42
              have c42b1 : (t122 != t129) = false := bne_eq_false_iff_eq.mpr c42
              clear c42
              (first | rw [c42b0] | (simp only [i64_w, i32_w]; rw [c42b0]) | skip)
              by_cases c43 : t122 = 0
              · rw [if_pos c43] at H
                have c43b0 : (t122 == 0) = true := beq_iff_eq.mpr c43
                have c43b1 : (t122 != 0) = false := bne_eq_false_iff_eq.mpr c43
                clear c43
                replace H := Option.bind_eq_some_iff.mp H
                obtain ⟨t131, A440, H⟩ := H
                replace H : (watershedlaw04_StampAlong.j1 kj5 a2 (!t131) a0_0 a0_1 a0_2 a0_3 a0_4 a1_0 a1_1 a1_2 a1_3 a1_4) = some r := H
                have A44 := Aside0.mk A440
                clear A440
                have H' := Aside0.mk H
                clear H
                have hnb45 := NB123_112.out
                have hnc45 := NB112_123.out
                have hnb46 := NB123_113.out
                have hnc46 := NB113_123.out
                have hnb47 := NB123_130.out
                have hnc47 := NB130_123.out
                obtain ⟨hcz48_0, hcz48_1, hcz48_2, hcz48_3, hcz48_4, hfz48_0, hfz48_1, hfz48_2, hfz48_3, hfz48_4⟩ := yC5 BK123
                have hnb49 := NB130_112.out
                have hnc49 := NB112_130.out
                have hnb50 := NB130_113.out
                have hnc50 := NB113_130.out
                obtain ⟨hcz51_0, hcz51_1, hcz51_2, hcz51_3, hcz51_4, hfz51_0, hfz51_1, hfz51_2, hfz51_3, hfz51_4⟩ := yC5 BK130
                go_wp2_with (first | (go_at_call 14; (with_reducible refine (stamp_LE.calls t117 t118 t119 t120 t121 t124 t125 t126 t127 t128 t131 _ A44.out).mono ?_); rintro e w52 ⟨rfl, hb⟩; have n0_ := yB BK112 hb; have n1_ := yB BK113 hb; have n2_ := yB BK123 hb; have n3_ := Aside0.mk (blk_below (g := gb130) (o := .cells #[.int .u32 t124, .int .i64 t125, .int .u32 t126, .int .u32 t127, .int .u32 t128] 25 (0, 0)) (by (with_reducible repeat (first | refine blk_drewN ?_ _ | refine blk_drew ?_ | refine blk_alloc ?_ _)); refine blk_put (cs := #[.int .u32 t124, .int .i64 t125, .int .u32 t126, .int .u32 t127, .int .u32 0]) ?_ 4 _ rfl; (with_reducible repeat (first | refine blk_drewN ?_ _ | refine blk_drew ?_ | refine blk_alloc ?_ _)); refine blk_put (cs := #[.int .u32 t124, .int .i64 t125, .int .u32 t126, .int .u32 0, .int .u32 0]) ?_ 3 _ rfl; (with_reducible repeat (first | refine blk_drewN ?_ _ | refine blk_drew ?_ | refine blk_alloc ?_ _)); refine blk_put (cs := #[.int .u32 t124, .int .i64 t125, .int .u32 0, .int .u32 0, .int .u32 0]) ?_ 2 _ rfl; (with_reducible repeat (first | refine blk_drewN ?_ _ | refine blk_drew ?_ | refine blk_alloc ?_ _)); refine blk_put (cs := #[.int .u32 t124, .int .i64 0, .int .u32 0, .int .u32 0, .int .u32 0]) ?_ 1 _ rfl; (with_reducible repeat (first | refine blk_drewN ?_ _ | refine blk_drew ?_ | refine blk_alloc ?_ _)); refine blk_put (cs := #[.int .u32 0, .int .i64 0, .int .u32 0, .int .u32 0, .int .u32 0]) ?_ 0 _ rfl; (with_reducible repeat (first | refine blk_drewN ?_ _ | refine blk_drew ?_ | refine blk_alloc ?_ _)); exact BK130.out) hb); have n4_ := Aside0.mk (below_step zz2 hb); clear BK112; clear BK113; clear BK123; clear BK130; clear HB; have BK112 := n0_; have BK113 := n1_; have BK123 := n2_; have BK130 := n3_; have HB := n4_; clear n0_ n1_ n2_ n3_ n4_; (try clear hb); (try clear hb2); (try clear hk); (try clear hi)))
                go_meet
                case rel => exact ⟨_, (!t131), zz8, H', ⟨by have := HJ5.out; first | omega | exact Nat.le_refl _⟩, ⟨yF⟩, ⟨yF⟩, ⟨yF⟩, ⟨yF⟩, ⟨by repeat (first | (with_reducible first | exact HB.out | apply below_alloc | apply pw_below_drewN | apply below_drew1 | refine below_set ?_ GE112.out | refine below_set ?_ GE113.out | refine below_set ?_ GE123.out | refine below_set ?_ GE130.out) | exact HB.out)⟩⟩
              · rw [if_neg c43] at H
                have c43b0 : (t122 == 0) = false := beq_eq_false_iff_ne.mpr c43
                have c43b1 : (t122 != 0) = true := bne_iff_ne.mpr c43
                have H' := Aside0.mk H
                clear H
                go_wp2
                go_meet
                case rel => exact ⟨_, (false), zz8, H', ⟨by have := HJ5.out; first | omega | exact Nat.le_refl _⟩, ⟨yF⟩, ⟨yF⟩, ⟨yF⟩, ⟨by (with_reducible repeat (first | refine blk_drewN ?_ _ | refine blk_drew ?_ | refine blk_alloc ?_ _)); refine blk_put (cs := #[.int .u32 t124, .int .i64 t125, .int .u32 t126, .int .u32 t127, .int .u32 0]) ?_ 4 _ rfl; (with_reducible repeat (first | refine blk_drewN ?_ _ | refine blk_drew ?_ | refine blk_alloc ?_ _)); refine blk_put (cs := #[.int .u32 t124, .int .i64 t125, .int .u32 t126, .int .u32 0, .int .u32 0]) ?_ 3 _ rfl; (with_reducible repeat (first | refine blk_drewN ?_ _ | refine blk_drew ?_ | refine blk_alloc ?_ _)); refine blk_put (cs := #[.int .u32 t124, .int .i64 t125, .int .u32 0, .int .u32 0, .int .u32 0]) ?_ 2 _ rfl; (with_reducible repeat (first | refine blk_drewN ?_ _ | refine blk_drew ?_ | refine blk_alloc ?_ _)); refine blk_put (cs := #[.int .u32 t124, .int .i64 0, .int .u32 0, .int .u32 0, .int .u32 0]) ?_ 1 _ rfl; (with_reducible repeat (first | refine blk_drewN ?_ _ | refine blk_drew ?_ | refine blk_alloc ?_ _)); refine blk_put (cs := #[.int .u32 0, .int .i64 0, .int .u32 0, .int .u32 0, .int .u32 0]) ?_ 0 _ rfl; (with_reducible repeat (first | refine blk_drewN ?_ _ | refine blk_drew ?_ | refine blk_alloc ?_ _)); exact BK130.out⟩, ⟨by repeat (first | (with_reducible first | exact HB.out | apply below_alloc | apply pw_below_drewN | apply below_drew1 | refine below_set ?_ GE112.out | refine below_set ?_ GE113.out | refine below_set ?_ GE123.out | refine below_set ?_ GE130.out) | exact HB.out)⟩⟩
            · rw [if_neg c42] at H
              have c42b0 : (t122 == t129) = false := beq_eq_false_iff_ne.mpr c42
              have c42b1 : (t122 != t129) = true := bne_iff_ne.mpr c42
              (first | rw [c42b0] | (simp only [i64_w, i32_w]; rw [c42b0]) | skip)
              have H' := Aside0.mk H
              clear H
              go_wp2
              go_meet
              case rel => exact ⟨_, (true), zz8, H', ⟨by have := HJ5.out; first | omega | exact Nat.le_refl _⟩, ⟨yF⟩, ⟨yF⟩, ⟨yF⟩, ⟨by (with_reducible repeat (first | refine blk_drewN ?_ _ | refine blk_drew ?_ | refine blk_alloc ?_ _)); refine blk_put (cs := #[.int .u32 t124, .int .i64 t125, .int .u32 t126, .int .u32 t127, .int .u32 0]) ?_ 4 _ rfl; (with_reducible repeat (first | refine blk_drewN ?_ _ | refine blk_drew ?_ | refine blk_alloc ?_ _)); refine blk_put (cs := #[.int .u32 t124, .int .i64 t125, .int .u32 t126, .int .u32 0, .int .u32 0]) ?_ 3 _ rfl; (with_reducible repeat (first | refine blk_drewN ?_ _ | refine blk_drew ?_ | refine blk_alloc ?_ _)); refine blk_put (cs := #[.int .u32 t124, .int .i64 t125, .int .u32 0, .int .u32 0, .int .u32 0]) ?_ 2 _ rfl; (with_reducible repeat (first | refine blk_drewN ?_ _ | refine blk_drew ?_ | refine blk_alloc ?_ _)); refine blk_put (cs := #[.int .u32 t124, .int .i64 0, .int .u32 0, .int .u32 0, .int .u32 0]) ?_ 1 _ rfl; (with_reducible repeat (first | refine blk_drewN ?_ _ | refine blk_drew ?_ | refine blk_alloc ?_ _)); refine blk_put (cs := #[.int .u32 0, .int .i64 0, .int .u32 0, .int .u32 0, .int .u32 0]) ?_ 0 _ rfl; (with_reducible repeat (first | refine blk_drewN ?_ _ | refine blk_drew ?_ | refine blk_alloc ?_ _)); exact BK130.out⟩, ⟨by repeat (first | (with_reducible first | exact HB.out | apply below_alloc | apply pw_below_drewN | apply below_drew1 | refine below_set ?_ GE112.out | refine below_set ?_ GE113.out | refine below_set ?_ GE123.out | refine below_set ?_ GE130.out) | exact HB.out)⟩⟩
          case rest =>
            clear HC27
            (try clear c1); (try clear c2); (try clear p2); (try clear c3); (try clear c4); (try clear c5); (try clear p6); (try clear c11); (try clear c12); (try clear c13); (try clear c16); (try clear c17); (try clear c20); (try clear c24); (try clear c28); (try clear c32); (try clear c33); (try clear c38); (try clear c39); (try clear c40); (try clear c42); (try clear c42b0); (try clear c42b1); (try clear c43); (try clear c43b0); (try clear c43b1); (try clear c45); (try clear c46); (try clear c47); (try clear c49); (try clear c50); (try clear hcz14_0); (try clear hcz14_1); (try clear hcz14_2); (try clear hcz14_3); (try clear hcz14_4); (try clear hcz15_0); (try clear hcz15_1); (try clear hcz15_2); (try clear hcz15_3); (try clear hcz15_4); (try clear hcz17_0); (try clear hcz17_1); (try clear hcz17_2); (try clear hcz17_3); (try clear hcz17_4); (try clear hcz18_0); (try clear hcz18_1); (try clear hcz18_2); (try clear hcz18_3); (try clear hcz18_4); (try clear hcz21_0); (try clear hcz21_1); (try clear hcz21_2); (try clear hcz21_3); (try clear hcz21_4); (try clear hcz22_0); (try clear hcz22_1); (try clear hcz22_2); (try clear hcz22_3); (try clear hcz22_4); (try clear hcz29_0); (try clear hcz29_1); (try clear hcz29_2); (try clear hcz29_3); (try clear hcz29_4); (try clear hcz34_0); (try clear hcz34_1); (try clear hcz34_2); (try clear hcz34_3); (try clear hcz34_4); (try clear hcz35_0); (try clear hcz35_1); (try clear hcz35_2); (try clear hcz35_3); (try clear hcz35_4); (try clear hcz41_0); (try clear hcz41_1); (try clear hcz41_2); (try clear hcz41_3); (try clear hcz41_4); (try clear hcz48_0); (try clear hcz48_1); (try clear hcz48_2); (try clear hcz48_3); (try clear hcz48_4); (try clear hcz51_0); (try clear hcz51_1); (try clear hcz51_2); (try clear hcz51_3); (try clear hcz51_4); (try clear hfz14_0); (try clear hfz14_1); (try clear hfz14_2); (try clear hfz14_3); (try clear hfz14_4); (try clear hfz15_0); (try clear hfz15_1); (try clear hfz15_2); (try clear hfz15_3); (try clear hfz15_4); (try clear hfz17_0); (try clear hfz17_1); (try clear hfz17_2); (try clear hfz17_3); (try clear hfz17_4); (try clear hfz18_0); (try clear hfz18_1); (try clear hfz18_2); (try clear hfz18_3); (try clear hfz18_4); (try clear hfz21_0); (try clear hfz21_1); (try clear hfz21_2); (try clear hfz21_3); (try clear hfz21_4); (try clear hfz22_0); (try clear hfz22_1); (try clear hfz22_2); (try clear hfz22_3); (try clear hfz22_4); (try clear hfz29_0); (try clear hfz29_1); (try clear hfz29_2); (try clear hfz29_3); (try clear hfz29_4); (try clear hfz34_0); (try clear hfz34_1); (try clear hfz34_2); (try clear hfz34_3); (try clear hfz34_4); (try clear hfz35_0); (try clear hfz35_1); (try clear hfz35_2); (try clear hfz35_3); (try clear hfz35_4); (try clear hfz41_0); (try clear hfz41_1); (try clear hfz41_2); (try clear hfz41_3); (try clear hfz41_4); (try clear hfz48_0); (try clear hfz48_1); (try clear hfz48_2); (try clear hfz48_3); (try clear hfz48_4); (try clear hfz51_0); (try clear hfz51_1); (try clear hfz51_2); (try clear hfz51_3); (try clear hfz51_4); (try clear p2); (try clear p6)
            obtain ⟨kq, x46_26, rfl, HA, HJ26, BK112, BK113, BK123, BK130, HB⟩ := hcut
            cases kq with
            | zero => exact absurd HA.out (by simp [watershedlaw04_StampAlong.j1])
            | succ kj26 =>
              have H := HA.out
              clear HA
              simp only [watershedlaw04_StampAlong.j1] at H
              by_cases c53 : x46_26 = true
              · subst c53
                have H1 : (none) = some r := by rw [if_pos rfl] at H; exact H
                clear H
                have H := H1
                clear H1
                exact absurd H (by simp)
              · replace c53 := Bool.eq_false_iff.mpr c53
                subst c53
                have H1 : ((stamp_Leave.f a0_0 a0_1 a0_2 a0_3 a0_4).bind fun bt132 => ((stamp_Leave.f a1_0 a1_1 a1_2 a1_3 a1_4).bind fun bt138 => (if bt132.2.2.2.2.2 = bt138.2.2.2.2.2 then (if bt132.2.2.2.2.2 = 0 then ((stamp_LE.f bt132.1 bt132.2.1 bt132.2.2.1 bt132.2.2.2.1 bt132.2.2.2.2.1 bt138.1 bt138.2.1 bt138.2.2.1 bt138.2.2.2.1 bt138.2.2.2.2.1).bind fun t144 => (watershedlaw04_StampAlong.j2 kj26 a2 (!t144) a0_0 a0_1 a0_2 a0_3 a0_4 a1_0 a1_1 a1_2 a1_3 a1_4)) else (watershedlaw04_StampAlong.j2 kj26 a2 false a0_0 a0_1 a0_2 a0_3 a0_4 a1_0 a1_1 a1_2 a1_3 a1_4)) else (watershedlaw04_StampAlong.j2 kj26 a2 true a0_0 a0_1 a0_2 a0_3 a0_4 a1_0 a1_1 a1_2 a1_3 a1_4)))) = some r := by rw [if_neg (show ¬ (false = true) by decide)] at H; exact H
                clear H
                have H := H1
                clear H1
                replace H := Option.bind_eq_some_iff.mp H
                obtain ⟨⟨t132, t133, t134, t135, t136, t137⟩, A540, H⟩ := H
                replace H : ((stamp_Leave.f a1_0 a1_1 a1_2 a1_3 a1_4).bind fun bt138 => (if t137 = bt138.2.2.2.2.2 then (if t137 = 0 then ((stamp_LE.f t132 t133 t134 t135 t136 bt138.1 bt138.2.1 bt138.2.2.1 bt138.2.2.2.1 bt138.2.2.2.2.1).bind fun t144 => (watershedlaw04_StampAlong.j2 kj26 a2 (!t144) a0_0 a0_1 a0_2 a0_3 a0_4 a1_0 a1_1 a1_2 a1_3 a1_4)) else (watershedlaw04_StampAlong.j2 kj26 a2 false a0_0 a0_1 a0_2 a0_3 a0_4 a1_0 a1_1 a1_2 a1_3 a1_4)) else (watershedlaw04_StampAlong.j2 kj26 a2 true a0_0 a0_1 a0_2 a0_3 a0_4 a1_0 a1_1 a1_2 a1_3 a1_4))) = some r := H
                have A54 := Aside0.mk A540
                clear A540
                replace H := Option.bind_eq_some_iff.mp H
                obtain ⟨⟨t138, t139, t140, t141, t142, t143⟩, A550, H⟩ := H
                replace H : (if t137 = t143 then (if t137 = 0 then ((stamp_LE.f t132 t133 t134 t135 t136 t138 t139 t140 t141 t142).bind fun t144 => (watershedlaw04_StampAlong.j2 kj26 a2 (!t144) a0_0 a0_1 a0_2 a0_3 a0_4 a1_0 a1_1 a1_2 a1_3 a1_4)) else (watershedlaw04_StampAlong.j2 kj26 a2 false a0_0 a0_1 a0_2 a0_3 a0_4 a1_0 a1_1 a1_2 a1_3 a1_4)) else (watershedlaw04_StampAlong.j2 kj26 a2 true a0_0 a0_1 a0_2 a0_3 a0_4 a1_0 a1_1 a1_2 a1_3 a1_4)) = some r := H
                have A55 := Aside0.mk A550
                clear A550
                have HC56 := Aside0.mk H
                clear H
                have hnb57 := NB112_113.out
                have hnc57 := NB113_112.out
                have hnb58 := NB112_123.out
                have hnc58 := NB123_112.out
                have hnb59 := NB112_130.out
                have hnc59 := NB130_112.out
                obtain ⟨hcz60_0, hcz60_1, hcz60_2, hcz60_3, hcz60_4, hfz60_0, hfz60_1, hfz60_2, hfz60_3, hfz60_4⟩ := yC5 BK112
                go_upto_region 11 with (first | ((with_reducible refine gate_callee (f := 18) rfl ?_); refine goesL_ (some 49) rfl rfl Tryd.func18 (by kernel_rfl) rfl #[.agg #[.int .u32 a0_0, .int .i64 a0_1, .int .u32 a0_2, .int .u32 a0_3, .int .u32 a0_4]] rfl zz1 ?_; (with_reducible refine (stamp_Leave.calls a0_0 a0_1 a0_2 a0_3 a0_4 t132 t133 t134 t135 t136 t137 _ A54.out).mono ?_); rintro e w61 ⟨rfl, hb⟩; refine ⟨_, rfl, ?_⟩; have n0_ := yB BK112 hb; have n1_ := yB BK113 hb; have n2_ := yB BK123 hb; have n3_ := yB BK130 hb; have n4_ := Aside0.mk (below_step zz2 hb); clear BK112; clear BK113; clear BK123; clear BK130; clear HB; have BK112 := n0_; have BK113 := n1_; have BK123 := n2_; have BK130 := n3_; have HB := n4_; clear n0_ n1_ n2_ n3_ n4_; (try clear hb); (try clear hb2); (try clear hk); (try clear hi); have hnb62 := NB123_113.out; have hnc62 := NB113_123.out; have hnb63 := NB123_130.out; have hnc63 := NB130_123.out; obtain ⟨hcz64_0, hcz64_1, hcz64_2, hcz64_3, hcz64_4, hfz64_0, hfz64_1, hfz64_2, hfz64_3, hfz64_4⟩ := yC5 BK123; have hnb65 := NB113_130.out; have hnc65 := NB130_113.out; obtain ⟨hcz66_0, hcz66_1, hcz66_2, hcz66_3, hcz66_4, hfz66_0, hfz66_1, hfz66_2, hfz66_3, hfz66_4⟩ := yC5 BK113) | ((with_reducible refine gate_callee (f := 18) rfl ?_); refine goesL_ (some 54) rfl rfl Tryd.func18 (by kernel_rfl) rfl #[.agg #[.int .u32 a1_0, .int .i64 a1_1, .int .u32 a1_2, .int .u32 a1_3, .int .u32 a1_4]] rfl zz1 ?_; (with_reducible refine (stamp_Leave.calls a1_0 a1_1 a1_2 a1_3 a1_4 t138 t139 t140 t141 t142 t143 _ A55.out).mono ?_); rintro e w67 ⟨rfl, hb⟩; refine ⟨_, rfl, ?_⟩; have n0_ := yB BK112 hb; have n1_ := yB BK113 hb; have n2_ := Aside0.mk (blk_below (g := gb123) (o := .cells #[.int .u32 t132, .int .i64 t133, .int .u32 t134, .int .u32 t135, .int .u32 t136] 25 (0, 0)) (by (with_reducible repeat (first | refine blk_drewN ?_ _ | refine blk_drew ?_ | refine blk_alloc ?_ _)); refine blk_put (cs := #[.int .u32 t132, .int .i64 t133, .int .u32 t134, .int .u32 t135, .int .u32 t121]) ?_ 4 _ rfl; (with_reducible repeat (first | refine blk_drewN ?_ _ | refine blk_drew ?_ | refine blk_alloc ?_ _)); refine blk_put (cs := #[.int .u32 t132, .int .i64 t133, .int .u32 t134, .int .u32 t120, .int .u32 t121]) ?_ 3 _ rfl; (with_reducible repeat (first | refine blk_drewN ?_ _ | refine blk_drew ?_ | refine blk_alloc ?_ _)); refine blk_put (cs := #[.int .u32 t132, .int .i64 t133, .int .u32 t119, .int .u32 t120, .int .u32 t121]) ?_ 2 _ rfl; (with_reducible repeat (first | refine blk_drewN ?_ _ | refine blk_drew ?_ | refine blk_alloc ?_ _)); refine blk_put (cs := #[.int .u32 t132, .int .i64 t118, .int .u32 t119, .int .u32 t120, .int .u32 t121]) ?_ 1 _ rfl; (with_reducible repeat (first | refine blk_drewN ?_ _ | refine blk_drew ?_ | refine blk_alloc ?_ _)); refine blk_put (cs := #[.int .u32 t117, .int .i64 t118, .int .u32 t119, .int .u32 t120, .int .u32 t121]) ?_ 0 _ rfl; (with_reducible repeat (first | refine blk_drewN ?_ _ | refine blk_drew ?_ | refine blk_alloc ?_ _)); exact BK123.out) hb); have n3_ := yB BK130 hb; have n4_ := Aside0.mk (below_step zz2 hb); clear BK112; clear BK113; clear BK123; clear BK130; clear HB; have BK112 := n0_; have BK113 := n1_; have BK123 := n2_; have BK130 := n3_; have HB := n4_; clear n0_ n1_ n2_ n3_ n4_; (try clear hb); (try clear hb2); (try clear hk); (try clear hi); obtain ⟨hcz68_0, hcz68_1, hcz68_2, hcz68_3, hcz68_4, hfz68_0, hfz68_1, hfz68_2, hfz68_3, hfz68_4⟩ := yC5 BK130))
                (try simp only [Act.put, List.setIfInBounds_toArray, List.set_cons_zero, List.set_cons_succ])
                go_cut [69] (fun v69 wc => ∃ (kq : Nat) (x69_55 : Bool), v69 = .bool x69_55 ∧ Aside0 (watershedlaw04_StampAlong.j2 kq a2 x69_55 a0_0 a0_1 a0_2 a0_3 a0_4 a1_0 a1_1 a1_2 a1_3 a1_4 = some r) ∧ Aside0 (kq ≤ kj26) ∧ Aside0 (wc.heap[gb112]? = some (.cells #[.int .u32 a0_0, .int .i64 a0_1, .int .u32 a0_2, .int .u32 a0_3, .int .u32 a0_4] 25 (0, 0))) ∧ Aside0 (wc.heap[gb113]? = some (.cells #[.int .u32 a1_0, .int .i64 a1_1, .int .u32 a1_2, .int .u32 a1_3, .int .u32 a1_4] 25 (0, 0))) ∧ Aside0 (wc.heap[gb123]? = some (.cells #[.int .u32 t132, .int .i64 t133, .int .u32 t134, .int .u32 t135, .int .u32 t136] 25 (0, 0))) ∧ Aside0 (wc.heap[gb130]? = some (.cells #[.int .u32 t138, .int .i64 t139, .int .u32 t140, .int .u32 t141, .int .u32 t142] 25 (0, 0))) ∧ Aside0 (Below w.heap.size w wc))
                case first =>
                  have H := HC56.out
                  clear HC56
                  by_cases c69 : t137 = t143
                  · rw [if_pos c69] at H
                    have c69b0 : (t137 == t143) = true := beq_iff_eq.mpr c69
                    have c69b1 : (t137 != t143) = false := bne_eq_false_iff_eq.mpr c69
                    clear c69
                    (first | rw [c69b0] | (simp only [i64_w, i32_w]; rw [c69b0]) | skip)
                    by_cases c70 : t137 = 0
                    · rw [if_pos c70] at H
                      have c70b0 : (t137 == 0) = true := beq_iff_eq.mpr c70
                      have c70b1 : (t137 != 0) = false := bne_eq_false_iff_eq.mpr c70
                      clear c70
                      replace H := Option.bind_eq_some_iff.mp H
                      obtain ⟨t144, A710, H⟩ := H
                      replace H : (watershedlaw04_StampAlong.j2 kj26 a2 (!t144) a0_0 a0_1 a0_2 a0_3 a0_4 a1_0 a1_1 a1_2 a1_3 a1_4) = some r := H
                      have A71 := Aside0.mk A710
                      clear A710
                      have H' := Aside0.mk H
                      clear H
                      have hnb72 := NB123_112.out
                      have hnc72 := NB112_123.out
                      have hnb73 := NB123_113.out
                      have hnc73 := NB113_123.out
                      have hnb74 := NB123_130.out
                      have hnc74 := NB130_123.out
                      obtain ⟨hcz75_0, hcz75_1, hcz75_2, hcz75_3, hcz75_4, hfz75_0, hfz75_1, hfz75_2, hfz75_3, hfz75_4⟩ := yC5 BK123
                      have hnb76 := NB130_112.out
                      have hnc76 := NB112_130.out
                      have hnb77 := NB130_113.out
                      have hnc77 := NB113_130.out
                      obtain ⟨hcz78_0, hcz78_1, hcz78_2, hcz78_3, hcz78_4, hfz78_0, hfz78_1, hfz78_2, hfz78_3, hfz78_4⟩ := yC5 BK130
                      go_wp2_with (first | (go_at_call 14; (with_reducible refine (stamp_LE.calls t132 t133 t134 t135 t136 t138 t139 t140 t141 t142 t144 _ A71.out).mono ?_); rintro e w79 ⟨rfl, hb⟩; have n0_ := yB BK112 hb; have n1_ := yB BK113 hb; have n2_ := yB BK123 hb; have n3_ := Aside0.mk (blk_below (g := gb130) (o := .cells #[.int .u32 t138, .int .i64 t139, .int .u32 t140, .int .u32 t141, .int .u32 t142] 25 (0, 0)) (by (with_reducible repeat (first | refine blk_drewN ?_ _ | refine blk_drew ?_ | refine blk_alloc ?_ _)); refine blk_put (cs := #[.int .u32 t138, .int .i64 t139, .int .u32 t140, .int .u32 t141, .int .u32 t128]) ?_ 4 _ rfl; (with_reducible repeat (first | refine blk_drewN ?_ _ | refine blk_drew ?_ | refine blk_alloc ?_ _)); refine blk_put (cs := #[.int .u32 t138, .int .i64 t139, .int .u32 t140, .int .u32 t127, .int .u32 t128]) ?_ 3 _ rfl; (with_reducible repeat (first | refine blk_drewN ?_ _ | refine blk_drew ?_ | refine blk_alloc ?_ _)); refine blk_put (cs := #[.int .u32 t138, .int .i64 t139, .int .u32 t126, .int .u32 t127, .int .u32 t128]) ?_ 2 _ rfl; (with_reducible repeat (first | refine blk_drewN ?_ _ | refine blk_drew ?_ | refine blk_alloc ?_ _)); refine blk_put (cs := #[.int .u32 t138, .int .i64 t125, .int .u32 t126, .int .u32 t127, .int .u32 t128]) ?_ 1 _ rfl; (with_reducible repeat (first | refine blk_drewN ?_ _ | refine blk_drew ?_ | refine blk_alloc ?_ _)); refine blk_put (cs := #[.int .u32 t124, .int .i64 t125, .int .u32 t126, .int .u32 t127, .int .u32 t128]) ?_ 0 _ rfl; (with_reducible repeat (first | refine blk_drewN ?_ _ | refine blk_drew ?_ | refine blk_alloc ?_ _)); exact BK130.out) hb); have n4_ := Aside0.mk (below_step zz2 hb); clear BK112; clear BK113; clear BK123; clear BK130; clear HB; have BK112 := n0_; have BK113 := n1_; have BK123 := n2_; have BK130 := n3_; have HB := n4_; clear n0_ n1_ n2_ n3_ n4_; (try clear hb); (try clear hb2); (try clear hk); (try clear hi)))
                      go_meet
                      case rel => exact ⟨_, (!t144), zz8, H', ⟨by have := HJ5.out; have := HJ26.out; first | omega | exact Nat.le_refl _⟩, ⟨yF⟩, ⟨yF⟩, ⟨yF⟩, ⟨yF⟩, ⟨by repeat (first | (with_reducible first | exact HB.out | apply below_alloc | apply pw_below_drewN | apply below_drew1 | refine below_set ?_ GE112.out | refine below_set ?_ GE113.out | refine below_set ?_ GE123.out | refine below_set ?_ GE130.out) | exact HB.out)⟩⟩
                    · rw [if_neg c70] at H
                      have c70b0 : (t137 == 0) = false := beq_eq_false_iff_ne.mpr c70
                      have c70b1 : (t137 != 0) = true := bne_iff_ne.mpr c70
                      have H' := Aside0.mk H
                      clear H
                      go_wp2
                      go_meet
                      case rel => exact ⟨_, (false), zz8, H', ⟨by have := HJ5.out; have := HJ26.out; first | omega | exact Nat.le_refl _⟩, ⟨yF⟩, ⟨yF⟩, ⟨yF⟩, ⟨by (with_reducible repeat (first | refine blk_drewN ?_ _ | refine blk_drew ?_ | refine blk_alloc ?_ _)); refine blk_put (cs := #[.int .u32 t138, .int .i64 t139, .int .u32 t140, .int .u32 t141, .int .u32 t128]) ?_ 4 _ rfl; (with_reducible repeat (first | refine blk_drewN ?_ _ | refine blk_drew ?_ | refine blk_alloc ?_ _)); refine blk_put (cs := #[.int .u32 t138, .int .i64 t139, .int .u32 t140, .int .u32 t127, .int .u32 t128]) ?_ 3 _ rfl; (with_reducible repeat (first | refine blk_drewN ?_ _ | refine blk_drew ?_ | refine blk_alloc ?_ _)); refine blk_put (cs := #[.int .u32 t138, .int .i64 t139, .int .u32 t126, .int .u32 t127, .int .u32 t128]) ?_ 2 _ rfl; (with_reducible repeat (first | refine blk_drewN ?_ _ | refine blk_drew ?_ | refine blk_alloc ?_ _)); refine blk_put (cs := #[.int .u32 t138, .int .i64 t125, .int .u32 t126, .int .u32 t127, .int .u32 t128]) ?_ 1 _ rfl; (with_reducible repeat (first | refine blk_drewN ?_ _ | refine blk_drew ?_ | refine blk_alloc ?_ _)); refine blk_put (cs := #[.int .u32 t124, .int .i64 t125, .int .u32 t126, .int .u32 t127, .int .u32 t128]) ?_ 0 _ rfl; (with_reducible repeat (first | refine blk_drewN ?_ _ | refine blk_drew ?_ | refine blk_alloc ?_ _)); exact BK130.out⟩, ⟨by repeat (first | (with_reducible first | exact HB.out | apply below_alloc | apply pw_below_drewN | apply below_drew1 | refine below_set ?_ GE112.out | refine below_set ?_ GE113.out | refine below_set ?_ GE123.out | refine below_set ?_ GE130.out) | exact HB.out)⟩⟩
                  · rw [if_neg c69] at H
                    have c69b0 : (t137 == t143) = false := beq_eq_false_iff_ne.mpr c69
                    have c69b1 : (t137 != t143) = true := bne_iff_ne.mpr c69
                    (first | rw [c69b0] | (simp only [i64_w, i32_w]; rw [c69b0]) | skip)
                    have H' := Aside0.mk H
                    clear H
                    go_wp2
                    go_meet
                    case rel => exact ⟨_, (true), zz8, H', ⟨by have := HJ5.out; have := HJ26.out; first | omega | exact Nat.le_refl _⟩, ⟨yF⟩, ⟨yF⟩, ⟨yF⟩, ⟨by (with_reducible repeat (first | refine blk_drewN ?_ _ | refine blk_drew ?_ | refine blk_alloc ?_ _)); refine blk_put (cs := #[.int .u32 t138, .int .i64 t139, .int .u32 t140, .int .u32 t141, .int .u32 t128]) ?_ 4 _ rfl; (with_reducible repeat (first | refine blk_drewN ?_ _ | refine blk_drew ?_ | refine blk_alloc ?_ _)); refine blk_put (cs := #[.int .u32 t138, .int .i64 t139, .int .u32 t140, .int .u32 t127, .int .u32 t128]) ?_ 3 _ rfl; (with_reducible repeat (first | refine blk_drewN ?_ _ | refine blk_drew ?_ | refine blk_alloc ?_ _)); refine blk_put (cs := #[.int .u32 t138, .int .i64 t139, .int .u32 t126, .int .u32 t127, .int .u32 t128]) ?_ 2 _ rfl; (with_reducible repeat (first | refine blk_drewN ?_ _ | refine blk_drew ?_ | refine blk_alloc ?_ _)); refine blk_put (cs := #[.int .u32 t138, .int .i64 t125, .int .u32 t126, .int .u32 t127, .int .u32 t128]) ?_ 1 _ rfl; (with_reducible repeat (first | refine blk_drewN ?_ _ | refine blk_drew ?_ | refine blk_alloc ?_ _)); refine blk_put (cs := #[.int .u32 t124, .int .i64 t125, .int .u32 t126, .int .u32 t127, .int .u32 t128]) ?_ 0 _ rfl; (with_reducible repeat (first | refine blk_drewN ?_ _ | refine blk_drew ?_ | refine blk_alloc ?_ _)); exact BK130.out⟩, ⟨by repeat (first | (with_reducible first | exact HB.out | apply below_alloc | apply pw_below_drewN | apply below_drew1 | refine below_set ?_ GE112.out | refine below_set ?_ GE113.out | refine below_set ?_ GE123.out | refine below_set ?_ GE130.out) | exact HB.out)⟩⟩
                case rest =>
                  clear HC56
                  (try clear c1); (try clear c2); (try clear p2); (try clear c3); (try clear c4); (try clear c5); (try clear c6); (try clear p6); (try clear c7); (try clear c11); (try clear c12); (try clear c13); (try clear c16); (try clear c17); (try clear c18); (try clear c20); (try clear c24); (try clear c28); (try clear c32); (try clear c33); (try clear c38); (try clear c39); (try clear c40); (try clear c42); (try clear c42b0); (try clear c42b1); (try clear c43); (try clear c43b0); (try clear c43b1); (try clear c45); (try clear c46); (try clear c47); (try clear c49); (try clear c50); (try clear c53); (try clear c57); (try clear c58); (try clear c59); (try clear c62); (try clear c63); (try clear p64); (try clear c65); (try clear c69); (try clear c69b0); (try clear c69b1); (try clear c70); (try clear c70b0); (try clear c70b1); (try clear c72); (try clear c73); (try clear c74); (try clear c76); (try clear c77); (try clear hcz14_0); (try clear hcz14_1); (try clear hcz14_2); (try clear hcz14_3); (try clear hcz14_4); (try clear hcz15_0); (try clear hcz15_1); (try clear hcz15_2); (try clear hcz15_3); (try clear hcz15_4); (try clear hcz17_0); (try clear hcz17_1); (try clear hcz17_2); (try clear hcz17_3); (try clear hcz17_4); (try clear hcz18_0); (try clear hcz18_1); (try clear hcz18_2); (try clear hcz18_3); (try clear hcz18_4); (try clear hcz21_0); (try clear hcz21_1); (try clear hcz21_2); (try clear hcz21_3); (try clear hcz21_4); (try clear hcz22_0); (try clear hcz22_1); (try clear hcz22_2); (try clear hcz22_3); (try clear hcz22_4); (try clear hcz29_0); (try clear hcz29_1); (try clear hcz29_2); (try clear hcz29_3); (try clear hcz29_4); (try clear hcz34_0); (try clear hcz34_1); (try clear hcz34_2); (try clear hcz34_3); (try clear hcz34_4); (try clear hcz35_0); (try clear hcz35_1); (try clear hcz35_2); (try clear hcz35_3); (try clear hcz35_4); (try clear hcz41_0); (try clear hcz41_1); (try clear hcz41_2); (try clear hcz41_3); (try clear hcz41_4); (try clear hcz48_0); (try clear hcz48_1); (try clear hcz48_2); (try clear hcz48_3); (try clear hcz48_4); (try clear hcz51_0); (try clear hcz51_1); (try clear hcz51_2); (try clear hcz51_3); (try clear hcz51_4); (try clear hcz60_0); (try clear hcz60_1); (try clear hcz60_2); (try clear hcz60_3); (try clear hcz60_4); (try clear hcz64_0); (try clear hcz64_1); (try clear hcz64_2); (try clear hcz64_3); (try clear hcz64_4); (try clear hcz66_0); (try clear hcz66_1); (try clear hcz66_2); (try clear hcz66_3); (try clear hcz66_4); (try clear hcz68_0); (try clear hcz68_1); (try clear hcz68_2); (try clear hcz68_3); (try clear hcz68_4); (try clear hcz75_0); (try clear hcz75_1); (try clear hcz75_2); (try clear hcz75_3); (try clear hcz75_4); (try clear hcz78_0); (try clear hcz78_1); (try clear hcz78_2); (try clear hcz78_3); (try clear hcz78_4); (try clear hfz14_0); (try clear hfz14_1); (try clear hfz14_2); (try clear hfz14_3); (try clear hfz14_4); (try clear hfz15_0); (try clear hfz15_1); (try clear hfz15_2); (try clear hfz15_3); (try clear hfz15_4); (try clear hfz17_0); (try clear hfz17_1); (try clear hfz17_2); (try clear hfz17_3); (try clear hfz17_4); (try clear hfz18_0); (try clear hfz18_1); (try clear hfz18_2); (try clear hfz18_3); (try clear hfz18_4); (try clear hfz21_0); (try clear hfz21_1); (try clear hfz21_2); (try clear hfz21_3); (try clear hfz21_4); (try clear hfz22_0); (try clear hfz22_1); (try clear hfz22_2); (try clear hfz22_3); (try clear hfz22_4); (try clear hfz29_0); (try clear hfz29_1); (try clear hfz29_2); (try clear hfz29_3); (try clear hfz29_4); (try clear hfz34_0); (try clear hfz34_1); (try clear hfz34_2); (try clear hfz34_3); (try clear hfz34_4); (try clear hfz35_0); (try clear hfz35_1); (try clear hfz35_2); (try clear hfz35_3); (try clear hfz35_4); (try clear hfz41_0); (try clear hfz41_1); (try clear hfz41_2); (try clear hfz41_3); (try clear hfz41_4); (try clear hfz48_0); (try clear hfz48_1); (try clear hfz48_2); (try clear hfz48_3); (try clear hfz48_4); (try clear hfz51_0); (try clear hfz51_1); (try clear hfz51_2); (try clear hfz51_3); (try clear hfz51_4); (try clear hfz60_0); (try clear hfz60_1); (try clear hfz60_2); (try clear hfz60_3); (try clear hfz60_4); (try clear hfz64_0); (try clear hfz64_1); (try clear hfz64_2); (try clear hfz64_3); (try clear hfz64_4); (try clear hfz66_0); (try clear hfz66_1); (try clear hfz66_2); (try clear hfz66_3); (try clear hfz66_4); (try clear hfz68_0); (try clear hfz68_1); (try clear hfz68_2); (try clear hfz68_3); (try clear hfz68_4); (try clear hfz75_0); (try clear hfz75_1); (try clear hfz75_2); (try clear hfz75_3); (try clear hfz75_4); (try clear hfz78_0); (try clear hfz78_1); (try clear hfz78_2); (try clear hfz78_3); (try clear hfz78_4); (try clear p2); (try clear p6)
                  obtain ⟨kq, x69_55, rfl, HA, HJ55, BK112, BK113, BK123, BK130, HB⟩ := hcut
                  cases kq with
                  | zero => exact absurd HA.out (by simp [watershedlaw04_StampAlong.j2])
                  | succ kj55 =>
                    have H := HA.out
                    clear HA
                    simp only [watershedlaw04_StampAlong.j2] at H
                    by_cases c80 : x69_55 = true
                    · subst c80
                      have H1 : (none) = some r := by rw [if_pos rfl] at H; exact H
                      clear H
                      have H := H1
                      clear H1
                      exact absurd H (by simp)
                    · replace c80 := Bool.eq_false_iff.mpr c80
                      subst c80
                      have H1 : ((stamp_Next.f a0_0 a0_1 a0_2 a0_3 a0_4).bind fun bt145 => ((stamp_Next.f a1_0 a1_1 a1_2 a1_3 a1_4).bind fun bt151 => (if bt151.2.2.2.2.2 = 0 then (if bt145.2.2.2.2.2 = 0 then ((stamp_LE.f bt145.1 bt145.2.1 bt145.2.2.1 bt145.2.2.2.1 bt145.2.2.2.2.1 bt151.1 bt151.2.1 bt151.2.2.1 bt151.2.2.2.1 bt151.2.2.2.2.1).bind fun t157 => (watershedlaw04_StampAlong.j3 kj55 a2 (!t157) a0_0 a0_1 a0_2 a0_3 a0_4 a1_0 a1_1 a1_2 a1_3 a1_4)) else (watershedlaw04_StampAlong.j3 kj55 a2 true a0_0 a0_1 a0_2 a0_3 a0_4 a1_0 a1_1 a1_2 a1_3 a1_4)) else (watershedlaw04_StampAlong.j3 kj55 a2 false a0_0 a0_1 a0_2 a0_3 a0_4 a1_0 a1_1 a1_2 a1_3 a1_4)))) = some r := by rw [if_neg (show ¬ (false = true) by decide)] at H; exact H
                      clear H
                      have H := H1
                      clear H1
                      replace H := Option.bind_eq_some_iff.mp H
                      obtain ⟨⟨t145, t146, t147, t148, t149, t150⟩, A810, H⟩ := H
                      replace H : ((stamp_Next.f a1_0 a1_1 a1_2 a1_3 a1_4).bind fun bt151 => (if bt151.2.2.2.2.2 = 0 then (if t150 = 0 then ((stamp_LE.f t145 t146 t147 t148 t149 bt151.1 bt151.2.1 bt151.2.2.1 bt151.2.2.2.1 bt151.2.2.2.2.1).bind fun t157 => (watershedlaw04_StampAlong.j3 kj55 a2 (!t157) a0_0 a0_1 a0_2 a0_3 a0_4 a1_0 a1_1 a1_2 a1_3 a1_4)) else (watershedlaw04_StampAlong.j3 kj55 a2 true a0_0 a0_1 a0_2 a0_3 a0_4 a1_0 a1_1 a1_2 a1_3 a1_4)) else (watershedlaw04_StampAlong.j3 kj55 a2 false a0_0 a0_1 a0_2 a0_3 a0_4 a1_0 a1_1 a1_2 a1_3 a1_4))) = some r := H
                      have A81 := Aside0.mk A810
                      clear A810
                      replace H := Option.bind_eq_some_iff.mp H
                      obtain ⟨⟨t151, t152, t153, t154, t155, t156⟩, A820, H⟩ := H
                      replace H : (if t156 = 0 then (if t150 = 0 then ((stamp_LE.f t145 t146 t147 t148 t149 t151 t152 t153 t154 t155).bind fun t157 => (watershedlaw04_StampAlong.j3 kj55 a2 (!t157) a0_0 a0_1 a0_2 a0_3 a0_4 a1_0 a1_1 a1_2 a1_3 a1_4)) else (watershedlaw04_StampAlong.j3 kj55 a2 true a0_0 a0_1 a0_2 a0_3 a0_4 a1_0 a1_1 a1_2 a1_3 a1_4)) else (watershedlaw04_StampAlong.j3 kj55 a2 false a0_0 a0_1 a0_2 a0_3 a0_4 a1_0 a1_1 a1_2 a1_3 a1_4)) = some r := H
                      have A82 := Aside0.mk A820
                      clear A820
                      have HC83 := Aside0.mk H
                      clear H
                      have hnb84 := NB112_113.out
                      have hnc84 := NB113_112.out
                      have hnb85 := NB112_123.out
                      have hnc85 := NB123_112.out
                      have hnb86 := NB112_130.out
                      have hnc86 := NB130_112.out
                      obtain ⟨hcz87_0, hcz87_1, hcz87_2, hcz87_3, hcz87_4, hfz87_0, hfz87_1, hfz87_2, hfz87_3, hfz87_4⟩ := yC5 BK112
                      go_upto_region 15 with (first | ((with_reducible refine gate_callee (f := 19) rfl ?_); refine goesL_ (some 72) rfl rfl Tryd.func19 (by kernel_rfl) rfl #[.agg #[.int .u32 a0_0, .int .i64 a0_1, .int .u32 a0_2, .int .u32 a0_3, .int .u32 a0_4]] rfl zz1 ?_; (with_reducible refine (stamp_Next.calls a0_0 a0_1 a0_2 a0_3 a0_4 t145 t146 t147 t148 t149 t150 _ A81.out).mono ?_); rintro e w88 ⟨rfl, hb⟩; refine ⟨_, rfl, ?_⟩; have n0_ := yB BK112 hb; have n1_ := yB BK113 hb; have n2_ := yB BK123 hb; have n3_ := yB BK130 hb; have n4_ := Aside0.mk (below_step zz2 hb); clear BK112; clear BK113; clear BK123; clear BK130; clear HB; have BK112 := n0_; have BK113 := n1_; have BK123 := n2_; have BK130 := n3_; have HB := n4_; clear n0_ n1_ n2_ n3_ n4_; (try clear hb); (try clear hb2); (try clear hk); (try clear hi); have hnb89 := NB123_113.out; have hnc89 := NB113_123.out; have hnb90 := NB123_130.out; have hnc90 := NB130_123.out; obtain ⟨hcz91_0, hcz91_1, hcz91_2, hcz91_3, hcz91_4, hfz91_0, hfz91_1, hfz91_2, hfz91_3, hfz91_4⟩ := yC5 BK123; have hnb92 := NB113_130.out; have hnc92 := NB130_113.out; obtain ⟨hcz93_0, hcz93_1, hcz93_2, hcz93_3, hcz93_4, hfz93_0, hfz93_1, hfz93_2, hfz93_3, hfz93_4⟩ := yC5 BK113) | ((with_reducible refine gate_callee (f := 19) rfl ?_); refine goesL_ (some 77) rfl rfl Tryd.func19 (by kernel_rfl) rfl #[.agg #[.int .u32 a1_0, .int .i64 a1_1, .int .u32 a1_2, .int .u32 a1_3, .int .u32 a1_4]] rfl zz1 ?_; (with_reducible refine (stamp_Next.calls a1_0 a1_1 a1_2 a1_3 a1_4 t151 t152 t153 t154 t155 t156 _ A82.out).mono ?_); rintro e w94 ⟨rfl, hb⟩; refine ⟨_, rfl, ?_⟩; have n0_ := yB BK112 hb; have n1_ := yB BK113 hb; have n2_ := Aside0.mk (blk_below (g := gb123) (o := .cells #[.int .u32 t145, .int .i64 t146, .int .u32 t147, .int .u32 t148, .int .u32 t149] 25 (0, 0)) (by (with_reducible repeat (first | refine blk_drewN ?_ _ | refine blk_drew ?_ | refine blk_alloc ?_ _)); refine blk_put (cs := #[.int .u32 t145, .int .i64 t146, .int .u32 t147, .int .u32 t148, .int .u32 t136]) ?_ 4 _ rfl; (with_reducible repeat (first | refine blk_drewN ?_ _ | refine blk_drew ?_ | refine blk_alloc ?_ _)); refine blk_put (cs := #[.int .u32 t145, .int .i64 t146, .int .u32 t147, .int .u32 t135, .int .u32 t136]) ?_ 3 _ rfl; (with_reducible repeat (first | refine blk_drewN ?_ _ | refine blk_drew ?_ | refine blk_alloc ?_ _)); refine blk_put (cs := #[.int .u32 t145, .int .i64 t146, .int .u32 t134, .int .u32 t135, .int .u32 t136]) ?_ 2 _ rfl; (with_reducible repeat (first | refine blk_drewN ?_ _ | refine blk_drew ?_ | refine blk_alloc ?_ _)); refine blk_put (cs := #[.int .u32 t145, .int .i64 t133, .int .u32 t134, .int .u32 t135, .int .u32 t136]) ?_ 1 _ rfl; (with_reducible repeat (first | refine blk_drewN ?_ _ | refine blk_drew ?_ | refine blk_alloc ?_ _)); refine blk_put (cs := #[.int .u32 t132, .int .i64 t133, .int .u32 t134, .int .u32 t135, .int .u32 t136]) ?_ 0 _ rfl; (with_reducible repeat (first | refine blk_drewN ?_ _ | refine blk_drew ?_ | refine blk_alloc ?_ _)); exact BK123.out) hb); have n3_ := yB BK130 hb; have n4_ := Aside0.mk (below_step zz2 hb); clear BK112; clear BK113; clear BK123; clear BK130; clear HB; have BK112 := n0_; have BK113 := n1_; have BK123 := n2_; have BK130 := n3_; have HB := n4_; clear n0_ n1_ n2_ n3_ n4_; (try clear hb); (try clear hb2); (try clear hk); (try clear hi); obtain ⟨hcz95_0, hcz95_1, hcz95_2, hcz95_3, hcz95_4, hfz95_0, hfz95_1, hfz95_2, hfz95_3, hfz95_4⟩ := yC5 BK130))
                      (try simp only [Act.put, List.setIfInBounds_toArray, List.set_cons_zero, List.set_cons_succ])
                      go_cut [91] (fun v91 wc => ∃ (kq : Nat) (x91_82 : Bool), v91 = .bool x91_82 ∧ Aside0 (watershedlaw04_StampAlong.j3 kq a2 x91_82 a0_0 a0_1 a0_2 a0_3 a0_4 a1_0 a1_1 a1_2 a1_3 a1_4 = some r) ∧ Aside0 (kq ≤ kj55) ∧ Aside0 (wc.heap[gb112]? = some (.cells #[.int .u32 a0_0, .int .i64 a0_1, .int .u32 a0_2, .int .u32 a0_3, .int .u32 a0_4] 25 (0, 0))) ∧ Aside0 (wc.heap[gb113]? = some (.cells #[.int .u32 a1_0, .int .i64 a1_1, .int .u32 a1_2, .int .u32 a1_3, .int .u32 a1_4] 25 (0, 0))) ∧ Aside0 (wc.heap[gb123]? = some (.cells #[.int .u32 t145, .int .i64 t146, .int .u32 t147, .int .u32 t148, .int .u32 t149] 25 (0, 0))) ∧ Aside0 (wc.heap[gb130]? = some (.cells #[.int .u32 t151, .int .i64 t152, .int .u32 t153, .int .u32 t154, .int .u32 t155] 25 (0, 0))) ∧ Aside0 (Below w.heap.size w wc))
                      case first =>
                        have H := HC83.out
                        clear HC83
                        by_cases c96 : t156 = 0
                        · rw [if_pos c96] at H
                          have c96b0 : (t156 == 0) = true := beq_iff_eq.mpr c96
                          have c96b1 : (t156 != 0) = false := bne_eq_false_iff_eq.mpr c96
                          clear c96
                          (first | rw [c96b0] | (simp only [i64_w, i32_w]; rw [c96b0]) | skip)
                          by_cases c97 : t150 = 0
                          · rw [if_pos c97] at H
                            have c97b0 : (t150 == 0) = true := beq_iff_eq.mpr c97
                            have c97b1 : (t150 != 0) = false := bne_eq_false_iff_eq.mpr c97
                            clear c97
                            replace H := Option.bind_eq_some_iff.mp H
                            obtain ⟨t157, A980, H⟩ := H
                            replace H : (watershedlaw04_StampAlong.j3 kj55 a2 (!t157) a0_0 a0_1 a0_2 a0_3 a0_4 a1_0 a1_1 a1_2 a1_3 a1_4) = some r := H
                            have A98 := Aside0.mk A980
                            clear A980
                            have H' := Aside0.mk H
                            clear H
                            have hnb99 := NB123_112.out
                            have hnc99 := NB112_123.out
                            have hnb100 := NB123_113.out
                            have hnc100 := NB113_123.out
                            have hnb101 := NB123_130.out
                            have hnc101 := NB130_123.out
                            obtain ⟨hcz102_0, hcz102_1, hcz102_2, hcz102_3, hcz102_4, hfz102_0, hfz102_1, hfz102_2, hfz102_3, hfz102_4⟩ := yC5 BK123
                            have hnb103 := NB130_112.out
                            have hnc103 := NB112_130.out
                            have hnb104 := NB130_113.out
                            have hnc104 := NB113_130.out
                            obtain ⟨hcz105_0, hcz105_1, hcz105_2, hcz105_3, hcz105_4, hfz105_0, hfz105_1, hfz105_2, hfz105_3, hfz105_4⟩ := yC5 BK130
                            go_wp2_with (first | (go_at_call 14; (with_reducible refine (stamp_LE.calls t145 t146 t147 t148 t149 t151 t152 t153 t154 t155 t157 _ A98.out).mono ?_); rintro e w106 ⟨rfl, hb⟩; have n0_ := yB BK112 hb; have n1_ := yB BK113 hb; have n2_ := yB BK123 hb; have n3_ := Aside0.mk (blk_below (g := gb130) (o := .cells #[.int .u32 t151, .int .i64 t152, .int .u32 t153, .int .u32 t154, .int .u32 t155] 25 (0, 0)) (by (with_reducible repeat (first | refine blk_drewN ?_ _ | refine blk_drew ?_ | refine blk_alloc ?_ _)); refine blk_put (cs := #[.int .u32 t151, .int .i64 t152, .int .u32 t153, .int .u32 t154, .int .u32 t142]) ?_ 4 _ rfl; (with_reducible repeat (first | refine blk_drewN ?_ _ | refine blk_drew ?_ | refine blk_alloc ?_ _)); refine blk_put (cs := #[.int .u32 t151, .int .i64 t152, .int .u32 t153, .int .u32 t141, .int .u32 t142]) ?_ 3 _ rfl; (with_reducible repeat (first | refine blk_drewN ?_ _ | refine blk_drew ?_ | refine blk_alloc ?_ _)); refine blk_put (cs := #[.int .u32 t151, .int .i64 t152, .int .u32 t140, .int .u32 t141, .int .u32 t142]) ?_ 2 _ rfl; (with_reducible repeat (first | refine blk_drewN ?_ _ | refine blk_drew ?_ | refine blk_alloc ?_ _)); refine blk_put (cs := #[.int .u32 t151, .int .i64 t139, .int .u32 t140, .int .u32 t141, .int .u32 t142]) ?_ 1 _ rfl; (with_reducible repeat (first | refine blk_drewN ?_ _ | refine blk_drew ?_ | refine blk_alloc ?_ _)); refine blk_put (cs := #[.int .u32 t138, .int .i64 t139, .int .u32 t140, .int .u32 t141, .int .u32 t142]) ?_ 0 _ rfl; (with_reducible repeat (first | refine blk_drewN ?_ _ | refine blk_drew ?_ | refine blk_alloc ?_ _)); exact BK130.out) hb); have n4_ := Aside0.mk (below_step zz2 hb); clear BK112; clear BK113; clear BK123; clear BK130; clear HB; have BK112 := n0_; have BK113 := n1_; have BK123 := n2_; have BK130 := n3_; have HB := n4_; clear n0_ n1_ n2_ n3_ n4_; (try clear hb); (try clear hb2); (try clear hk); (try clear hi)))
                            go_meet
                            case rel => exact ⟨_, (!t157), zz8, H', ⟨by have := HJ5.out; have := HJ26.out; have := HJ55.out; first | omega | exact Nat.le_refl _⟩, ⟨yF⟩, ⟨yF⟩, ⟨yF⟩, ⟨yF⟩, ⟨by repeat (first | (with_reducible first | exact HB.out | apply below_alloc | apply pw_below_drewN | apply below_drew1 | refine below_set ?_ GE112.out | refine below_set ?_ GE113.out | refine below_set ?_ GE123.out | refine below_set ?_ GE130.out) | exact HB.out)⟩⟩
                          · rw [if_neg c97] at H
                            have c97b0 : (t150 == 0) = false := beq_eq_false_iff_ne.mpr c97
                            have c97b1 : (t150 != 0) = true := bne_iff_ne.mpr c97
                            have H' := Aside0.mk H
                            clear H
                            go_wp2
                            go_meet
                            case rel => exact ⟨_, (true), zz8, H', ⟨by have := HJ5.out; have := HJ26.out; have := HJ55.out; first | omega | exact Nat.le_refl _⟩, ⟨yF⟩, ⟨yF⟩, ⟨yF⟩, ⟨by (with_reducible repeat (first | refine blk_drewN ?_ _ | refine blk_drew ?_ | refine blk_alloc ?_ _)); refine blk_put (cs := #[.int .u32 t151, .int .i64 t152, .int .u32 t153, .int .u32 t154, .int .u32 t142]) ?_ 4 _ rfl; (with_reducible repeat (first | refine blk_drewN ?_ _ | refine blk_drew ?_ | refine blk_alloc ?_ _)); refine blk_put (cs := #[.int .u32 t151, .int .i64 t152, .int .u32 t153, .int .u32 t141, .int .u32 t142]) ?_ 3 _ rfl; (with_reducible repeat (first | refine blk_drewN ?_ _ | refine blk_drew ?_ | refine blk_alloc ?_ _)); refine blk_put (cs := #[.int .u32 t151, .int .i64 t152, .int .u32 t140, .int .u32 t141, .int .u32 t142]) ?_ 2 _ rfl; (with_reducible repeat (first | refine blk_drewN ?_ _ | refine blk_drew ?_ | refine blk_alloc ?_ _)); refine blk_put (cs := #[.int .u32 t151, .int .i64 t139, .int .u32 t140, .int .u32 t141, .int .u32 t142]) ?_ 1 _ rfl; (with_reducible repeat (first | refine blk_drewN ?_ _ | refine blk_drew ?_ | refine blk_alloc ?_ _)); refine blk_put (cs := #[.int .u32 t138, .int .i64 t139, .int .u32 t140, .int .u32 t141, .int .u32 t142]) ?_ 0 _ rfl; (with_reducible repeat (first | refine blk_drewN ?_ _ | refine blk_drew ?_ | refine blk_alloc ?_ _)); exact BK130.out⟩, ⟨by repeat (first | (with_reducible first | exact HB.out | apply below_alloc | apply pw_below_drewN | apply below_drew1 | refine below_set ?_ GE112.out | refine below_set ?_ GE113.out | refine below_set ?_ GE123.out | refine below_set ?_ GE130.out) | exact HB.out)⟩⟩
                        · rw [if_neg c96] at H
                          have c96b0 : (t156 == 0) = false := beq_eq_false_iff_ne.mpr c96
                          have c96b1 : (t156 != 0) = true := bne_iff_ne.mpr c96
                          (first | rw [c96b0] | (simp only [i64_w, i32_w]; rw [c96b0]) | skip)
                          have H' := Aside0.mk H
                          clear H
                          go_wp2
                          go_meet
                          case rel => exact ⟨_, (false), zz8, H', ⟨by have := HJ5.out; have := HJ26.out; have := HJ55.out; first | omega | exact Nat.le_refl _⟩, ⟨yF⟩, ⟨yF⟩, ⟨yF⟩, ⟨by (with_reducible repeat (first | refine blk_drewN ?_ _ | refine blk_drew ?_ | refine blk_alloc ?_ _)); refine blk_put (cs := #[.int .u32 t151, .int .i64 t152, .int .u32 t153, .int .u32 t154, .int .u32 t142]) ?_ 4 _ rfl; (with_reducible repeat (first | refine blk_drewN ?_ _ | refine blk_drew ?_ | refine blk_alloc ?_ _)); refine blk_put (cs := #[.int .u32 t151, .int .i64 t152, .int .u32 t153, .int .u32 t141, .int .u32 t142]) ?_ 3 _ rfl; (with_reducible repeat (first | refine blk_drewN ?_ _ | refine blk_drew ?_ | refine blk_alloc ?_ _)); refine blk_put (cs := #[.int .u32 t151, .int .i64 t152, .int .u32 t140, .int .u32 t141, .int .u32 t142]) ?_ 2 _ rfl; (with_reducible repeat (first | refine blk_drewN ?_ _ | refine blk_drew ?_ | refine blk_alloc ?_ _)); refine blk_put (cs := #[.int .u32 t151, .int .i64 t139, .int .u32 t140, .int .u32 t141, .int .u32 t142]) ?_ 1 _ rfl; (with_reducible repeat (first | refine blk_drewN ?_ _ | refine blk_drew ?_ | refine blk_alloc ?_ _)); refine blk_put (cs := #[.int .u32 t138, .int .i64 t139, .int .u32 t140, .int .u32 t141, .int .u32 t142]) ?_ 0 _ rfl; (with_reducible repeat (first | refine blk_drewN ?_ _ | refine blk_drew ?_ | refine blk_alloc ?_ _)); exact BK130.out⟩, ⟨by repeat (first | (with_reducible first | exact HB.out | apply below_alloc | apply pw_below_drewN | apply below_drew1 | refine below_set ?_ GE112.out | refine below_set ?_ GE113.out | refine below_set ?_ GE123.out | refine below_set ?_ GE130.out) | exact HB.out)⟩⟩
                      case rest =>
                        clear HC83
                        (try clear c1); (try clear c2); (try clear p2); (try clear c3); (try clear c4); (try clear c5); (try clear c6); (try clear p6); (try clear c7); (try clear c8); (try clear c9); (try clear c10); (try clear c11); (try clear c12); (try clear c13); (try clear c16); (try clear c17); (try clear c18); (try clear c19); (try clear c20); (try clear c24); (try clear c28); (try clear c32); (try clear c33); (try clear c38); (try clear c39); (try clear c40); (try clear c42); (try clear c42b0); (try clear c42b1); (try clear c43); (try clear c43b0); (try clear c43b1); (try clear c45); (try clear c46); (try clear c47); (try clear c49); (try clear c50); (try clear c53); (try clear c57); (try clear c58); (try clear c59); (try clear c62); (try clear c63); (try clear p64); (try clear c65); (try clear c69); (try clear c69b0); (try clear c69b1); (try clear c70); (try clear c70b0); (try clear c70b1); (try clear c72); (try clear c73); (try clear c74); (try clear c76); (try clear c77); (try clear c80); (try clear c84); (try clear c85); (try clear c86); (try clear c89); (try clear c90); (try clear c92); (try clear c96); (try clear c96b0); (try clear c96b1); (try clear c97); (try clear c97b0); (try clear c97b1); (try clear c99); (try clear c100); (try clear c101); (try clear c103); (try clear c104); (try clear hcz102_0); (try clear hcz102_1); (try clear hcz102_2); (try clear hcz102_3); (try clear hcz102_4); (try clear hcz105_0); (try clear hcz105_1); (try clear hcz105_2); (try clear hcz105_3); (try clear hcz105_4); (try clear hcz14_0); (try clear hcz14_1); (try clear hcz14_2); (try clear hcz14_3); (try clear hcz14_4); (try clear hcz15_0); (try clear hcz15_1); (try clear hcz15_2); (try clear hcz15_3); (try clear hcz15_4); (try clear hcz17_0); (try clear hcz17_1); (try clear hcz17_2); (try clear hcz17_3); (try clear hcz17_4); (try clear hcz18_0); (try clear hcz18_1); (try clear hcz18_2); (try clear hcz18_3); (try clear hcz18_4); (try clear hcz21_0); (try clear hcz21_1); (try clear hcz21_2); (try clear hcz21_3); (try clear hcz21_4); (try clear hcz22_0); (try clear hcz22_1); (try clear hcz22_2); (try clear hcz22_3); (try clear hcz22_4); (try clear hcz29_0); (try clear hcz29_1); (try clear hcz29_2); (try clear hcz29_3); (try clear hcz29_4); (try clear hcz34_0); (try clear hcz34_1); (try clear hcz34_2); (try clear hcz34_3); (try clear hcz34_4); (try clear hcz35_0); (try clear hcz35_1); (try clear hcz35_2); (try clear hcz35_3); (try clear hcz35_4); (try clear hcz41_0); (try clear hcz41_1); (try clear hcz41_2); (try clear hcz41_3); (try clear hcz41_4); (try clear hcz48_0); (try clear hcz48_1); (try clear hcz48_2); (try clear hcz48_3); (try clear hcz48_4); (try clear hcz51_0); (try clear hcz51_1); (try clear hcz51_2); (try clear hcz51_3); (try clear hcz51_4); (try clear hcz60_0); (try clear hcz60_1); (try clear hcz60_2); (try clear hcz60_3); (try clear hcz60_4); (try clear hcz64_0); (try clear hcz64_1); (try clear hcz64_2); (try clear hcz64_3); (try clear hcz64_4); (try clear hcz66_0); (try clear hcz66_1); (try clear hcz66_2); (try clear hcz66_3); (try clear hcz66_4); (try clear hcz68_0); (try clear hcz68_1); (try clear hcz68_2); (try clear hcz68_3); (try clear hcz68_4); (try clear hcz75_0); (try clear hcz75_1); (try clear hcz75_2); (try clear hcz75_3); (try clear hcz75_4); (try clear hcz78_0); (try clear hcz78_1); (try clear hcz78_2); (try clear hcz78_3); (try clear hcz78_4); (try clear hcz87_0); (try clear hcz87_1); (try clear hcz87_2); (try clear hcz87_3); (try clear hcz87_4); (try clear hcz91_0); (try clear hcz91_1); (try clear hcz91_2); (try clear hcz91_3); (try clear hcz91_4); (try clear hcz93_0); (try clear hcz93_1); (try clear hcz93_2); (try clear hcz93_3); (try clear hcz93_4); (try clear hcz95_0); (try clear hcz95_1); (try clear hcz95_2); (try clear hcz95_3); (try clear hcz95_4); (try clear hfz102_0); (try clear hfz102_1); (try clear hfz102_2); (try clear hfz102_3); (try clear hfz102_4); (try clear hfz105_0); (try clear hfz105_1); (try clear hfz105_2); (try clear hfz105_3); (try clear hfz105_4); (try clear hfz14_0); (try clear hfz14_1); (try clear hfz14_2); (try clear hfz14_3); (try clear hfz14_4); (try clear hfz15_0); (try clear hfz15_1); (try clear hfz15_2); (try clear hfz15_3); (try clear hfz15_4); (try clear hfz17_0); (try clear hfz17_1); (try clear hfz17_2); (try clear hfz17_3); (try clear hfz17_4); (try clear hfz18_0); (try clear hfz18_1); (try clear hfz18_2); (try clear hfz18_3); (try clear hfz18_4); (try clear hfz21_0); (try clear hfz21_1); (try clear hfz21_2); (try clear hfz21_3); (try clear hfz21_4); (try clear hfz22_0); (try clear hfz22_1); (try clear hfz22_2); (try clear hfz22_3); (try clear hfz22_4); (try clear hfz29_0); (try clear hfz29_1); (try clear hfz29_2); (try clear hfz29_3); (try clear hfz29_4); (try clear hfz34_0); (try clear hfz34_1); (try clear hfz34_2); (try clear hfz34_3); (try clear hfz34_4); (try clear hfz35_0); (try clear hfz35_1); (try clear hfz35_2); (try clear hfz35_3); (try clear hfz35_4); (try clear hfz41_0); (try clear hfz41_1); (try clear hfz41_2); (try clear hfz41_3); (try clear hfz41_4); (try clear hfz48_0); (try clear hfz48_1); (try clear hfz48_2); (try clear hfz48_3); (try clear hfz48_4); (try clear hfz51_0); (try clear hfz51_1); (try clear hfz51_2); (try clear hfz51_3); (try clear hfz51_4); (try clear hfz60_0); (try clear hfz60_1); (try clear hfz60_2); (try clear hfz60_3); (try clear hfz60_4); (try clear hfz64_0); (try clear hfz64_1); (try clear hfz64_2); (try clear hfz64_3); (try clear hfz64_4); (try clear hfz66_0); (try clear hfz66_1); (try clear hfz66_2); (try clear hfz66_3); (try clear hfz66_4); (try clear hfz68_0); (try clear hfz68_1); (try clear hfz68_2); (try clear hfz68_3); (try clear hfz68_4); (try clear hfz75_0); (try clear hfz75_1); (try clear hfz75_2); (try clear hfz75_3); (try clear hfz75_4); (try clear hfz78_0); (try clear hfz78_1); (try clear hfz78_2); (try clear hfz78_3); (try clear hfz78_4); (try clear hfz87_0); (try clear hfz87_1); (try clear hfz87_2); (try clear hfz87_3); (try clear hfz87_4); (try clear hfz91_0); (try clear hfz91_1); (try clear hfz91_2); (try clear hfz91_3); (try clear hfz91_4); (try clear hfz93_0); (try clear hfz93_1); (try clear hfz93_2); (try clear hfz93_3); (try clear hfz93_4); (try clear hfz95_0); (try clear hfz95_1); (try clear hfz95_2); (try clear hfz95_3); (try clear hfz95_4); (try clear p2); (try clear p6); (try clear p64)
                        obtain ⟨kq, x91_82, rfl, HA, HJ82, BK112, BK113, BK123, BK130, HB⟩ := hcut
                        cases kq with
                        | zero => exact absurd HA.out (by simp [watershedlaw04_StampAlong.j3])
                        | succ kj82 =>
                          have H := HA.out
                          clear HA
                          simp only [watershedlaw04_StampAlong.j3] at H
                          by_cases c107 : x91_82 = true
                          · subst c107
                            have H1 : (none) = some r := by rw [if_pos rfl] at H; exact H
                            clear H
                            have H := H1
                            clear H1
                            exact absurd H (by simp)
                          · replace c107 := Bool.eq_false_iff.mpr c107
                            subst c107
                            have H1 : ((stamp_Later.f a0_0 a0_1 a0_2 a0_3 a0_4 a2).bind fun bt158 => ((stamp_Later.f a1_0 a1_1 a1_2 a1_3 a1_4 a2).bind fun bt164 => (if bt164.2.2.2.2.2 = 0 then (if bt158.2.2.2.2.2 = 0 then ((stamp_LE.f bt158.1 bt158.2.1 bt158.2.2.1 bt158.2.2.2.1 bt158.2.2.2.2.1 bt164.1 bt164.2.1 bt164.2.2.1 bt164.2.2.2.1 bt164.2.2.2.2.1).bind fun t170 => (some t170)) else (none)) else (some true)))) = some r := by rw [if_neg (show ¬ (false = true) by decide)] at H; exact H
                            clear H
                            have H := H1
                            clear H1
                            replace H := Option.bind_eq_some_iff.mp H
                            obtain ⟨⟨t158, t159, t160, t161, t162, t163⟩, A1080, H⟩ := H
                            replace H : ((stamp_Later.f a1_0 a1_1 a1_2 a1_3 a1_4 a2).bind fun bt164 => (if bt164.2.2.2.2.2 = 0 then (if t163 = 0 then ((stamp_LE.f t158 t159 t160 t161 t162 bt164.1 bt164.2.1 bt164.2.2.1 bt164.2.2.2.1 bt164.2.2.2.2.1).bind fun t170 => (some t170)) else (none)) else (some true))) = some r := H
                            have A108 := Aside0.mk A1080
                            clear A1080
                            replace H := Option.bind_eq_some_iff.mp H
                            obtain ⟨⟨t164, t165, t166, t167, t168, t169⟩, A1090, H⟩ := H
                            replace H : (if t169 = 0 then (if t163 = 0 then ((stamp_LE.f t158 t159 t160 t161 t162 t164 t165 t166 t167 t168).bind fun t170 => (some t170)) else (none)) else (some true)) = some r := H
                            have A109 := Aside0.mk A1090
                            clear A1090
                            by_cases c110 : t169 = 0
                            · rw [if_pos c110] at H
                              have c110b0 : (t169 == 0) = true := beq_iff_eq.mpr c110
                              have c110b1 : (t169 != 0) = false := bne_eq_false_iff_eq.mpr c110
                              clear c110
                              by_cases c111 : t163 = 0
                              · rw [if_pos c111] at H
                                have c111b0 : (t163 == 0) = true := beq_iff_eq.mpr c111
                                have c111b1 : (t163 != 0) = false := bne_eq_false_iff_eq.mpr c111
                                clear c111
                                replace H := Option.bind_eq_some_iff.mp H
                                obtain ⟨t170, A1120, H⟩ := H
                                replace H : (some t170) = some r := H
                                have A112 := Aside0.mk A1120
                                clear A1120
                                obtain rfl := Option.some.inj H
                                have hnb113 := NB112_113.out
                                have hnc113 := NB113_112.out
                                have hnb114 := NB112_123.out
                                have hnc114 := NB123_112.out
                                have hnb115 := NB112_130.out
                                have hnc115 := NB130_112.out
                                obtain ⟨hcz116_0, hcz116_1, hcz116_2, hcz116_3, hcz116_4, hfz116_0, hfz116_1, hfz116_2, hfz116_3, hfz116_4⟩ := yC5 BK112
                                go_wp2_with (first | ((with_reducible refine gate_callee (f := 20) rfl ?_); refine goesL_ (some 95) rfl rfl Tryd.func20 (by kernel_rfl) rfl #[.agg #[.int .u32 a0_0, .int .i64 a0_1, .int .u32 a0_2, .int .u32 a0_3, .int .u32 a0_4], .int .u32 a2] rfl zz1 ?_; (with_reducible refine (stamp_Later.calls a0_0 a0_1 a0_2 a0_3 a0_4 a2 t158 t159 t160 t161 t162 t163 _ A108.out).mono ?_); rintro e w117 ⟨rfl, hb⟩; refine ⟨_, rfl, ?_⟩; have n0_ := yB BK112 hb; have n1_ := yB BK113 hb; have n2_ := yB BK123 hb; have n3_ := yB BK130 hb; have n4_ := Aside0.mk (below_step zz2 hb); clear BK112; clear BK113; clear BK123; clear BK130; clear HB; have BK112 := n0_; have BK113 := n1_; have BK123 := n2_; have BK130 := n3_; have HB := n4_; clear n0_ n1_ n2_ n3_ n4_; (try clear hb); (try clear hb2); (try clear hk); (try clear hi); have hnb118 := NB123_113.out; have hnc118 := NB113_123.out; have hnb119 := NB123_130.out; have hnc119 := NB130_123.out; obtain ⟨hcz120_0, hcz120_1, hcz120_2, hcz120_3, hcz120_4, hfz120_0, hfz120_1, hfz120_2, hfz120_3, hfz120_4⟩ := yC5 BK123; have hnb121 := NB113_130.out; have hnc121 := NB130_113.out; obtain ⟨hcz122_0, hcz122_1, hcz122_2, hcz122_3, hcz122_4, hfz122_0, hfz122_1, hfz122_2, hfz122_3, hfz122_4⟩ := yC5 BK113) | ((with_reducible refine gate_callee (f := 20) rfl ?_); refine goesL_ (some 101) rfl rfl Tryd.func20 (by kernel_rfl) rfl #[.agg #[.int .u32 a1_0, .int .i64 a1_1, .int .u32 a1_2, .int .u32 a1_3, .int .u32 a1_4], .int .u32 a2] rfl zz1 ?_; (with_reducible refine (stamp_Later.calls a1_0 a1_1 a1_2 a1_3 a1_4 a2 t164 t165 t166 t167 t168 t169 _ A109.out).mono ?_); rintro e w123 ⟨rfl, hb⟩; refine ⟨_, rfl, ?_⟩; have n0_ := yB BK112 hb; have n1_ := yB BK113 hb; have n2_ := Aside0.mk (blk_below (g := gb123) (o := .cells #[.int .u32 t158, .int .i64 t159, .int .u32 t160, .int .u32 t161, .int .u32 t162] 25 (0, 0)) zz9 hb); have n3_ := yB BK130 hb; have n4_ := Aside0.mk (below_step zz2 hb); clear BK112; clear BK113; clear BK123; clear BK130; clear HB; have BK112 := n0_; have BK113 := n1_; have BK123 := n2_; have BK130 := n3_; have HB := n4_; clear n0_ n1_ n2_ n3_ n4_; (try clear hb); (try clear hb2); (try clear hk); (try clear hi); obtain ⟨hcz124_0, hcz124_1, hcz124_2, hcz124_3, hcz124_4, hfz124_0, hfz124_1, hfz124_2, hfz124_3, hfz124_4⟩ := yC5 BK130; obtain ⟨hcz125_0, hcz125_1, hcz125_2, hcz125_3, hcz125_4, hfz125_0, hfz125_1, hfz125_2, hfz125_3, hfz125_4⟩ := yC5 BK123) | (go_at_call 14; (with_reducible refine (stamp_LE.calls t158 t159 t160 t161 t162 t164 t165 t166 t167 t168 t170 _ A112.out).mono ?_); rintro e w126 ⟨rfl, hb⟩; have n0_ := yB BK112 hb; have n1_ := yB BK113 hb; have n2_ := yB BK123 hb; have n3_ := Aside0.mk (blk_below (g := gb130) (o := .cells #[.int .u32 t164, .int .i64 t165, .int .u32 t166, .int .u32 t167, .int .u32 t168] 25 (0, 0)) (by (with_reducible repeat (first | refine blk_drewN ?_ _ | refine blk_drew ?_ | refine blk_alloc ?_ _)); refine blk_put (cs := #[.int .u32 t164, .int .i64 t165, .int .u32 t166, .int .u32 t167, .int .u32 t155]) ?_ 4 _ rfl; (with_reducible repeat (first | refine blk_drewN ?_ _ | refine blk_drew ?_ | refine blk_alloc ?_ _)); refine blk_put (cs := #[.int .u32 t164, .int .i64 t165, .int .u32 t166, .int .u32 t154, .int .u32 t155]) ?_ 3 _ rfl; (with_reducible repeat (first | refine blk_drewN ?_ _ | refine blk_drew ?_ | refine blk_alloc ?_ _)); refine blk_put (cs := #[.int .u32 t164, .int .i64 t165, .int .u32 t153, .int .u32 t154, .int .u32 t155]) ?_ 2 _ rfl; (with_reducible repeat (first | refine blk_drewN ?_ _ | refine blk_drew ?_ | refine blk_alloc ?_ _)); refine blk_put (cs := #[.int .u32 t164, .int .i64 t152, .int .u32 t153, .int .u32 t154, .int .u32 t155]) ?_ 1 _ rfl; (with_reducible repeat (first | refine blk_drewN ?_ _ | refine blk_drew ?_ | refine blk_alloc ?_ _)); refine blk_put (cs := #[.int .u32 t151, .int .i64 t152, .int .u32 t153, .int .u32 t154, .int .u32 t155]) ?_ 0 _ rfl; (with_reducible repeat (first | refine blk_drewN ?_ _ | refine blk_drew ?_ | refine blk_alloc ?_ _)); exact BK130.out) hb); have n4_ := Aside0.mk (below_step zz2 hb); clear BK112; clear BK113; clear BK123; clear BK130; clear HB; have BK112 := n0_; have BK113 := n1_; have BK123 := n2_; have BK130 := n3_; have HB := n4_; clear n0_ n1_ n2_ n3_ n4_; (try clear hb); (try clear hb2); (try clear hk); (try clear hi)))
                                go_ret
                                exact ⟨by first | rfl | (simp [errW_none, errW_some] <;> rfl) | (simp [*, errW_none, errW_some] <;> rfl), by repeat (first | (with_reducible first | exact HB.out | apply below_alloc | apply pw_below_drewN | apply below_drew1 | refine below_set ?_ GE112.out | refine below_set ?_ GE113.out | refine below_set ?_ GE123.out | refine below_set ?_ GE130.out) | exact HB.out)⟩
                              · rw [if_neg c111] at H
                                exact absurd H (by simp)
                            · rw [if_neg c110] at H
                              have c110b0 : (t169 == 0) = false := beq_eq_false_iff_ne.mpr c110
                              have c110b1 : (t169 != 0) = true := bne_iff_ne.mpr c110
                              obtain rfl := Option.some.inj H
                              have hnb127 := NB112_113.out
                              have hnc127 := NB113_112.out
                              have hnb128 := NB112_123.out
                              have hnc128 := NB123_112.out
                              have hnb129 := NB112_130.out
                              have hnc129 := NB130_112.out
                              obtain ⟨hcz130_0, hcz130_1, hcz130_2, hcz130_3, hcz130_4, hfz130_0, hfz130_1, hfz130_2, hfz130_3, hfz130_4⟩ := yC5 BK112
                              go_wp2_with (first | ((with_reducible refine gate_callee (f := 20) rfl ?_); refine goesL_ (some 95) rfl rfl Tryd.func20 (by kernel_rfl) rfl #[.agg #[.int .u32 a0_0, .int .i64 a0_1, .int .u32 a0_2, .int .u32 a0_3, .int .u32 a0_4], .int .u32 a2] rfl zz1 ?_; (with_reducible refine (stamp_Later.calls a0_0 a0_1 a0_2 a0_3 a0_4 a2 t158 t159 t160 t161 t162 t163 _ A108.out).mono ?_); rintro e w131 ⟨rfl, hb⟩; refine ⟨_, rfl, ?_⟩; have n0_ := yB BK112 hb; have n1_ := yB BK113 hb; have n2_ := yB BK123 hb; have n3_ := yB BK130 hb; have n4_ := Aside0.mk (below_step zz2 hb); clear BK112; clear BK113; clear BK123; clear BK130; clear HB; have BK112 := n0_; have BK113 := n1_; have BK123 := n2_; have BK130 := n3_; have HB := n4_; clear n0_ n1_ n2_ n3_ n4_; (try clear hb); (try clear hb2); (try clear hk); (try clear hi); have hnb132 := NB123_113.out; have hnc132 := NB113_123.out; have hnb133 := NB123_130.out; have hnc133 := NB130_123.out; obtain ⟨hcz134_0, hcz134_1, hcz134_2, hcz134_3, hcz134_4, hfz134_0, hfz134_1, hfz134_2, hfz134_3, hfz134_4⟩ := yC5 BK123; have hnb135 := NB113_130.out; have hnc135 := NB130_113.out; obtain ⟨hcz136_0, hcz136_1, hcz136_2, hcz136_3, hcz136_4, hfz136_0, hfz136_1, hfz136_2, hfz136_3, hfz136_4⟩ := yC5 BK113) | ((with_reducible refine gate_callee (f := 20) rfl ?_); refine goesL_ (some 101) rfl rfl Tryd.func20 (by kernel_rfl) rfl #[.agg #[.int .u32 a1_0, .int .i64 a1_1, .int .u32 a1_2, .int .u32 a1_3, .int .u32 a1_4], .int .u32 a2] rfl zz1 ?_; (with_reducible refine (stamp_Later.calls a1_0 a1_1 a1_2 a1_3 a1_4 a2 t164 t165 t166 t167 t168 t169 _ A109.out).mono ?_); rintro e w137 ⟨rfl, hb⟩; refine ⟨_, rfl, ?_⟩; have n0_ := yB BK112 hb; have n1_ := yB BK113 hb; have n2_ := Aside0.mk (blk_below (g := gb123) (o := .cells #[.int .u32 t158, .int .i64 t159, .int .u32 t160, .int .u32 t161, .int .u32 t162] 25 (0, 0)) zz9 hb); have n3_ := yB BK130 hb; have n4_ := Aside0.mk (below_step zz2 hb); clear BK112; clear BK113; clear BK123; clear BK130; clear HB; have BK112 := n0_; have BK113 := n1_; have BK123 := n2_; have BK130 := n3_; have HB := n4_; clear n0_ n1_ n2_ n3_ n4_; (try clear hb); (try clear hb2); (try clear hk); (try clear hi); obtain ⟨hcz138_0, hcz138_1, hcz138_2, hcz138_3, hcz138_4, hfz138_0, hfz138_1, hfz138_2, hfz138_3, hfz138_4⟩ := yC5 BK130))
                              go_ret
                              exact ⟨by first | rfl | (simp [errW_none, errW_some] <;> rfl) | (simp [*, errW_none, errW_some] <;> rfl), by repeat (first | (with_reducible first | exact HB.out | apply below_alloc | apply pw_below_drewN | apply below_drew1 | refine below_set ?_ GE112.out | refine below_set ?_ GE113.out | refine below_set ?_ GE123.out | refine below_set ?_ GE130.out) | exact HB.out)⟩
  · replace c5 := Bool.eq_false_iff.mpr c5
    subst c5
    have H1 : (none) = some r := by rw [if_neg (show ¬ (false = true) by decide)] at H; exact H
    clear H
    have H := H1
    clear H1
    exact absurd H (by simp)

end Go.Proofs.YtjkbgcdhhiakmaaDoor.Q04A
