-- Laid by wip/pp.py for this seat.
import Derived.Test.YtjkbgcdhhiakmaaDoorQ04Kx0
import Derived.Test.YtjkbgcdhhiakmaaDoorQ04Kx1
import Derived.Test.YtjkbgcdhhiakmaaDoorQ04Kx2
import Derived.Test.YtjkbgcdhhiakmaaDoorX04
import Derived.Test.YtjkbgcdhhiakmaaDoorX04k
import Derived.Test.YtjkbgcdhhiakmaaDoorX04o
import Derived.Test.YtjkbgcdhhiakmaaDoorX04p
import Derived.Test.YtjkbgcdhhiakmaaDoorX04t
import Derived.Test.YtjkbgcdhhiakmaaDoorX04w
namespace Go.Proofs.YtjkbgcdhhiakmaaDoor.Q04K
open Go.RowKit Go.Proofs.YtjkbgcdhhiakmaaDoorW.PrintWords Go.Proofs.YtjkbgcdhhiakmaaDoorW.PrintLast Go.Proofs.YtjkbgcdhhiakmaaDoorW.PrintMore
attribute [local go_sem] max2_int min2_int max_two min_two max_three min_three max_four min_four   -- for this text's walks alone
set_option linter.unusedVariables false
set_option linter.unusedSimpArgs false

open Go.Proofs.YtjkbgcdhhiakmaaDoor.Ext
attribute [local go_sem high] eqA25
/-! ### watershedlaw04_StampBack: function 6 -/
mutual
def watershedlaw04_StampBack.j0 : Nat → Int → Int → Int → Int → Int → Int → Option (Bool)
  | 0, _, _, _, _, _, _ => none
  | k + 1, x1, x132000, x132001, x132002, x132003, x132004 => (stamp_Later.f x132000 x132001 x132002 x132003 x132004 x1).bind fun bt164 => (if bt164.2.2.2.2.2 = 0 then ((stamp_LE.f x132000 x132001 x132002 x132003 x132004 bt164.1 bt164.2.1 bt164.2.2.1 bt164.2.2.2.1 bt164.2.2.2.2.1).bind fun t171 => (if t171 = true then (if x1 > 0 then ((stamp_LE.f bt164.1 bt164.2.1 bt164.2.2.1 bt164.2.2.2.1 bt164.2.2.2.2.1 x132000 x132001 x132002 x132003 x132004).bind fun t172 => (watershedlaw04_StampBack.j1 k t172 x132000 x132001 x132002 x132003 x132004)) else (watershedlaw04_StampBack.j1 k false x132000 x132001 x132002 x132003 x132004)) else (watershedlaw04_StampBack.j1 k true x132000 x132001 x132002 x132003 x132004))) else (watershedlaw04_StampBack.j1 k false x132000 x132001 x132002 x132003 x132004))
def watershedlaw04_StampBack.j1 : Nat → Bool → Int → Int → Int → Int → Int → Option (Bool)
  | 0, _, _, _, _, _, _ => none
  | k + 1, x101, x132000, x132001, x132002, x132003, x132004 => if x101 = true then (none) else ((stamp_Text.f x132000 x132001 x132002 x132003 x132004).bind fun bt173 => ((stamp_Parse.f bt173.1).bind fun bt175 => ((stamp_Write.f x132000 x132001 x132002 x132003 x132004).bind fun bt182 => ((code_New.f bt182.1).bind fun bt184 => (if bt173.2 = 0 then (if bt175.2.2.2.2.2 = 0 then (if (bt175.1 == x132000 && (bt175.2.1 == x132001 && ((bt175.2.2.1 == x132002 && (bt175.2.2.2.1 == x132003 && (bt175.2.2.2.2.1 == x132004)))))) = true then (if bt182.2 = 0 then ((stamp_Read.f k bt184.1 bt184.2).bind fun bt187 => (if (bt187.1 == x132000 && (bt187.2.1 == x132001 && ((bt187.2.2.1 == x132002 && (bt187.2.2.2.1 == x132003 && (bt187.2.2.2.2.1 == x132004)))))) = true then ((code_Reader_End.f bt187.2.2.2.2.2.1 bt187.2.2.2.2.2.2).bind fun bt194 => (some (bt194.1 == 0))) else (none))) else (none)) else (none)) else (none)) else (none))))))
end
def watershedlaw04_StampBack.f (k : Nat) (a0_0 : Int) (a0_1 : Int) (a0_2 : Int) (a0_3 : Int) (a0_4 : Int) (a1 : Int) : Option (Bool) := (watershedlaw04_works.f).bind fun t132 => (if t132 = true then ((ref_chk.f a0_0 a0_1 a0_2 a0_3 a0_4).bind fun t133 => (if t133 = 0 then ((stamp_Enter.f a0_0 a0_1 a0_2 a0_3 a0_4).bind fun bt134 => (if bt134.2.2.2.2.2 = 0 then ((stamp_Leave.f bt134.1 bt134.2.1 bt134.2.2.1 bt134.2.2.2.1 bt134.2.2.2.2.1).bind fun bt141 => ((stamp_Next.f bt134.1 bt134.2.1 bt134.2.2.1 bt134.2.2.2.1 bt134.2.2.2.2.1).bind fun bt148 => ((stamp_Leave.f bt148.1 bt148.2.1 bt148.2.2.1 bt148.2.2.2.1 bt148.2.2.2.2.1).bind fun bt155 => (if bt141.2.2.2.2.2 = 0 then (if (!(bt141.1 == a0_0) || (!(bt141.2.1 == a0_1) || ((!(bt141.2.2.1 == a0_2) || (!(bt141.2.2.2.1 == a0_3) || (!(bt141.2.2.2.2.1 == a0_4))))))) = true then (none) else (if bt148.2.2.2.2.2 = 0 then ((stamp_LE.f bt134.1 bt134.2.1 bt134.2.2.1 bt134.2.2.2.1 bt134.2.2.2.2.1 bt148.1 bt148.2.1 bt148.2.2.1 bt148.2.2.2.1 bt148.2.2.2.2.1).bind fun t162 => (if t162 = true then ((stamp_LE.f bt148.1 bt148.2.1 bt148.2.2.1 bt148.2.2.2.1 bt148.2.2.2.2.1 bt134.1 bt134.2.1 bt134.2.2.1 bt134.2.2.2.1 bt134.2.2.2.2.1).bind fun t163 => (if t163 = true then (none) else (if bt155.2.2.2.2.2 = 0 then (if (!(bt155.1 == a0_0) || (!(bt155.2.1 == a0_1) || ((!(bt155.2.2.1 == a0_2) || (!(bt155.2.2.2.1 == a0_3) || (!(bt155.2.2.2.2.1 == a0_4))))))) = true then (none) else (watershedlaw04_StampBack.j0 k a1 a0_0 a0_1 a0_2 a0_3 a0_4)) else (none)))) else (none))) else (none))) else (none))))) else (watershedlaw04_StampBack.j0 k a1 a0_0 a0_1 a0_2 a0_3 a0_4))) else (some true))) else (none))
theorem watershedlaw04_StampBack.mono_l : ∀ k, (∀ y0 y1 y2 y3 y4 y5, LeO (watershedlaw04_StampBack.j0 k y0 y1 y2 y3 y4 y5) (watershedlaw04_StampBack.j0 (k + 1) y0 y1 y2 y3 y4 y5)) ∧ (∀ y0 y1 y2 y3 y4 y5, LeO (watershedlaw04_StampBack.j1 k y0 y1 y2 y3 y4 y5) (watershedlaw04_StampBack.j1 (k + 1) y0 y1 y2 y3 y4 y5))
  | 0 => ⟨fun _ _ _ _ _ _ r h => by simp [watershedlaw04_StampBack.j0] at h, fun _ _ _ _ _ _ r h => by simp [watershedlaw04_StampBack.j1] at h⟩
  | k + 1 => by
    obtain ⟨ih0, ih1⟩ := watershedlaw04_StampBack.mono_l k
    refine ⟨?_, ?_⟩
    · intro y0 y1 y2 y3 y4 y5
      unfold watershedlaw04_StampBack.j0
      repeat' first
      | (with_reducible exact ih0 _ _ _ _ _ _)
      | (with_reducible exact ih1 _ _ _ _ _ _)
      | (with_reducible exact stamp_Read.mono _ _ _)
      | (with_reducible exact LeO.refl _)
      | (with_reducible exact LeO.none _)
      | (with_reducible refine LeO.ite ?_ ?_)
      | (with_reducible refine LeO.bind ?_ (fun _ => ?_))
      | exact ih0 _ _ _ _ _ _
      | exact ih1 _ _ _ _ _ _
      | exact stamp_Read.mono _ _ _
      | exact LeO.none _
      | refine LeO.ite ?_ ?_
      | refine LeO.bind ?_ (fun _ => ?_)
    · intro y0 y1 y2 y3 y4 y5
      unfold watershedlaw04_StampBack.j1
      repeat' first
      | (with_reducible exact ih0 _ _ _ _ _ _)
      | (with_reducible exact ih1 _ _ _ _ _ _)
      | (with_reducible exact stamp_Read.mono _ _ _)
      | (with_reducible exact LeO.refl _)
      | (with_reducible exact LeO.none _)
      | (with_reducible refine LeO.ite ?_ ?_)
      | (with_reducible refine LeO.bind ?_ (fun _ => ?_))
      | exact ih0 _ _ _ _ _ _
      | exact ih1 _ _ _ _ _ _
      | exact stamp_Read.mono _ _ _
      | exact LeO.none _
      | refine LeO.ite ?_ ?_
      | refine LeO.bind ?_ (fun _ => ?_)
theorem watershedlaw04_StampBack.mono : ∀ a0 a1 a2 a3 a4 a5 k, LeO (watershedlaw04_StampBack.f k a0 a1 a2 a3 a4 a5) (watershedlaw04_StampBack.f (k + 1) a0 a1 a2 a3 a4 a5) := by
  intro a0 a1 a2 a3 a4 a5 k
  obtain ⟨ih0, ih1⟩ := watershedlaw04_StampBack.mono_l k
  unfold watershedlaw04_StampBack.f
  repeat' first
      | (with_reducible exact ih0 _ _ _ _ _ _)
      | (with_reducible exact ih1 _ _ _ _ _ _)
      | (with_reducible exact stamp_Read.mono _ _ _)
      | (with_reducible exact LeO.refl _)
      | (with_reducible exact LeO.none _)
      | (with_reducible refine LeO.ite ?_ ?_)
      | (with_reducible refine LeO.bind ?_ (fun _ => ?_))
      | exact ih0 _ _ _ _ _ _
      | exact ih1 _ _ _ _ _ _
      | exact stamp_Read.mono _ _ _
      | exact LeO.none _
      | refine LeO.ite ?_ ?_
      | refine LeO.bind ?_ (fun _ => ?_)
def watershedlaw04_StampBack.T19 : Bool × List (List Nat × List Nat) := (true, [([], []), ([0], [0]), ([1], [1]), ([2], [2]), ([3, 2], [2, 3]), ([2, 4], [2, 4]), ([5, 2], [5]), ([6], [6]), ([6], [6]), ([7, 8, 6], [6, 7, 8]), ([6, 9], [6, 9]), ([10, 6], [10]), ([11], [11]), ([12, 11], [11, 12]), ([11, 13], [11, 13]), ([14, 11], [14]), ([15], [15]), ([16, 15, 15], [15, 16]), ([15], [15]), ([17, 18, 15], [15, 17, 18]), ([15, 19], [15, 19]), ([20, 17], [20]), ([21], [21]), ([22, 21, 21], [21, 22]), ([23, 21], [21, 23]), ([21, 24], [21, 24]), ([25, 23, 0, 1, 2, 3, 4, 5, 6, 7, 8, 9, 10, 11, 12, 13, 14, 15, 16, 17, 18, 19, 20, 21, 22, 23, 24, 25], [25])])
def watershedlaw04_StampBack.B19 : List Nat := [0, 1, 3, 7, 15, 31, 63, 127, 127, 511, 1023, 2047, 4095, 8191, 16383, 32767, 65535, 131071, 65535, 524287, 1048575, 2097151, 4194303, 8388607, 16777215, 33554431, 67108863]
theorem watershedlaw04_StampBack.tab19 : rtab .any (opsOf Tryd.f6 19) = watershedlaw04_StampBack.T19 := by kernel_rfl
theorem watershedlaw04_StampBack.bits19 : waitsOk watershedlaw04_StampBack.T19.2 watershedlaw04_StampBack.B19 = true := by kernel_rfl
set_option maxHeartbeats 8000000 in
set_option maxRecDepth 100000 in
theorem watershedlaw04_StampBack.calls (k : Nat) (a0_0 : Int) (a0_1 : Int) (a0_2 : Int) (a0_3 : Int) (a0_4 : Int) (a1 : Int) (r : Bool) (w : World) (h : watershedlaw04_StampBack.f k a0_0 a0_1 a0_2 a0_3 a0_4 a1 = some r) (HV : Aside0 (VARS w) := by first | exact HV | exact ⟨Ext.vars_below HV.out (by repeat (first | (with_reducible first | exact HB.out | apply below_alloc | apply pw_below_drewN | apply below_drew1 | refine below_set ?_ (Aside0.out (by assumption))) | exact HB.out))⟩) :
    Calls Tryd.prog 6 #[.agg #[.int .u32 a0_0, .int .i64 a0_1, .int .u32 a0_2, .int .u32 a0_3, .int .u32 a0_4], .int .u32 a1] w fun e w' => e = .returned (.bool r) ∧ Below w.heap.size w w' := by
  have hu25 := Tryd.underlying25
  have HB := Aside0.mk (Below.refl w.heap.size w)
  have H : ((watershedlaw04_works.f).bind fun t132 => (if t132 = true then ((ref_chk.f a0_0 a0_1 a0_2 a0_3 a0_4).bind fun t133 => (if t133 = 0 then ((stamp_Enter.f a0_0 a0_1 a0_2 a0_3 a0_4).bind fun bt134 => (if bt134.2.2.2.2.2 = 0 then ((stamp_Leave.f bt134.1 bt134.2.1 bt134.2.2.1 bt134.2.2.2.1 bt134.2.2.2.2.1).bind fun bt141 => ((stamp_Next.f bt134.1 bt134.2.1 bt134.2.2.1 bt134.2.2.2.1 bt134.2.2.2.2.1).bind fun bt148 => ((stamp_Leave.f bt148.1 bt148.2.1 bt148.2.2.1 bt148.2.2.2.1 bt148.2.2.2.2.1).bind fun bt155 => (if bt141.2.2.2.2.2 = 0 then (if (!(bt141.1 == a0_0) || (!(bt141.2.1 == a0_1) || ((!(bt141.2.2.1 == a0_2) || (!(bt141.2.2.2.1 == a0_3) || (!(bt141.2.2.2.2.1 == a0_4))))))) = true then (none) else (if bt148.2.2.2.2.2 = 0 then ((stamp_LE.f bt134.1 bt134.2.1 bt134.2.2.1 bt134.2.2.2.1 bt134.2.2.2.2.1 bt148.1 bt148.2.1 bt148.2.2.1 bt148.2.2.2.1 bt148.2.2.2.2.1).bind fun t162 => (if t162 = true then ((stamp_LE.f bt148.1 bt148.2.1 bt148.2.2.1 bt148.2.2.2.1 bt148.2.2.2.2.1 bt134.1 bt134.2.1 bt134.2.2.1 bt134.2.2.2.1 bt134.2.2.2.2.1).bind fun t163 => (if t163 = true then (none) else (if bt155.2.2.2.2.2 = 0 then (if (!(bt155.1 == a0_0) || (!(bt155.2.1 == a0_1) || ((!(bt155.2.2.1 == a0_2) || (!(bt155.2.2.2.1 == a0_3) || (!(bt155.2.2.2.2.1 == a0_4))))))) = true then (none) else (watershedlaw04_StampBack.j0 k a1 a0_0 a0_1 a0_2 a0_3 a0_4)) else (none)))) else (none))) else (none))) else (none))))) else (watershedlaw04_StampBack.j0 k a1 a0_0 a0_1 a0_2 a0_3 a0_4))) else (some true))) else (none))) = some r := h
  clear h
  replace H := Option.bind_eq_some_iff.mp H
  obtain ⟨t132, A30, H⟩ := H
  replace H : (if t132 = true then ((ref_chk.f a0_0 a0_1 a0_2 a0_3 a0_4).bind fun t133 => (if t133 = 0 then ((stamp_Enter.f a0_0 a0_1 a0_2 a0_3 a0_4).bind fun bt134 => (if bt134.2.2.2.2.2 = 0 then ((stamp_Leave.f bt134.1 bt134.2.1 bt134.2.2.1 bt134.2.2.2.1 bt134.2.2.2.2.1).bind fun bt141 => ((stamp_Next.f bt134.1 bt134.2.1 bt134.2.2.1 bt134.2.2.2.1 bt134.2.2.2.2.1).bind fun bt148 => ((stamp_Leave.f bt148.1 bt148.2.1 bt148.2.2.1 bt148.2.2.2.1 bt148.2.2.2.2.1).bind fun bt155 => (if bt141.2.2.2.2.2 = 0 then (if (!(bt141.1 == a0_0) || (!(bt141.2.1 == a0_1) || ((!(bt141.2.2.1 == a0_2) || (!(bt141.2.2.2.1 == a0_3) || (!(bt141.2.2.2.2.1 == a0_4))))))) = true then (none) else (if bt148.2.2.2.2.2 = 0 then ((stamp_LE.f bt134.1 bt134.2.1 bt134.2.2.1 bt134.2.2.2.1 bt134.2.2.2.2.1 bt148.1 bt148.2.1 bt148.2.2.1 bt148.2.2.2.1 bt148.2.2.2.2.1).bind fun t162 => (if t162 = true then ((stamp_LE.f bt148.1 bt148.2.1 bt148.2.2.1 bt148.2.2.2.1 bt148.2.2.2.2.1 bt134.1 bt134.2.1 bt134.2.2.1 bt134.2.2.2.1 bt134.2.2.2.2.1).bind fun t163 => (if t163 = true then (none) else (if bt155.2.2.2.2.2 = 0 then (if (!(bt155.1 == a0_0) || (!(bt155.2.1 == a0_1) || ((!(bt155.2.2.1 == a0_2) || (!(bt155.2.2.2.1 == a0_3) || (!(bt155.2.2.2.2.1 == a0_4))))))) = true then (none) else (watershedlaw04_StampBack.j0 k a1 a0_0 a0_1 a0_2 a0_3 a0_4)) else (none)))) else (none))) else (none))) else (none))))) else (watershedlaw04_StampBack.j0 k a1 a0_0 a0_1 a0_2 a0_3 a0_4))) else (some true))) else (none)) = some r := H
  have A3 := Aside0.mk A30
  clear A30
  by_cases c4 : t132 = true
  · subst c4
    have H1 : ((ref_chk.f a0_0 a0_1 a0_2 a0_3 a0_4).bind fun t133 => (if t133 = 0 then ((stamp_Enter.f a0_0 a0_1 a0_2 a0_3 a0_4).bind fun bt134 => (if bt134.2.2.2.2.2 = 0 then ((stamp_Leave.f bt134.1 bt134.2.1 bt134.2.2.1 bt134.2.2.2.1 bt134.2.2.2.2.1).bind fun bt141 => ((stamp_Next.f bt134.1 bt134.2.1 bt134.2.2.1 bt134.2.2.2.1 bt134.2.2.2.2.1).bind fun bt148 => ((stamp_Leave.f bt148.1 bt148.2.1 bt148.2.2.1 bt148.2.2.2.1 bt148.2.2.2.2.1).bind fun bt155 => (if bt141.2.2.2.2.2 = 0 then (if (!(bt141.1 == a0_0) || (!(bt141.2.1 == a0_1) || ((!(bt141.2.2.1 == a0_2) || (!(bt141.2.2.2.1 == a0_3) || (!(bt141.2.2.2.2.1 == a0_4))))))) = true then (none) else (if bt148.2.2.2.2.2 = 0 then ((stamp_LE.f bt134.1 bt134.2.1 bt134.2.2.1 bt134.2.2.2.1 bt134.2.2.2.2.1 bt148.1 bt148.2.1 bt148.2.2.1 bt148.2.2.2.1 bt148.2.2.2.2.1).bind fun t162 => (if t162 = true then ((stamp_LE.f bt148.1 bt148.2.1 bt148.2.2.1 bt148.2.2.2.1 bt148.2.2.2.2.1 bt134.1 bt134.2.1 bt134.2.2.1 bt134.2.2.2.1 bt134.2.2.2.2.1).bind fun t163 => (if t163 = true then (none) else (if bt155.2.2.2.2.2 = 0 then (if (!(bt155.1 == a0_0) || (!(bt155.2.1 == a0_1) || ((!(bt155.2.2.1 == a0_2) || (!(bt155.2.2.2.1 == a0_3) || (!(bt155.2.2.2.2.1 == a0_4))))))) = true then (none) else (watershedlaw04_StampBack.j0 k a1 a0_0 a0_1 a0_2 a0_3 a0_4)) else (none)))) else (none))) else (none))) else (none))))) else (watershedlaw04_StampBack.j0 k a1 a0_0 a0_1 a0_2 a0_3 a0_4))) else (some true))) = some r := by rw [if_pos rfl] at H; exact H
    clear H
    have H := H1
    clear H1
    replace H := Option.bind_eq_some_iff.mp H
    obtain ⟨t133, A50, H⟩ := H
    replace H : (if t133 = 0 then ((stamp_Enter.f a0_0 a0_1 a0_2 a0_3 a0_4).bind fun bt134 => (if bt134.2.2.2.2.2 = 0 then ((stamp_Leave.f bt134.1 bt134.2.1 bt134.2.2.1 bt134.2.2.2.1 bt134.2.2.2.2.1).bind fun bt141 => ((stamp_Next.f bt134.1 bt134.2.1 bt134.2.2.1 bt134.2.2.2.1 bt134.2.2.2.2.1).bind fun bt148 => ((stamp_Leave.f bt148.1 bt148.2.1 bt148.2.2.1 bt148.2.2.2.1 bt148.2.2.2.2.1).bind fun bt155 => (if bt141.2.2.2.2.2 = 0 then (if (!(bt141.1 == a0_0) || (!(bt141.2.1 == a0_1) || ((!(bt141.2.2.1 == a0_2) || (!(bt141.2.2.2.1 == a0_3) || (!(bt141.2.2.2.2.1 == a0_4))))))) = true then (none) else (if bt148.2.2.2.2.2 = 0 then ((stamp_LE.f bt134.1 bt134.2.1 bt134.2.2.1 bt134.2.2.2.1 bt134.2.2.2.2.1 bt148.1 bt148.2.1 bt148.2.2.1 bt148.2.2.2.1 bt148.2.2.2.2.1).bind fun t162 => (if t162 = true then ((stamp_LE.f bt148.1 bt148.2.1 bt148.2.2.1 bt148.2.2.2.1 bt148.2.2.2.2.1 bt134.1 bt134.2.1 bt134.2.2.1 bt134.2.2.2.1 bt134.2.2.2.2.1).bind fun t163 => (if t163 = true then (none) else (if bt155.2.2.2.2.2 = 0 then (if (!(bt155.1 == a0_0) || (!(bt155.2.1 == a0_1) || ((!(bt155.2.2.1 == a0_2) || (!(bt155.2.2.2.1 == a0_3) || (!(bt155.2.2.2.2.1 == a0_4))))))) = true then (none) else (watershedlaw04_StampBack.j0 k a1 a0_0 a0_1 a0_2 a0_3 a0_4)) else (none)))) else (none))) else (none))) else (none))))) else (watershedlaw04_StampBack.j0 k a1 a0_0 a0_1 a0_2 a0_3 a0_4))) else (some true)) = some r := H
    have A5 := Aside0.mk A50
    clear A50
    by_cases c6 : t133 = 0
    · rw [if_pos c6] at H
      have c6b0 : (t133 == 0) = true := beq_iff_eq.mpr c6
      have c6b1 : (t133 != 0) = false := bne_eq_false_iff_eq.mpr c6
      clear c6
      replace H := Option.bind_eq_some_iff.mp H
      obtain ⟨⟨t134, t135, t136, t137, t138, t139⟩, A70, H⟩ := H
      replace H : (if t139 = 0 then ((stamp_Leave.f t134 t135 t136 t137 t138).bind fun bt141 => ((stamp_Next.f t134 t135 t136 t137 t138).bind fun bt148 => ((stamp_Leave.f bt148.1 bt148.2.1 bt148.2.2.1 bt148.2.2.2.1 bt148.2.2.2.2.1).bind fun bt155 => (if bt141.2.2.2.2.2 = 0 then (if (!(bt141.1 == a0_0) || (!(bt141.2.1 == a0_1) || ((!(bt141.2.2.1 == a0_2) || (!(bt141.2.2.2.1 == a0_3) || (!(bt141.2.2.2.2.1 == a0_4))))))) = true then (none) else (if bt148.2.2.2.2.2 = 0 then ((stamp_LE.f t134 t135 t136 t137 t138 bt148.1 bt148.2.1 bt148.2.2.1 bt148.2.2.2.1 bt148.2.2.2.2.1).bind fun t162 => (if t162 = true then ((stamp_LE.f bt148.1 bt148.2.1 bt148.2.2.1 bt148.2.2.2.1 bt148.2.2.2.2.1 t134 t135 t136 t137 t138).bind fun t163 => (if t163 = true then (none) else (if bt155.2.2.2.2.2 = 0 then (if (!(bt155.1 == a0_0) || (!(bt155.2.1 == a0_1) || ((!(bt155.2.2.1 == a0_2) || (!(bt155.2.2.2.1 == a0_3) || (!(bt155.2.2.2.2.1 == a0_4))))))) = true then (none) else (watershedlaw04_StampBack.j0 k a1 a0_0 a0_1 a0_2 a0_3 a0_4)) else (none)))) else (none))) else (none))) else (none))))) else (watershedlaw04_StampBack.j0 k a1 a0_0 a0_1 a0_2 a0_3 a0_4)) = some r := H
      have A7 := Aside0.mk A70
      clear A70
      have HC8 := Aside0.mk H
      clear H
      go_enter Tryd.func6, Tryd.ntmps6
      go_upto_if 32 with (first | ((with_reducible refine gate_dst (N := 2) rfl ?_); refine box_event ?hg (N := 2) ?hd (cs := #[.int .u32 a0_0, .int .i64 a0_1, .int .u32 a0_2, .int .u32 a0_3, .int .u32 a0_4]) (t := 25) ?hr ?_; (case hd => rfl); (case hg => rfl); (case hr => first | (go_simp; done) | (go_simp; rfl)); intro gb131 hg w9 hbox hb; have n0_ := Aside0.mk (below_step zz2 hb); have n1_ := Aside0.mk (hbox); have n2_ := Aside0.mk ((by rw [hg]; exact (below_size zz2) : w.heap.size ≤ gb131)); have n3_ := Aside0.mk ((by rw [hg]; exact (below_size zz2) : w.heap.size ≤ gb131)); clear HB; have HB := n0_; have BK131 := n1_; have GW131 := n2_; have GE131 := n3_; clear n0_ n1_ n2_ n3_; clear hb hbox hg) | ((with_reducible refine gate_callee (f := 12) rfl ?_); refine goesL_ (some 21) rfl rfl Tryd.func12 (by kernel_rfl) rfl #[] rfl zz0 ?_; (with_reducible refine (watershedlaw04_works.calls  true _ A3.out).mono ?_); rintro e w10 ⟨rfl, hb⟩; refine ⟨_, rfl, ?_⟩; have n0_ := yB BK131 hb; have n1_ := Aside0.mk (below_step zz7 hb); clear BK131; clear HB; have BK131 := n0_; have HB := n1_; clear n0_ n1_; (try clear hb); (try clear hb2); (try clear hk); (try clear hi); obtain ⟨hcz11_0, hcz11_1, hcz11_2, hcz11_3, hcz11_4, hfz11_0, hfz11_1, hfz11_2, hfz11_3, hfz11_4⟩ := yC5 BK131) | ((with_reducible refine gate_callee (f := 13) rfl ?_); refine goesL_ (some 24) rfl rfl Tryd.func13 (by kernel_rfl) rfl #[.agg #[.int .u32 a0_0, .int .i64 a0_1, .int .u32 a0_2, .int .u32 a0_3, .int .u32 a0_4]] rfl zz0 ?_; (with_reducible refine (ref_chk.calls a0_0 a0_1 a0_2 a0_3 a0_4 t133 _ A5.out).mono ?_); rintro e w12 ⟨rfl, hb⟩; refine ⟨_, rfl, ?_⟩; have n0_ := yB BK131 hb; have n1_ := Aside0.mk (below_step zz7 hb); clear BK131; clear HB; have BK131 := n0_; have HB := n1_; clear n0_ n1_; (try clear hb); (try clear hb2); (try clear hk); (try clear hi); obtain ⟨hcz13_0, hcz13_1, hcz13_2, hcz13_3, hcz13_4, hfz13_0, hfz13_1, hfz13_2, hfz13_3, hfz13_4⟩ := yC5 BK131) | ((with_reducible refine gate_callee (f := 17) rfl ?_); refine goesL_ (some 28) rfl rfl Tryd.func17 (by kernel_rfl) rfl #[.agg #[.int .u32 a0_0, .int .i64 a0_1, .int .u32 a0_2, .int .u32 a0_3, .int .u32 a0_4]] rfl zz0 ?_; (with_reducible refine (stamp_Enter.calls a0_0 a0_1 a0_2 a0_3 a0_4 t134 t135 t136 t137 t138 t139 _ A7.out).mono ?_); rintro e w14 ⟨rfl, hb⟩; refine ⟨_, rfl, ?_⟩; have n0_ := yB BK131 hb; have n1_ := Aside0.mk (below_step zz7 hb); clear BK131; clear HB; have BK131 := n0_; have HB := n1_; clear n0_ n1_; (try clear hb); (try clear hb2); (try clear hk); (try clear hi)) | ((with_reducible refine gate_dst (N := 5) rfl ?_); refine box_event ?hg (N := 5) ?hd (cs := #[.int .u32 0, .int .i64 0, .int .u32 0, .int .u32 0, .int .u32 0]) (t := 25) ?hr ?_; (case hd => rfl); (case hg => rfl); (case hr => first | (go_simp; done) | (go_simp; rfl)); intro gb140 hg w15 hbox hb; have n0_ := yB BK131 hb; have n1_ := Aside0.mk (below_step zz7 hb); have n2_ := Aside0.mk (hbox); have n3_ := Aside0.mk ((by rw [hg]; exact (below_size zz7) : w.heap.size ≤ gb140)); have n4_ := Aside0.mk ((by rw [hg]; exact (below_size zz7) : w.heap.size ≤ gb140)); have n5_ := yN BK131 hg; have n6_ := yM BK131 hg; clear BK131; clear HB; have BK131 := n0_; have HB := n1_; have BK140 := n2_; have GW140 := n3_; have GE140 := n4_; have NB131_140 := n5_; have NB140_131 := n6_; clear n0_ n1_ n2_ n3_ n4_ n5_ n6_; clear hb hbox hg; have hnb16 := NB140_131.out; have hnc16 := NB131_140.out; obtain ⟨hcz17_0, hcz17_1, hcz17_2, hcz17_3, hcz17_4, hfz17_0, hfz17_1, hfz17_2, hfz17_3, hfz17_4⟩ := yC5 BK140))
      (try simp only [Act.put, List.setIfInBounds_toArray, List.set_cons_zero, List.set_cons_succ])
      go_cut [] (fun wc => ∃ (kq : Nat), Aside0 (watershedlaw04_StampBack.j0 kq a1 a0_0 a0_1 a0_2 a0_3 a0_4 = some r) ∧ Aside0 (kq ≤ k) ∧ Aside0 (wc.heap[gb131]? = some (.cells #[.int .u32 a0_0, .int .i64 a0_1, .int .u32 a0_2, .int .u32 a0_3, .int .u32 a0_4] 25 (0, 0))) ∧ Aside0 (wc.heap[gb140]? = some (.cells #[.int .u32 t134, .int .i64 t135, .int .u32 t136, .int .u32 t137, .int .u32 t138] 25 (0, 0))) ∧ Aside0 (Below w.heap.size w wc))
      case first =>
        have H := HC8.out
        clear HC8
        by_cases c18 : t139 = 0
        · rw [if_pos c18] at H
          have c18b0 : (t139 == 0) = true := beq_iff_eq.mpr c18
          have c18b1 : (t139 != 0) = false := bne_eq_false_iff_eq.mpr c18
          clear c18
          (first | rw [c18b0] | (simp only [i64_w, i32_w]; rw [c18b0]) | skip)
          replace H := Option.bind_eq_some_iff.mp H
          obtain ⟨⟨t141, t142, t143, t144, t145, t146⟩, A190, H⟩ := H
          replace H : ((stamp_Next.f t134 t135 t136 t137 t138).bind fun bt148 => ((stamp_Leave.f bt148.1 bt148.2.1 bt148.2.2.1 bt148.2.2.2.1 bt148.2.2.2.2.1).bind fun bt155 => (if t146 = 0 then (if (!(t141 == a0_0) || (!(t142 == a0_1) || ((!(t143 == a0_2) || (!(t144 == a0_3) || (!(t145 == a0_4))))))) = true then (none) else (if bt148.2.2.2.2.2 = 0 then ((stamp_LE.f t134 t135 t136 t137 t138 bt148.1 bt148.2.1 bt148.2.2.1 bt148.2.2.2.1 bt148.2.2.2.2.1).bind fun t162 => (if t162 = true then ((stamp_LE.f bt148.1 bt148.2.1 bt148.2.2.1 bt148.2.2.2.1 bt148.2.2.2.2.1 t134 t135 t136 t137 t138).bind fun t163 => (if t163 = true then (none) else (if bt155.2.2.2.2.2 = 0 then (if (!(bt155.1 == a0_0) || (!(bt155.2.1 == a0_1) || ((!(bt155.2.2.1 == a0_2) || (!(bt155.2.2.2.1 == a0_3) || (!(bt155.2.2.2.2.1 == a0_4))))))) = true then (none) else (watershedlaw04_StampBack.j0 k a1 a0_0 a0_1 a0_2 a0_3 a0_4)) else (none)))) else (none))) else (none))) else (none)))) = some r := H
          have A19 := Aside0.mk A190
          clear A190
          replace H := Option.bind_eq_some_iff.mp H
          obtain ⟨⟨t148, t149, t150, t151, t152, t153⟩, A200, H⟩ := H
          replace H : ((stamp_Leave.f t148 t149 t150 t151 t152).bind fun bt155 => (if t146 = 0 then (if (!(t141 == a0_0) || (!(t142 == a0_1) || ((!(t143 == a0_2) || (!(t144 == a0_3) || (!(t145 == a0_4))))))) = true then (none) else (if t153 = 0 then ((stamp_LE.f t134 t135 t136 t137 t138 t148 t149 t150 t151 t152).bind fun t162 => (if t162 = true then ((stamp_LE.f t148 t149 t150 t151 t152 t134 t135 t136 t137 t138).bind fun t163 => (if t163 = true then (none) else (if bt155.2.2.2.2.2 = 0 then (if (!(bt155.1 == a0_0) || (!(bt155.2.1 == a0_1) || ((!(bt155.2.2.1 == a0_2) || (!(bt155.2.2.2.1 == a0_3) || (!(bt155.2.2.2.2.1 == a0_4))))))) = true then (none) else (watershedlaw04_StampBack.j0 k a1 a0_0 a0_1 a0_2 a0_3 a0_4)) else (none)))) else (none))) else (none))) else (none))) = some r := H
          have A20 := Aside0.mk A200
          clear A200
          replace H := Option.bind_eq_some_iff.mp H
          obtain ⟨⟨t155, t156, t157, t158, t159, t160⟩, A210, H⟩ := H
          replace H : (if t146 = 0 then (if (!(t141 == a0_0) || (!(t142 == a0_1) || ((!(t143 == a0_2) || (!(t144 == a0_3) || (!(t145 == a0_4))))))) = true then (none) else (if t153 = 0 then ((stamp_LE.f t134 t135 t136 t137 t138 t148 t149 t150 t151 t152).bind fun t162 => (if t162 = true then ((stamp_LE.f t148 t149 t150 t151 t152 t134 t135 t136 t137 t138).bind fun t163 => (if t163 = true then (none) else (if t160 = 0 then (if (!(t155 == a0_0) || (!(t156 == a0_1) || ((!(t157 == a0_2) || (!(t158 == a0_3) || (!(t159 == a0_4))))))) = true then (none) else (watershedlaw04_StampBack.j0 k a1 a0_0 a0_1 a0_2 a0_3 a0_4)) else (none)))) else (none))) else (none))) else (none)) = some r := H
          have A21 := Aside0.mk A210
          clear A210
          by_cases c22 : t146 = 0
          · rw [if_pos c22] at H
            have c22b0 : (t146 == 0) = true := beq_iff_eq.mpr c22
            have c22b1 : (t146 != 0) = false := bne_eq_false_iff_eq.mpr c22
            clear c22
            by_cases c23 : (!(t141 == a0_0) || (!(t142 == a0_1) || ((!(t143 == a0_2) || (!(t144 == a0_3) || (!(t145 == a0_4))))))) = true
            · rw [if_pos c23] at H
              exact absurd H (by simp)
            · rw [if_neg c23] at H
              have c23b0 : (!(t141 == a0_0) || (!(t142 == a0_1) || ((!(t143 == a0_2) || (!(t144 == a0_3) || (!(t145 == a0_4))))))) = false := by simpa using c23
              clear c23
              by_cases c24 : t153 = 0
              · rw [if_pos c24] at H
                have c24b0 : (t153 == 0) = true := beq_iff_eq.mpr c24
                have c24b1 : (t153 != 0) = false := bne_eq_false_iff_eq.mpr c24
                clear c24
                replace H := Option.bind_eq_some_iff.mp H
                obtain ⟨t162, A250, H⟩ := H
                replace H : (if t162 = true then ((stamp_LE.f t148 t149 t150 t151 t152 t134 t135 t136 t137 t138).bind fun t163 => (if t163 = true then (none) else (if t160 = 0 then (if (!(t155 == a0_0) || (!(t156 == a0_1) || ((!(t157 == a0_2) || (!(t158 == a0_3) || (!(t159 == a0_4))))))) = true then (none) else (watershedlaw04_StampBack.j0 k a1 a0_0 a0_1 a0_2 a0_3 a0_4)) else (none)))) else (none)) = some r := H
                have A25 := Aside0.mk A250
                clear A250
                by_cases c26 : t162 = true
                · subst c26
                  have H1 : ((stamp_LE.f t148 t149 t150 t151 t152 t134 t135 t136 t137 t138).bind fun t163 => (if t163 = true then (none) else (if t160 = 0 then (if (!(t155 == a0_0) || (!(t156 == a0_1) || ((!(t157 == a0_2) || (!(t158 == a0_3) || (!(t159 == a0_4))))))) = true then (none) else (watershedlaw04_StampBack.j0 k a1 a0_0 a0_1 a0_2 a0_3 a0_4)) else (none)))) = some r := by rw [if_pos rfl] at H; exact H
                  clear H
                  have H := H1
                  clear H1
                  replace H := Option.bind_eq_some_iff.mp H
                  obtain ⟨t163, A270, H⟩ := H
                  replace H : (if t163 = true then (none) else (if t160 = 0 then (if (!(t155 == a0_0) || (!(t156 == a0_1) || ((!(t157 == a0_2) || (!(t158 == a0_3) || (!(t159 == a0_4))))))) = true then (none) else (watershedlaw04_StampBack.j0 k a1 a0_0 a0_1 a0_2 a0_3 a0_4)) else (none))) = some r := H
                  have A27 := Aside0.mk A270
                  clear A270
                  by_cases c28 : t163 = true
                  · subst c28
                    have H1 : (none) = some r := by rw [if_pos rfl] at H; exact H
                    clear H
                    have H := H1
                    clear H1
                    exact absurd H (by simp)
                  · replace c28 := Bool.eq_false_iff.mpr c28
                    subst c28
                    have H1 : (if t160 = 0 then (if (!(t155 == a0_0) || (!(t156 == a0_1) || ((!(t157 == a0_2) || (!(t158 == a0_3) || (!(t159 == a0_4))))))) = true then (none) else (watershedlaw04_StampBack.j0 k a1 a0_0 a0_1 a0_2 a0_3 a0_4)) else (none)) = some r := by rw [if_neg (show ¬ (false = true) by decide)] at H; exact H
                    clear H
                    have H := H1
                    clear H1
                    by_cases c29 : t160 = 0
                    · rw [if_pos c29] at H
                      have c29b0 : (t160 == 0) = true := beq_iff_eq.mpr c29
                      have c29b1 : (t160 != 0) = false := bne_eq_false_iff_eq.mpr c29
                      clear c29
                      by_cases c30 : (!(t155 == a0_0) || (!(t156 == a0_1) || ((!(t157 == a0_2) || (!(t158 == a0_3) || (!(t159 == a0_4))))))) = true
                      · rw [if_pos c30] at H
                        exact absurd H (by simp)
                      · rw [if_neg c30] at H
                        have c30b0 : (!(t155 == a0_0) || (!(t156 == a0_1) || ((!(t157 == a0_2) || (!(t158 == a0_3) || (!(t159 == a0_4))))))) = false := by simpa using c30
                        clear c30
                        have H' := Aside0.mk H
                        clear H
                        have hnb31 := NB140_131.out
                        have hnc31 := NB131_140.out
                        obtain ⟨hcz32_0, hcz32_1, hcz32_2, hcz32_3, hcz32_4, hfz32_0, hfz32_1, hfz32_2, hfz32_3, hfz32_4⟩ := yC5 BK140
                        go_wp2_with (first | ((with_reducible refine gate_callee (f := 18) rfl ?_); refine goesL_ (some 35) rfl rfl Tryd.func18 (by kernel_rfl) rfl #[.agg #[.int .u32 t134, .int .i64 t135, .int .u32 t136, .int .u32 t137, .int .u32 t138]] rfl zz0 ?_; (with_reducible refine (stamp_Leave.calls t134 t135 t136 t137 t138 t141 t142 t143 t144 t145 t146 _ A19.out).mono ?_); rintro e w33 ⟨rfl, hb⟩; refine ⟨_, rfl, ?_⟩; have n0_ := yB BK131 hb; have n1_ := Aside0.mk (blk_below (g := gb140) (o := .cells #[.int .u32 t134, .int .i64 t135, .int .u32 t136, .int .u32 t137, .int .u32 t138] 25 (0, 0)) (by (with_reducible repeat (first | refine blk_drewN ?_ _ | refine blk_drew ?_ | refine blk_alloc ?_ _)); refine blk_put (cs := #[.int .u32 t134, .int .i64 t135, .int .u32 t136, .int .u32 t137, .int .u32 0]) ?_ 4 _ rfl; (with_reducible repeat (first | refine blk_drewN ?_ _ | refine blk_drew ?_ | refine blk_alloc ?_ _)); refine blk_put (cs := #[.int .u32 t134, .int .i64 t135, .int .u32 t136, .int .u32 0, .int .u32 0]) ?_ 3 _ rfl; (with_reducible repeat (first | refine blk_drewN ?_ _ | refine blk_drew ?_ | refine blk_alloc ?_ _)); refine blk_put (cs := #[.int .u32 t134, .int .i64 t135, .int .u32 0, .int .u32 0, .int .u32 0]) ?_ 2 _ rfl; (with_reducible repeat (first | refine blk_drewN ?_ _ | refine blk_drew ?_ | refine blk_alloc ?_ _)); refine blk_put (cs := #[.int .u32 t134, .int .i64 0, .int .u32 0, .int .u32 0, .int .u32 0]) ?_ 1 _ rfl; (with_reducible repeat (first | refine blk_drewN ?_ _ | refine blk_drew ?_ | refine blk_alloc ?_ _)); refine blk_put (cs := #[.int .u32 0, .int .i64 0, .int .u32 0, .int .u32 0, .int .u32 0]) ?_ 0 _ rfl; (with_reducible repeat (first | refine blk_drewN ?_ _ | refine blk_drew ?_ | refine blk_alloc ?_ _)); exact BK140.out) hb); have n2_ := Aside0.mk (below_step zz4 hb); clear BK131; clear BK140; clear HB; have BK131 := n0_; have BK140 := n1_; have HB := n2_; clear n0_ n1_ n2_; (try clear hb); (try clear hb2); (try clear hk); (try clear hi)) | ((with_reducible refine gate_dst (N := 7) rfl ?_); refine box_event ?hg (N := 7) ?hd (cs := #[.int .u32 0, .int .i64 0, .int .u32 0, .int .u32 0, .int .u32 0]) (t := 25) ?hr ?_; (case hd => rfl); (case hg => rfl); (case hr => first | (go_simp; done) | (go_simp; rfl)); intro gb147 hg w34 hbox hb; have n0_ := yB BK131 hb; have n1_ := yB BK140 hb; have n2_ := Aside0.mk (below_step zz4 hb); have n3_ := Aside0.mk (hbox); have n4_ := Aside0.mk ((by rw [hg]; exact (below_size zz4) : w.heap.size ≤ gb147)); have n5_ := Aside0.mk ((by rw [hg]; exact (below_size zz4) : w.heap.size ≤ gb147)); have n6_ := yN BK131 hg; have n7_ := yM BK131 hg; have n8_ := yN BK140 hg; have n9_ := yM BK140 hg; clear BK131; clear BK140; clear HB; have BK131 := n0_; have BK140 := n1_; have HB := n2_; have BK147 := n3_; have GW147 := n4_; have GE147 := n5_; have NB131_147 := n6_; have NB147_131 := n7_; have NB140_147 := n8_; have NB147_140 := n9_; clear n0_ n1_ n2_ n3_ n4_ n5_ n6_ n7_ n8_ n9_; clear hb hbox hg; have hnb35 := NB147_131.out; have hnc35 := NB131_147.out; have hnb36 := NB147_140.out; have hnc36 := NB140_147.out; obtain ⟨hcz37_0, hcz37_1, hcz37_2, hcz37_3, hcz37_4, hfz37_0, hfz37_1, hfz37_2, hfz37_3, hfz37_4⟩ := yC5 BK147; obtain ⟨hcz38_0, hcz38_1, hcz38_2, hcz38_3, hcz38_4, hfz38_0, hfz38_1, hfz38_2, hfz38_3, hfz38_4⟩ := yC5 BK140) | ((with_reducible refine gate_callee (f := 19) rfl ?_); refine goesL_ (some 40) rfl rfl Tryd.func19 (by kernel_rfl) rfl #[.agg #[.int .u32 t134, .int .i64 t135, .int .u32 t136, .int .u32 t137, .int .u32 t138]] rfl zz0 ?_; (with_reducible refine (stamp_Next.calls t134 t135 t136 t137 t138 t148 t149 t150 t151 t152 t153 _ A20.out).mono ?_); rintro e w39 ⟨rfl, hb⟩; refine ⟨_, rfl, ?_⟩; have n0_ := yB BK131 hb; have n1_ := yB BK140 hb; have n2_ := Aside0.mk (blk_below (g := gb147) (o := .cells #[.int .u32 t141, .int .i64 t142, .int .u32 t143, .int .u32 t144, .int .u32 t145] 25 (0, 0)) (by (with_reducible repeat (first | refine blk_drewN ?_ _ | refine blk_drew ?_ | refine blk_alloc ?_ _)); refine blk_put (cs := #[.int .u32 t141, .int .i64 t142, .int .u32 t143, .int .u32 t144, .int .u32 0]) ?_ 4 _ rfl; (with_reducible repeat (first | refine blk_drewN ?_ _ | refine blk_drew ?_ | refine blk_alloc ?_ _)); refine blk_put (cs := #[.int .u32 t141, .int .i64 t142, .int .u32 t143, .int .u32 0, .int .u32 0]) ?_ 3 _ rfl; (with_reducible repeat (first | refine blk_drewN ?_ _ | refine blk_drew ?_ | refine blk_alloc ?_ _)); refine blk_put (cs := #[.int .u32 t141, .int .i64 t142, .int .u32 0, .int .u32 0, .int .u32 0]) ?_ 2 _ rfl; (with_reducible repeat (first | refine blk_drewN ?_ _ | refine blk_drew ?_ | refine blk_alloc ?_ _)); refine blk_put (cs := #[.int .u32 t141, .int .i64 0, .int .u32 0, .int .u32 0, .int .u32 0]) ?_ 1 _ rfl; (with_reducible repeat (first | refine blk_drewN ?_ _ | refine blk_drew ?_ | refine blk_alloc ?_ _)); refine blk_put (cs := #[.int .u32 0, .int .i64 0, .int .u32 0, .int .u32 0, .int .u32 0]) ?_ 0 _ rfl; (with_reducible repeat (first | refine blk_drewN ?_ _ | refine blk_drew ?_ | refine blk_alloc ?_ _)); exact BK147.out) hb); have n3_ := Aside0.mk (below_step zz12 hb); clear BK131; clear BK140; clear BK147; clear HB; have BK131 := n0_; have BK140 := n1_; have BK147 := n2_; have HB := n3_; clear n0_ n1_ n2_ n3_; (try clear hb); (try clear hb2); (try clear hk); (try clear hi)) | ((with_reducible refine gate_dst (N := 9) rfl ?_); refine box_event ?hg (N := 9) ?hd (cs := #[.int .u32 0, .int .i64 0, .int .u32 0, .int .u32 0, .int .u32 0]) (t := 25) ?hr ?_; (case hd => rfl); (case hg => rfl); (case hr => first | (go_simp; done) | (go_simp; rfl)); intro gb154 hg w40 hbox hb; have n0_ := yB BK131 hb; have n1_ := yB BK140 hb; have n2_ := yB BK147 hb; have n3_ := Aside0.mk (below_step zz12 hb); have n4_ := Aside0.mk (hbox); have n5_ := Aside0.mk ((by rw [hg]; exact (below_size zz12) : w.heap.size ≤ gb154)); have n6_ := Aside0.mk ((by rw [hg]; exact (below_size zz12) : w.heap.size ≤ gb154)); have n7_ := yN BK131 hg; have n8_ := yM BK131 hg; have n9_ := yN BK140 hg; have n10_ := yM BK140 hg; have n11_ := yN BK147 hg; have n12_ := yM BK147 hg; clear BK131; clear BK140; clear BK147; clear HB; have BK131 := n0_; have BK140 := n1_; have BK147 := n2_; have HB := n3_; have BK154 := n4_; have GW154 := n5_; have GE154 := n6_; have NB131_154 := n7_; have NB154_131 := n8_; have NB140_154 := n9_; have NB154_140 := n10_; have NB147_154 := n11_; have NB154_147 := n12_; clear n0_ n1_ n2_ n3_ n4_ n5_ n6_ n7_ n8_ n9_ n10_ n11_ n12_; clear hb hbox hg; have hnb41 := NB154_131.out; have hnc41 := NB131_154.out; have hnb42 := NB154_140.out; have hnc42 := NB140_154.out; have hnb43 := NB154_147.out; have hnc43 := NB147_154.out; obtain ⟨hcz44_0, hcz44_1, hcz44_2, hcz44_3, hcz44_4, hfz44_0, hfz44_1, hfz44_2, hfz44_3, hfz44_4⟩ := yC5 BK154) | ((with_reducible refine gate_callee (f := 18) rfl ?_); refine goesL_ (some 45) rfl rfl Tryd.func18 (by kernel_rfl) rfl #[.agg #[.int .u32 t148, .int .i64 t149, .int .u32 t150, .int .u32 t151, .int .u32 t152]] rfl zz0 ?_; (with_reducible refine (stamp_Leave.calls t148 t149 t150 t151 t152 t155 t156 t157 t158 t159 t160 _ A21.out).mono ?_); rintro e w45 ⟨rfl, hb⟩; refine ⟨_, rfl, ?_⟩; have n0_ := yB BK131 hb; have n1_ := yB BK140 hb; have n2_ := yB BK147 hb; have n3_ := Aside0.mk (blk_below (g := gb154) (o := .cells #[.int .u32 t148, .int .i64 t149, .int .u32 t150, .int .u32 t151, .int .u32 t152] 25 (0, 0)) (by (with_reducible repeat (first | refine blk_drewN ?_ _ | refine blk_drew ?_ | refine blk_alloc ?_ _)); refine blk_put (cs := #[.int .u32 t148, .int .i64 t149, .int .u32 t150, .int .u32 t151, .int .u32 0]) ?_ 4 _ rfl; (with_reducible repeat (first | refine blk_drewN ?_ _ | refine blk_drew ?_ | refine blk_alloc ?_ _)); refine blk_put (cs := #[.int .u32 t148, .int .i64 t149, .int .u32 t150, .int .u32 0, .int .u32 0]) ?_ 3 _ rfl; (with_reducible repeat (first | refine blk_drewN ?_ _ | refine blk_drew ?_ | refine blk_alloc ?_ _)); refine blk_put (cs := #[.int .u32 t148, .int .i64 t149, .int .u32 0, .int .u32 0, .int .u32 0]) ?_ 2 _ rfl; (with_reducible repeat (first | refine blk_drewN ?_ _ | refine blk_drew ?_ | refine blk_alloc ?_ _)); refine blk_put (cs := #[.int .u32 t148, .int .i64 0, .int .u32 0, .int .u32 0, .int .u32 0]) ?_ 1 _ rfl; (with_reducible repeat (first | refine blk_drewN ?_ _ | refine blk_drew ?_ | refine blk_alloc ?_ _)); refine blk_put (cs := #[.int .u32 0, .int .i64 0, .int .u32 0, .int .u32 0, .int .u32 0]) ?_ 0 _ rfl; (with_reducible repeat (first | refine blk_drewN ?_ _ | refine blk_drew ?_ | refine blk_alloc ?_ _)); exact BK154.out) hb); have n4_ := Aside0.mk (below_step zz11 hb); clear BK131; clear BK140; clear BK147; clear BK154; clear HB; have BK131 := n0_; have BK140 := n1_; have BK147 := n2_; have BK154 := n3_; have HB := n4_; clear n0_ n1_ n2_ n3_ n4_; (try clear hb); (try clear hb2); (try clear hk); (try clear hi)) | ((with_reducible refine gate_dst (N := 11) rfl ?_); refine box_event ?hg (N := 11) ?hd (cs := #[.int .u32 0, .int .i64 0, .int .u32 0, .int .u32 0, .int .u32 0]) (t := 25) ?hr ?_; (case hd => rfl); (case hg => rfl); (case hr => first | (go_simp; done) | (go_simp; rfl)); intro gb161 hg w46 hbox hb; have n0_ := yB BK131 hb; have n1_ := yB BK140 hb; have n2_ := yB BK147 hb; have n3_ := yB BK154 hb; have n4_ := Aside0.mk (below_step zz11 hb); have n5_ := Aside0.mk (hbox); have n6_ := Aside0.mk ((by rw [hg]; exact (below_size zz11) : w.heap.size ≤ gb161)); have n7_ := Aside0.mk ((by rw [hg]; exact (below_size zz11) : w.heap.size ≤ gb161)); have n8_ := yN BK131 hg; have n9_ := yM BK131 hg; have n10_ := yN BK140 hg; have n11_ := yM BK140 hg; have n12_ := yN BK147 hg; have n13_ := yM BK147 hg; have n14_ := yN BK154 hg; have n15_ := yM BK154 hg; clear BK131; clear BK140; clear BK147; clear BK154; clear HB; have BK131 := n0_; have BK140 := n1_; have BK147 := n2_; have BK154 := n3_; have HB := n4_; have BK161 := n5_; have GW161 := n6_; have GE161 := n7_; have NB131_161 := n8_; have NB161_131 := n9_; have NB140_161 := n10_; have NB161_140 := n11_; have NB147_161 := n12_; have NB161_147 := n13_; have NB154_161 := n14_; have NB161_154 := n15_; clear n0_ n1_ n2_ n3_ n4_ n5_ n6_ n7_ n8_ n9_ n10_ n11_ n12_ n13_ n14_ n15_; clear hb hbox hg; have hnb47 := NB161_131.out; have hnc47 := NB131_161.out; have hnb48 := NB161_140.out; have hnc48 := NB140_161.out; have hnb49 := NB161_147.out; have hnc49 := NB147_161.out; have hnb50 := NB161_154.out; have hnc50 := NB154_161.out; obtain ⟨hcz51_0, hcz51_1, hcz51_2, hcz51_3, hcz51_4, hfz51_0, hfz51_1, hfz51_2, hfz51_3, hfz51_4⟩ := yC5 BK161; obtain ⟨hcz52_0, hcz52_1, hcz52_2, hcz52_3, hcz52_4, hfz52_0, hfz52_1, hfz52_2, hfz52_3, hfz52_4⟩ := yC5 BK147; obtain ⟨hcz53_0, hcz53_1, hcz53_2, hcz53_3, hcz53_4, hfz53_0, hfz53_1, hfz53_2, hfz53_3, hfz53_4⟩ := yC5 BK131; obtain ⟨hcz54_0, hcz54_1, hcz54_2, hcz54_3, hcz54_4, hfz54_0, hfz54_1, hfz54_2, hfz54_3, hfz54_4⟩ := yC5 BK140; obtain ⟨hcz55_0, hcz55_1, hcz55_2, hcz55_3, hcz55_4, hfz55_0, hfz55_1, hfz55_2, hfz55_3, hfz55_4⟩ := yC5 BK154) | (go_at_call 14; (with_reducible refine (stamp_LE.calls t134 t135 t136 t137 t138 t148 t149 t150 t151 t152 true _ A25.out).mono ?_); rintro e w56 ⟨rfl, hb⟩; have n0_ := yB BK131 hb; have n1_ := yB BK140 hb; have n2_ := yB BK147 hb; have n3_ := yB BK154 hb; have n4_ := Aside0.mk (blk_below (g := gb161) (o := .cells #[.int .u32 t155, .int .i64 t156, .int .u32 t157, .int .u32 t158, .int .u32 t159] 25 (0, 0)) (by (with_reducible repeat (first | refine blk_drewN ?_ _ | refine blk_drew ?_ | refine blk_alloc ?_ _)); refine blk_put (cs := #[.int .u32 t155, .int .i64 t156, .int .u32 t157, .int .u32 t158, .int .u32 0]) ?_ 4 _ rfl; (with_reducible repeat (first | refine blk_drewN ?_ _ | refine blk_drew ?_ | refine blk_alloc ?_ _)); refine blk_put (cs := #[.int .u32 t155, .int .i64 t156, .int .u32 t157, .int .u32 0, .int .u32 0]) ?_ 3 _ rfl; (with_reducible repeat (first | refine blk_drewN ?_ _ | refine blk_drew ?_ | refine blk_alloc ?_ _)); refine blk_put (cs := #[.int .u32 t155, .int .i64 t156, .int .u32 0, .int .u32 0, .int .u32 0]) ?_ 2 _ rfl; (with_reducible repeat (first | refine blk_drewN ?_ _ | refine blk_drew ?_ | refine blk_alloc ?_ _)); refine blk_put (cs := #[.int .u32 t155, .int .i64 0, .int .u32 0, .int .u32 0, .int .u32 0]) ?_ 1 _ rfl; (with_reducible repeat (first | refine blk_drewN ?_ _ | refine blk_drew ?_ | refine blk_alloc ?_ _)); refine blk_put (cs := #[.int .u32 0, .int .i64 0, .int .u32 0, .int .u32 0, .int .u32 0]) ?_ 0 _ rfl; (with_reducible repeat (first | refine blk_drewN ?_ _ | refine blk_drew ?_ | refine blk_alloc ?_ _)); exact BK161.out) hb); have n5_ := Aside0.mk (below_step (by repeat (first | (with_reducible first | exact HB.out | apply below_alloc | apply pw_below_drewN | apply below_drew1 | refine below_set ?_ GE131.out | refine below_set ?_ GE140.out | refine below_set ?_ GE147.out | refine below_set ?_ GE154.out | refine below_set ?_ GE161.out) | exact HB.out)) hb); clear BK131; clear BK140; clear BK147; clear BK154; clear BK161; clear HB; have BK131 := n0_; have BK140 := n1_; have BK147 := n2_; have BK154 := n3_; have BK161 := n4_; have HB := n5_; clear n0_ n1_ n2_ n3_ n4_ n5_; (try clear hb); (try clear hb2); (try clear hk); (try clear hi); obtain ⟨hcz57_0, hcz57_1, hcz57_2, hcz57_3, hcz57_4, hfz57_0, hfz57_1, hfz57_2, hfz57_3, hfz57_4⟩ := yC5 BK154; obtain ⟨hcz58_0, hcz58_1, hcz58_2, hcz58_3, hcz58_4, hfz58_0, hfz58_1, hfz58_2, hfz58_3, hfz58_4⟩ := yC5 BK140) | (go_at_call 14; (with_reducible refine (stamp_LE.calls t148 t149 t150 t151 t152 t134 t135 t136 t137 t138 false _ A27.out).mono ?_); rintro e w59 ⟨rfl, hb⟩; have n0_ := yB BK131 hb; have n1_ := yB BK140 hb; have n2_ := yB BK147 hb; have n3_ := yB BK154 hb; have n4_ := yB BK161 hb; have n5_ := Aside0.mk (below_step (by repeat (first | (with_reducible first | exact HB.out | apply below_alloc | apply pw_below_drewN | apply below_drew1 | refine below_set ?_ GE131.out | refine below_set ?_ GE140.out | refine below_set ?_ GE147.out | refine below_set ?_ GE154.out | refine below_set ?_ GE161.out) | exact HB.out)) hb); clear BK131; clear BK140; clear BK147; clear BK154; clear BK161; clear HB; have BK131 := n0_; have BK140 := n1_; have BK147 := n2_; have BK154 := n3_; have BK161 := n4_; have HB := n5_; clear n0_ n1_ n2_ n3_ n4_ n5_; (try clear hb); (try clear hb2); (try clear hk); (try clear hi); obtain ⟨hcz60_0, hcz60_1, hcz60_2, hcz60_3, hcz60_4, hfz60_0, hfz60_1, hfz60_2, hfz60_3, hfz60_4⟩ := yC5 BK161; obtain ⟨hcz61_0, hcz61_1, hcz61_2, hcz61_3, hcz61_4, hfz61_0, hfz61_1, hfz61_2, hfz61_3, hfz61_4⟩ := yC5 BK131))
                        go_meet
                        case rel => exact ⟨_, H', ⟨by first | omega | exact Nat.le_refl _⟩, ⟨yF⟩, ⟨yF⟩, ⟨by repeat (first | (with_reducible first | exact HB.out | apply below_alloc | apply pw_below_drewN | apply below_drew1 | refine below_set ?_ GE131.out | refine below_set ?_ GE140.out | refine below_set ?_ GE147.out | refine below_set ?_ GE154.out | refine below_set ?_ GE161.out) | exact HB.out)⟩⟩
                    · rw [if_neg c29] at H
                      exact absurd H (by simp)
                · replace c26 := Bool.eq_false_iff.mpr c26
                  subst c26
                  have H1 : (none) = some r := by rw [if_neg (show ¬ (false = true) by decide)] at H; exact H
                  clear H
                  have H := H1
                  clear H1
                  exact absurd H (by simp)
              · rw [if_neg c24] at H
                exact absurd H (by simp)
          · rw [if_neg c22] at H
            exact absurd H (by simp)
        · rw [if_neg c18] at H
          have c18b0 : (t139 == 0) = false := beq_eq_false_iff_ne.mpr c18
          have c18b1 : (t139 != 0) = true := bne_iff_ne.mpr c18
          (first | rw [c18b0] | (simp only [i64_w, i32_w]; rw [c18b0]) | skip)
          have H' := Aside0.mk H
          clear H
          go_wp2
          go_meet
          case rel => exact ⟨_, H', ⟨by first | omega | exact Nat.le_refl _⟩, ⟨yF⟩, ⟨by (with_reducible repeat (first | refine blk_drewN ?_ _ | refine blk_drew ?_ | refine blk_alloc ?_ _)); refine blk_put (cs := #[.int .u32 t134, .int .i64 t135, .int .u32 t136, .int .u32 t137, .int .u32 0]) ?_ 4 _ rfl; (with_reducible repeat (first | refine blk_drewN ?_ _ | refine blk_drew ?_ | refine blk_alloc ?_ _)); refine blk_put (cs := #[.int .u32 t134, .int .i64 t135, .int .u32 t136, .int .u32 0, .int .u32 0]) ?_ 3 _ rfl; (with_reducible repeat (first | refine blk_drewN ?_ _ | refine blk_drew ?_ | refine blk_alloc ?_ _)); refine blk_put (cs := #[.int .u32 t134, .int .i64 t135, .int .u32 0, .int .u32 0, .int .u32 0]) ?_ 2 _ rfl; (with_reducible repeat (first | refine blk_drewN ?_ _ | refine blk_drew ?_ | refine blk_alloc ?_ _)); refine blk_put (cs := #[.int .u32 t134, .int .i64 0, .int .u32 0, .int .u32 0, .int .u32 0]) ?_ 1 _ rfl; (with_reducible repeat (first | refine blk_drewN ?_ _ | refine blk_drew ?_ | refine blk_alloc ?_ _)); refine blk_put (cs := #[.int .u32 0, .int .i64 0, .int .u32 0, .int .u32 0, .int .u32 0]) ?_ 0 _ rfl; (with_reducible repeat (first | refine blk_drewN ?_ _ | refine blk_drew ?_ | refine blk_alloc ?_ _)); exact BK140.out⟩, ⟨by repeat (first | (with_reducible first | exact HB.out | apply below_alloc | apply pw_below_drewN | apply below_drew1 | refine below_set ?_ GE131.out | refine below_set ?_ GE140.out) | exact HB.out)⟩⟩
      case rest =>
        clear HC8
        (try clear c1); (try clear c2); (try clear p2); (try clear c3); (try clear c4); (try clear c5); (try clear c6); (try clear c6b0); (try clear c6b1); (try clear c12); (try clear c13); (try clear c16); (try clear c17); (try clear c18); (try clear c18b0); (try clear c18b1); (try clear c19); (try clear c22); (try clear c22b0); (try clear c22b1); (try clear c23); (try clear c23b0); (try clear c24); (try clear c24b0); (try clear c24b1); (try clear c26); (try clear c28); (try clear c29); (try clear c29b0); (try clear c29b1); (try clear c30); (try clear c30b0); (try clear c31); (try clear c35); (try clear c36); (try clear c41); (try clear c42); (try clear c43); (try clear c47); (try clear c48); (try clear c49); (try clear c50); (try clear hcz11_0); (try clear hcz11_1); (try clear hcz11_2); (try clear hcz11_3); (try clear hcz11_4); (try clear hcz13_0); (try clear hcz13_1); (try clear hcz13_2); (try clear hcz13_3); (try clear hcz13_4); (try clear hcz17_0); (try clear hcz17_1); (try clear hcz17_2); (try clear hcz17_3); (try clear hcz17_4); (try clear hcz32_0); (try clear hcz32_1); (try clear hcz32_2); (try clear hcz32_3); (try clear hcz32_4); (try clear hcz37_0); (try clear hcz37_1); (try clear hcz37_2); (try clear hcz37_3); (try clear hcz37_4); (try clear hcz38_0); (try clear hcz38_1); (try clear hcz38_2); (try clear hcz38_3); (try clear hcz38_4); (try clear hcz44_0); (try clear hcz44_1); (try clear hcz44_2); (try clear hcz44_3); (try clear hcz44_4); (try clear hcz51_0); (try clear hcz51_1); (try clear hcz51_2); (try clear hcz51_3); (try clear hcz51_4); (try clear hcz52_0); (try clear hcz52_1); (try clear hcz52_2); (try clear hcz52_3); (try clear hcz52_4); (try clear hcz53_0); (try clear hcz53_1); (try clear hcz53_2); (try clear hcz53_3); (try clear hcz53_4); (try clear hcz54_0); (try clear hcz54_1); (try clear hcz54_2); (try clear hcz54_3); (try clear hcz54_4); (try clear hcz55_0); (try clear hcz55_1); (try clear hcz55_2); (try clear hcz55_3); (try clear hcz55_4); (try clear hcz57_0); (try clear hcz57_1); (try clear hcz57_2); (try clear hcz57_3); (try clear hcz57_4); (try clear hcz58_0); (try clear hcz58_1); (try clear hcz58_2); (try clear hcz58_3); (try clear hcz58_4); (try clear hcz60_0); (try clear hcz60_1); (try clear hcz60_2); (try clear hcz60_3); (try clear hcz60_4); (try clear hcz61_0); (try clear hcz61_1); (try clear hcz61_2); (try clear hcz61_3); (try clear hcz61_4); (try clear hfz11_0); (try clear hfz11_1); (try clear hfz11_2); (try clear hfz11_3); (try clear hfz11_4); (try clear hfz13_0); (try clear hfz13_1); (try clear hfz13_2); (try clear hfz13_3); (try clear hfz13_4); (try clear hfz17_0); (try clear hfz17_1); (try clear hfz17_2); (try clear hfz17_3); (try clear hfz17_4); (try clear hfz32_0); (try clear hfz32_1); (try clear hfz32_2); (try clear hfz32_3); (try clear hfz32_4); (try clear hfz37_0); (try clear hfz37_1); (try clear hfz37_2); (try clear hfz37_3); (try clear hfz37_4); (try clear hfz38_0); (try clear hfz38_1); (try clear hfz38_2); (try clear hfz38_3); (try clear hfz38_4); (try clear hfz44_0); (try clear hfz44_1); (try clear hfz44_2); (try clear hfz44_3); (try clear hfz44_4); (try clear hfz51_0); (try clear hfz51_1); (try clear hfz51_2); (try clear hfz51_3); (try clear hfz51_4); (try clear hfz52_0); (try clear hfz52_1); (try clear hfz52_2); (try clear hfz52_3); (try clear hfz52_4); (try clear hfz53_0); (try clear hfz53_1); (try clear hfz53_2); (try clear hfz53_3); (try clear hfz53_4); (try clear hfz54_0); (try clear hfz54_1); (try clear hfz54_2); (try clear hfz54_3); (try clear hfz54_4); (try clear hfz55_0); (try clear hfz55_1); (try clear hfz55_2); (try clear hfz55_3); (try clear hfz55_4); (try clear hfz57_0); (try clear hfz57_1); (try clear hfz57_2); (try clear hfz57_3); (try clear hfz57_4); (try clear hfz58_0); (try clear hfz58_1); (try clear hfz58_2); (try clear hfz58_3); (try clear hfz58_4); (try clear hfz60_0); (try clear hfz60_1); (try clear hfz60_2); (try clear hfz60_3); (try clear hfz60_4); (try clear hfz61_0); (try clear hfz61_1); (try clear hfz61_2); (try clear hfz61_3); (try clear hfz61_4)
        obtain ⟨kq, HA, HJ7, BK131, BK140, HB⟩ := hcut
        cases kq with
        | zero => exact absurd HA.out (by simp [watershedlaw04_StampBack.j0])
        | succ kj7 =>
          have H := HA.out
          clear HA
          simp only [watershedlaw04_StampBack.j0] at H
          replace H := Option.bind_eq_some_iff.mp H
          obtain ⟨⟨t164, t165, t166, t167, t168, t169⟩, A620, H⟩ := H
          replace H : (if t169 = 0 then ((stamp_LE.f a0_0 a0_1 a0_2 a0_3 a0_4 t164 t165 t166 t167 t168).bind fun t171 => (if t171 = true then (if a1 > 0 then ((stamp_LE.f t164 t165 t166 t167 t168 a0_0 a0_1 a0_2 a0_3 a0_4).bind fun t172 => (watershedlaw04_StampBack.j1 kj7 t172 a0_0 a0_1 a0_2 a0_3 a0_4)) else (watershedlaw04_StampBack.j1 kj7 false a0_0 a0_1 a0_2 a0_3 a0_4)) else (watershedlaw04_StampBack.j1 kj7 true a0_0 a0_1 a0_2 a0_3 a0_4))) else (watershedlaw04_StampBack.j1 kj7 false a0_0 a0_1 a0_2 a0_3 a0_4)) = some r := H
          have A62 := Aside0.mk A620
          clear A620
          have HC63 := Aside0.mk H
          clear H
          have hnb64 := NB131_140.out
          have hnc64 := NB140_131.out
          obtain ⟨hcz65_0, hcz65_1, hcz65_2, hcz65_3, hcz65_4, hfz65_0, hfz65_1, hfz65_2, hfz65_3, hfz65_4⟩ := yC5 BK131
          go_upto_region 13 with (first | ((with_reducible refine gate_callee (f := 20) rfl ?_); refine goesL_ (some 82) rfl rfl Tryd.func20 (by kernel_rfl) rfl #[.agg #[.int .u32 a0_0, .int .i64 a0_1, .int .u32 a0_2, .int .u32 a0_3, .int .u32 a0_4], .int .u32 a1] rfl zz0 ?_; (with_reducible refine (stamp_Later.calls a0_0 a0_1 a0_2 a0_3 a0_4 a1 t164 t165 t166 t167 t168 t169 _ A62.out).mono ?_); rintro e w66 ⟨rfl, hb⟩; refine ⟨_, rfl, ?_⟩; have n0_ := yB BK131 hb; have n1_ := yB BK140 hb; have n2_ := Aside0.mk (below_step zz4 hb); clear BK131; clear BK140; clear HB; have BK131 := n0_; have BK140 := n1_; have HB := n2_; clear n0_ n1_ n2_; (try clear hb); (try clear hb2); (try clear hk); (try clear hi)) | ((with_reducible refine gate_dst (N := 13) rfl ?_); refine box_event ?hg (N := 13) ?hd (cs := #[.int .u32 0, .int .i64 0, .int .u32 0, .int .u32 0, .int .u32 0]) (t := 25) ?hr ?_; (case hd => rfl); (case hg => rfl); (case hr => first | (go_simp; done) | (go_simp; rfl)); intro gb170 hg w67 hbox hb; have n0_ := yB BK131 hb; have n1_ := yB BK140 hb; have n2_ := Aside0.mk (below_step zz4 hb); have n3_ := Aside0.mk (hbox); have n4_ := Aside0.mk ((by rw [hg]; exact (below_size zz4) : w.heap.size ≤ gb170)); have n5_ := Aside0.mk ((by rw [hg]; exact (below_size zz4) : w.heap.size ≤ gb170)); have n6_ := yN BK131 hg; have n7_ := yM BK131 hg; have n8_ := yN BK140 hg; have n9_ := yM BK140 hg; clear BK131; clear BK140; clear HB; have BK131 := n0_; have BK140 := n1_; have HB := n2_; have BK170 := n3_; have GW170 := n4_; have GE170 := n5_; have NB131_170 := n6_; have NB170_131 := n7_; have NB140_170 := n8_; have NB170_140 := n9_; clear n0_ n1_ n2_ n3_ n4_ n5_ n6_ n7_ n8_ n9_; clear hb hbox hg; have hnb68 := NB170_131.out; have hnc68 := NB131_170.out; have hnb69 := NB170_140.out; have hnc69 := NB140_170.out; obtain ⟨hcz70_0, hcz70_1, hcz70_2, hcz70_3, hcz70_4, hfz70_0, hfz70_1, hfz70_2, hfz70_3, hfz70_4⟩ := yC5 BK170))
          (try simp only [Act.put, List.setIfInBounds_toArray, List.set_cons_zero, List.set_cons_succ])
          go_cut [101] (fun v101 wc => ∃ (kq : Nat) (x101_62 : Bool), v101 = .bool x101_62 ∧ Aside0 (watershedlaw04_StampBack.j1 kq x101_62 a0_0 a0_1 a0_2 a0_3 a0_4 = some r) ∧ Aside0 (kq ≤ kj7) ∧ Aside0 (wc.heap[gb131]? = some (.cells #[.int .u32 a0_0, .int .i64 a0_1, .int .u32 a0_2, .int .u32 a0_3, .int .u32 a0_4] 25 (0, 0))) ∧ Aside0 (wc.heap[gb140]? = some (.cells #[.int .u32 t134, .int .i64 t135, .int .u32 t136, .int .u32 t137, .int .u32 t138] 25 (0, 0))) ∧ Aside0 (wc.heap[gb170]? = some (.cells #[.int .u32 t164, .int .i64 t165, .int .u32 t166, .int .u32 t167, .int .u32 t168] 25 (0, 0))) ∧ Aside0 (Below w.heap.size w wc))
          case first =>
            have H := HC63.out
            clear HC63
            by_cases c71 : t169 = 0
            · rw [if_pos c71] at H
              have c71b0 : (t169 == 0) = true := beq_iff_eq.mpr c71
              have c71b1 : (t169 != 0) = false := bne_eq_false_iff_eq.mpr c71
              clear c71
              (first | rw [c71b0] | (simp only [i64_w, i32_w]; rw [c71b0]) | skip)
              replace H := Option.bind_eq_some_iff.mp H
              obtain ⟨t171, A720, H⟩ := H
              replace H : (if t171 = true then (if a1 > 0 then ((stamp_LE.f t164 t165 t166 t167 t168 a0_0 a0_1 a0_2 a0_3 a0_4).bind fun t172 => (watershedlaw04_StampBack.j1 kj7 t172 a0_0 a0_1 a0_2 a0_3 a0_4)) else (watershedlaw04_StampBack.j1 kj7 false a0_0 a0_1 a0_2 a0_3 a0_4)) else (watershedlaw04_StampBack.j1 kj7 true a0_0 a0_1 a0_2 a0_3 a0_4)) = some r := H
              have A72 := Aside0.mk A720
              clear A720
              by_cases c73 : t171 = true
              · subst c73
                have H1 : (if a1 > 0 then ((stamp_LE.f t164 t165 t166 t167 t168 a0_0 a0_1 a0_2 a0_3 a0_4).bind fun t172 => (watershedlaw04_StampBack.j1 kj7 t172 a0_0 a0_1 a0_2 a0_3 a0_4)) else (watershedlaw04_StampBack.j1 kj7 false a0_0 a0_1 a0_2 a0_3 a0_4)) = some r := by rw [if_pos rfl] at H; exact H
                clear H
                have H := H1
                clear H1
                by_cases c74 : a1 > 0
                · rw [if_pos c74] at H
                  have c74b0 : decide (0 < a1) = true := decide_eq_true c74
                  clear c74
                  replace H := Option.bind_eq_some_iff.mp H
                  obtain ⟨t172, A750, H⟩ := H
                  replace H : (watershedlaw04_StampBack.j1 kj7 t172 a0_0 a0_1 a0_2 a0_3 a0_4) = some r := H
                  have A75 := Aside0.mk A750
                  clear A750
                  have H' := Aside0.mk H
                  clear H
                  have hnb76 := NB131_140.out
                  have hnc76 := NB140_131.out
                  have hnb77 := NB131_170.out
                  have hnc77 := NB170_131.out
                  obtain ⟨hcz78_0, hcz78_1, hcz78_2, hcz78_3, hcz78_4, hfz78_0, hfz78_1, hfz78_2, hfz78_3, hfz78_4⟩ := yC5 BK131
                  have hnb79 := NB170_140.out
                  have hnc79 := NB140_170.out
                  obtain ⟨hcz80_0, hcz80_1, hcz80_2, hcz80_3, hcz80_4, hfz80_0, hfz80_1, hfz80_2, hfz80_3, hfz80_4⟩ := yC5 BK170
                  go_wp2_with (first | (go_at_call 14; (with_reducible refine (stamp_LE.calls a0_0 a0_1 a0_2 a0_3 a0_4 t164 t165 t166 t167 t168 true _ A72.out).mono ?_); rintro e w81 ⟨rfl, hb⟩; have n0_ := yB BK131 hb; have n1_ := yB BK140 hb; have n2_ := Aside0.mk (blk_below (g := gb170) (o := .cells #[.int .u32 t164, .int .i64 t165, .int .u32 t166, .int .u32 t167, .int .u32 t168] 25 (0, 0)) zz1 hb); have n3_ := Aside0.mk (below_step zz3 hb); clear BK131; clear BK140; clear BK170; clear HB; have BK131 := n0_; have BK140 := n1_; have BK170 := n2_; have HB := n3_; clear n0_ n1_ n2_ n3_; (try clear hb); (try clear hb2); (try clear hk); (try clear hi); obtain ⟨hcz82_0, hcz82_1, hcz82_2, hcz82_3, hcz82_4, hfz82_0, hfz82_1, hfz82_2, hfz82_3, hfz82_4⟩ := yC5 BK170; obtain ⟨hcz83_0, hcz83_1, hcz83_2, hcz83_3, hcz83_4, hfz83_0, hfz83_1, hfz83_2, hfz83_3, hfz83_4⟩ := yC5 BK131) | (go_at_call 14; (with_reducible refine (stamp_LE.calls t164 t165 t166 t167 t168 a0_0 a0_1 a0_2 a0_3 a0_4 t172 _ A75.out).mono ?_); rintro e w84 ⟨rfl, hb⟩; have n0_ := yB BK131 hb; have n1_ := yB BK140 hb; have n2_ := yB BK170 hb; have n3_ := Aside0.mk (below_step zz3 hb); clear BK131; clear BK140; clear BK170; clear HB; have BK131 := n0_; have BK140 := n1_; have BK170 := n2_; have HB := n3_; clear n0_ n1_ n2_ n3_; (try clear hb); (try clear hb2); (try clear hk); (try clear hi)))
                  go_meet
                  case rel => exact ⟨_, (t172), zz6, H', ⟨by have := HJ7.out; first | omega | exact Nat.le_refl _⟩, ⟨yF⟩, ⟨yF⟩, ⟨yF⟩, ⟨by repeat (first | (with_reducible first | exact HB.out | apply below_alloc | apply pw_below_drewN | apply below_drew1 | refine below_set ?_ GE131.out | refine below_set ?_ GE140.out | refine below_set ?_ GE170.out) | exact HB.out)⟩⟩
                · rw [if_neg c74] at H
                  have c74b0 : decide (0 < a1) = false := decide_eq_false c74
                  clear c74
                  have H' := Aside0.mk H
                  clear H
                  have hnb85 := NB131_140.out
                  have hnc85 := NB140_131.out
                  have hnb86 := NB131_170.out
                  have hnc86 := NB170_131.out
                  obtain ⟨hcz87_0, hcz87_1, hcz87_2, hcz87_3, hcz87_4, hfz87_0, hfz87_1, hfz87_2, hfz87_3, hfz87_4⟩ := yC5 BK131
                  have hnb88 := NB170_140.out
                  have hnc88 := NB140_170.out
                  obtain ⟨hcz89_0, hcz89_1, hcz89_2, hcz89_3, hcz89_4, hfz89_0, hfz89_1, hfz89_2, hfz89_3, hfz89_4⟩ := yC5 BK170
                  go_wp2_with (first | (go_at_call 14; (with_reducible refine (stamp_LE.calls a0_0 a0_1 a0_2 a0_3 a0_4 t164 t165 t166 t167 t168 true _ A72.out).mono ?_); rintro e w90 ⟨rfl, hb⟩; have n0_ := yB BK131 hb; have n1_ := yB BK140 hb; have n2_ := Aside0.mk (blk_below (g := gb170) (o := .cells #[.int .u32 t164, .int .i64 t165, .int .u32 t166, .int .u32 t167, .int .u32 t168] 25 (0, 0)) zz1 hb); have n3_ := Aside0.mk (below_step zz3 hb); clear BK131; clear BK140; clear BK170; clear HB; have BK131 := n0_; have BK140 := n1_; have BK170 := n2_; have HB := n3_; clear n0_ n1_ n2_ n3_; (try clear hb); (try clear hb2); (try clear hk); (try clear hi)))
                  go_meet
                  case rel => exact ⟨_, (false), zz6, H', ⟨by have := HJ7.out; first | omega | exact Nat.le_refl _⟩, ⟨yF⟩, ⟨yF⟩, ⟨yF⟩, ⟨by repeat (first | (with_reducible first | exact HB.out | apply below_alloc | apply pw_below_drewN | apply below_drew1 | refine below_set ?_ GE131.out | refine below_set ?_ GE140.out | refine below_set ?_ GE170.out) | exact HB.out)⟩⟩
              · replace c73 := Bool.eq_false_iff.mpr c73
                subst c73
                have H1 : (watershedlaw04_StampBack.j1 kj7 true a0_0 a0_1 a0_2 a0_3 a0_4) = some r := by rw [if_neg (show ¬ (false = true) by decide)] at H; exact H
                clear H
                have H := H1
                clear H1
                have H' := Aside0.mk H
                clear H
                have hnb91 := NB131_140.out
                have hnc91 := NB140_131.out
                have hnb92 := NB131_170.out
                have hnc92 := NB170_131.out
                obtain ⟨hcz93_0, hcz93_1, hcz93_2, hcz93_3, hcz93_4, hfz93_0, hfz93_1, hfz93_2, hfz93_3, hfz93_4⟩ := yC5 BK131
                have hnb94 := NB170_140.out
                have hnc94 := NB140_170.out
                obtain ⟨hcz95_0, hcz95_1, hcz95_2, hcz95_3, hcz95_4, hfz95_0, hfz95_1, hfz95_2, hfz95_3, hfz95_4⟩ := yC5 BK170
                go_wp2_with (first | (go_at_call 14; (with_reducible refine (stamp_LE.calls a0_0 a0_1 a0_2 a0_3 a0_4 t164 t165 t166 t167 t168 false _ A72.out).mono ?_); rintro e w96 ⟨rfl, hb⟩; have n0_ := yB BK131 hb; have n1_ := yB BK140 hb; have n2_ := Aside0.mk (blk_below (g := gb170) (o := .cells #[.int .u32 t164, .int .i64 t165, .int .u32 t166, .int .u32 t167, .int .u32 t168] 25 (0, 0)) zz1 hb); have n3_ := Aside0.mk (below_step zz3 hb); clear BK131; clear BK140; clear BK170; clear HB; have BK131 := n0_; have BK140 := n1_; have BK170 := n2_; have HB := n3_; clear n0_ n1_ n2_ n3_; (try clear hb); (try clear hb2); (try clear hk); (try clear hi)))
                go_meet
                case rel => exact ⟨_, (true), zz6, H', ⟨by have := HJ7.out; first | omega | exact Nat.le_refl _⟩, ⟨yF⟩, ⟨yF⟩, ⟨yF⟩, ⟨by repeat (first | (with_reducible first | exact HB.out | apply below_alloc | apply pw_below_drewN | apply below_drew1 | refine below_set ?_ GE131.out | refine below_set ?_ GE140.out | refine below_set ?_ GE170.out) | exact HB.out)⟩⟩
            · rw [if_neg c71] at H
              have c71b0 : (t169 == 0) = false := beq_eq_false_iff_ne.mpr c71
              have c71b1 : (t169 != 0) = true := bne_iff_ne.mpr c71
              (first | rw [c71b0] | (simp only [i64_w, i32_w]; rw [c71b0]) | skip)
              have H' := Aside0.mk H
              clear H
              go_wp2
              go_meet
              case rel => exact ⟨_, (false), zz6, H', ⟨by have := HJ7.out; first | omega | exact Nat.le_refl _⟩, ⟨yF⟩, ⟨yF⟩, ⟨by (with_reducible repeat (first | refine blk_drewN ?_ _ | refine blk_drew ?_ | refine blk_alloc ?_ _)); refine blk_put (cs := #[.int .u32 t164, .int .i64 t165, .int .u32 t166, .int .u32 t167, .int .u32 0]) ?_ 4 _ rfl; (with_reducible repeat (first | refine blk_drewN ?_ _ | refine blk_drew ?_ | refine blk_alloc ?_ _)); refine blk_put (cs := #[.int .u32 t164, .int .i64 t165, .int .u32 t166, .int .u32 0, .int .u32 0]) ?_ 3 _ rfl; (with_reducible repeat (first | refine blk_drewN ?_ _ | refine blk_drew ?_ | refine blk_alloc ?_ _)); refine blk_put (cs := #[.int .u32 t164, .int .i64 t165, .int .u32 0, .int .u32 0, .int .u32 0]) ?_ 2 _ rfl; (with_reducible repeat (first | refine blk_drewN ?_ _ | refine blk_drew ?_ | refine blk_alloc ?_ _)); refine blk_put (cs := #[.int .u32 t164, .int .i64 0, .int .u32 0, .int .u32 0, .int .u32 0]) ?_ 1 _ rfl; (with_reducible repeat (first | refine blk_drewN ?_ _ | refine blk_drew ?_ | refine blk_alloc ?_ _)); refine blk_put (cs := #[.int .u32 0, .int .i64 0, .int .u32 0, .int .u32 0, .int .u32 0]) ?_ 0 _ rfl; (with_reducible repeat (first | refine blk_drewN ?_ _ | refine blk_drew ?_ | refine blk_alloc ?_ _)); exact BK170.out⟩, ⟨by repeat (first | (with_reducible first | exact HB.out | apply below_alloc | apply pw_below_drewN | apply below_drew1 | refine below_set ?_ GE131.out | refine below_set ?_ GE140.out | refine below_set ?_ GE170.out) | exact HB.out)⟩⟩
          case rest =>
            clear HC63
            (try clear c1); (try clear c2); (try clear p2); (try clear c3); (try clear c4); (try clear c5); (try clear c6); (try clear c6b0); (try clear c6b1); (try clear p6); (try clear c7); (try clear c8); (try clear c9); (try clear c12); (try clear c13); (try clear c16); (try clear c17); (try clear c18); (try clear c18b0); (try clear c18b1); (try clear c19); (try clear c20); (try clear c22); (try clear c22b0); (try clear c22b1); (try clear c23); (try clear c23b0); (try clear c24); (try clear c24b0); (try clear c24b1); (try clear c26); (try clear c28); (try clear c29); (try clear c29b0); (try clear c29b1); (try clear c30); (try clear c30b0); (try clear c31); (try clear c35); (try clear c36); (try clear c41); (try clear c42); (try clear c43); (try clear c47); (try clear c48); (try clear c49); (try clear c50); (try clear c64); (try clear p64); (try clear c68); (try clear c69); (try clear c71); (try clear c71b0); (try clear c71b1); (try clear c73); (try clear c74); (try clear c74b0); (try clear c76); (try clear c77); (try clear c79); (try clear c85); (try clear c86); (try clear c88); (try clear c91); (try clear c92); (try clear c94); (try clear hcz11_0); (try clear hcz11_1); (try clear hcz11_2); (try clear hcz11_3); (try clear hcz11_4); (try clear hcz13_0); (try clear hcz13_1); (try clear hcz13_2); (try clear hcz13_3); (try clear hcz13_4); (try clear hcz17_0); (try clear hcz17_1); (try clear hcz17_2); (try clear hcz17_3); (try clear hcz17_4); (try clear hcz32_0); (try clear hcz32_1); (try clear hcz32_2); (try clear hcz32_3); (try clear hcz32_4); (try clear hcz37_0); (try clear hcz37_1); (try clear hcz37_2); (try clear hcz37_3); (try clear hcz37_4); (try clear hcz38_0); (try clear hcz38_1); (try clear hcz38_2); (try clear hcz38_3); (try clear hcz38_4); (try clear hcz44_0); (try clear hcz44_1); (try clear hcz44_2); (try clear hcz44_3); (try clear hcz44_4); (try clear hcz51_0); (try clear hcz51_1); (try clear hcz51_2); (try clear hcz51_3); (try clear hcz51_4); (try clear hcz52_0); (try clear hcz52_1); (try clear hcz52_2); (try clear hcz52_3); (try clear hcz52_4); (try clear hcz53_0); (try clear hcz53_1); (try clear hcz53_2); (try clear hcz53_3); (try clear hcz53_4); (try clear hcz54_0); (try clear hcz54_1); (try clear hcz54_2); (try clear hcz54_3); (try clear hcz54_4); (try clear hcz55_0); (try clear hcz55_1); (try clear hcz55_2); (try clear hcz55_3); (try clear hcz55_4); (try clear hcz57_0); (try clear hcz57_1); (try clear hcz57_2); (try clear hcz57_3); (try clear hcz57_4); (try clear hcz58_0); (try clear hcz58_1); (try clear hcz58_2); (try clear hcz58_3); (try clear hcz58_4); (try clear hcz60_0); (try clear hcz60_1); (try clear hcz60_2); (try clear hcz60_3); (try clear hcz60_4); (try clear hcz61_0); (try clear hcz61_1); (try clear hcz61_2); (try clear hcz61_3); (try clear hcz61_4); (try clear hcz65_0); (try clear hcz65_1); (try clear hcz65_2); (try clear hcz65_3); (try clear hcz65_4); (try clear hcz70_0); (try clear hcz70_1); (try clear hcz70_2); (try clear hcz70_3); (try clear hcz70_4); (try clear hcz78_0); (try clear hcz78_1); (try clear hcz78_2); (try clear hcz78_3); (try clear hcz78_4); (try clear hcz80_0); (try clear hcz80_1); (try clear hcz80_2); (try clear hcz80_3); (try clear hcz80_4); (try clear hcz82_0); (try clear hcz82_1); (try clear hcz82_2); (try clear hcz82_3); (try clear hcz82_4); (try clear hcz83_0); (try clear hcz83_1); (try clear hcz83_2); (try clear hcz83_3); (try clear hcz83_4); (try clear hcz87_0); (try clear hcz87_1); (try clear hcz87_2); (try clear hcz87_3); (try clear hcz87_4); (try clear hcz89_0); (try clear hcz89_1); (try clear hcz89_2); (try clear hcz89_3); (try clear hcz89_4); (try clear hcz93_0); (try clear hcz93_1); (try clear hcz93_2); (try clear hcz93_3); (try clear hcz93_4); (try clear hcz95_0); (try clear hcz95_1); (try clear hcz95_2); (try clear hcz95_3); (try clear hcz95_4); (try clear hfz11_0); (try clear hfz11_1); (try clear hfz11_2); (try clear hfz11_3); (try clear hfz11_4); (try clear hfz13_0); (try clear hfz13_1); (try clear hfz13_2); (try clear hfz13_3); (try clear hfz13_4); (try clear hfz17_0); (try clear hfz17_1); (try clear hfz17_2); (try clear hfz17_3); (try clear hfz17_4); (try clear hfz32_0); (try clear hfz32_1); (try clear hfz32_2); (try clear hfz32_3); (try clear hfz32_4); (try clear hfz37_0); (try clear hfz37_1); (try clear hfz37_2); (try clear hfz37_3); (try clear hfz37_4); (try clear hfz38_0); (try clear hfz38_1); (try clear hfz38_2); (try clear hfz38_3); (try clear hfz38_4); (try clear hfz44_0); (try clear hfz44_1); (try clear hfz44_2); (try clear hfz44_3); (try clear hfz44_4); (try clear hfz51_0); (try clear hfz51_1); (try clear hfz51_2); (try clear hfz51_3); (try clear hfz51_4); (try clear hfz52_0); (try clear hfz52_1); (try clear hfz52_2); (try clear hfz52_3); (try clear hfz52_4); (try clear hfz53_0); (try clear hfz53_1); (try clear hfz53_2); (try clear hfz53_3); (try clear hfz53_4); (try clear hfz54_0); (try clear hfz54_1); (try clear hfz54_2); (try clear hfz54_3); (try clear hfz54_4); (try clear hfz55_0); (try clear hfz55_1); (try clear hfz55_2); (try clear hfz55_3); (try clear hfz55_4); (try clear hfz57_0); (try clear hfz57_1); (try clear hfz57_2); (try clear hfz57_3); (try clear hfz57_4); (try clear hfz58_0); (try clear hfz58_1); (try clear hfz58_2); (try clear hfz58_3); (try clear hfz58_4); (try clear hfz60_0); (try clear hfz60_1); (try clear hfz60_2); (try clear hfz60_3); (try clear hfz60_4); (try clear hfz61_0); (try clear hfz61_1); (try clear hfz61_2); (try clear hfz61_3); (try clear hfz61_4); (try clear hfz65_0); (try clear hfz65_1); (try clear hfz65_2); (try clear hfz65_3); (try clear hfz65_4); (try clear hfz70_0); (try clear hfz70_1); (try clear hfz70_2); (try clear hfz70_3); (try clear hfz70_4); (try clear hfz78_0); (try clear hfz78_1); (try clear hfz78_2); (try clear hfz78_3); (try clear hfz78_4); (try clear hfz80_0); (try clear hfz80_1); (try clear hfz80_2); (try clear hfz80_3); (try clear hfz80_4); (try clear hfz82_0); (try clear hfz82_1); (try clear hfz82_2); (try clear hfz82_3); (try clear hfz82_4); (try clear hfz83_0); (try clear hfz83_1); (try clear hfz83_2); (try clear hfz83_3); (try clear hfz83_4); (try clear hfz87_0); (try clear hfz87_1); (try clear hfz87_2); (try clear hfz87_3); (try clear hfz87_4); (try clear hfz89_0); (try clear hfz89_1); (try clear hfz89_2); (try clear hfz89_3); (try clear hfz89_4); (try clear hfz93_0); (try clear hfz93_1); (try clear hfz93_2); (try clear hfz93_3); (try clear hfz93_4); (try clear hfz95_0); (try clear hfz95_1); (try clear hfz95_2); (try clear hfz95_3); (try clear hfz95_4); (try clear p2)
            obtain ⟨kq, x101_62, rfl, HA, HJ62, BK131, BK140, BK170, HB⟩ := hcut
            cases kq with
            | zero => exact absurd HA.out (by simp [watershedlaw04_StampBack.j1])
            | succ kj62 =>
              have H := HA.out
              clear HA
              simp only [watershedlaw04_StampBack.j1] at H
              by_cases c97 : x101_62 = true
              · subst c97
                have H1 : (none) = some r := by rw [if_pos rfl] at H; exact H
                clear H
                have H := H1
                clear H1
                exact absurd H (by simp)
              · replace c97 := Bool.eq_false_iff.mpr c97
                subst c97
                have H1 : ((stamp_Text.f a0_0 a0_1 a0_2 a0_3 a0_4).bind fun bt173 => ((stamp_Parse.f bt173.1).bind fun bt175 => ((stamp_Write.f a0_0 a0_1 a0_2 a0_3 a0_4).bind fun bt182 => ((code_New.f bt182.1).bind fun bt184 => (if bt173.2 = 0 then (if bt175.2.2.2.2.2 = 0 then (if (bt175.1 == a0_0 && (bt175.2.1 == a0_1 && ((bt175.2.2.1 == a0_2 && (bt175.2.2.2.1 == a0_3 && (bt175.2.2.2.2.1 == a0_4)))))) = true then (if bt182.2 = 0 then ((stamp_Read.f kj62 bt184.1 bt184.2).bind fun bt187 => (if (bt187.1 == a0_0 && (bt187.2.1 == a0_1 && ((bt187.2.2.1 == a0_2 && (bt187.2.2.2.1 == a0_3 && (bt187.2.2.2.2.1 == a0_4)))))) = true then ((code_Reader_End.f bt187.2.2.2.2.2.1 bt187.2.2.2.2.2.2).bind fun bt194 => (some (bt194.1 == 0))) else (none))) else (none)) else (none)) else (none)) else (none)))))) = some r := by rw [if_neg (show ¬ (false = true) by decide)] at H; exact H
                clear H
                have H := H1
                clear H1
                replace H := Option.bind_eq_some_iff.mp H
                obtain ⟨⟨t173, t174⟩, A980, H⟩ := H
                replace H : ((stamp_Parse.f t173).bind fun bt175 => ((stamp_Write.f a0_0 a0_1 a0_2 a0_3 a0_4).bind fun bt182 => ((code_New.f bt182.1).bind fun bt184 => (if t174 = 0 then (if bt175.2.2.2.2.2 = 0 then (if (bt175.1 == a0_0 && (bt175.2.1 == a0_1 && ((bt175.2.2.1 == a0_2 && (bt175.2.2.2.1 == a0_3 && (bt175.2.2.2.2.1 == a0_4)))))) = true then (if bt182.2 = 0 then ((stamp_Read.f kj62 bt184.1 bt184.2).bind fun bt187 => (if (bt187.1 == a0_0 && (bt187.2.1 == a0_1 && ((bt187.2.2.1 == a0_2 && (bt187.2.2.2.1 == a0_3 && (bt187.2.2.2.2.1 == a0_4)))))) = true then ((code_Reader_End.f bt187.2.2.2.2.2.1 bt187.2.2.2.2.2.2).bind fun bt194 => (some (bt194.1 == 0))) else (none))) else (none)) else (none)) else (none)) else (none))))) = some r := H
                have A98 := Aside0.mk A980
                clear A980
                replace H := Option.bind_eq_some_iff.mp H
                obtain ⟨⟨t175, t176, t177, t178, t179, t180⟩, A990, H⟩ := H
                replace H : ((stamp_Write.f a0_0 a0_1 a0_2 a0_3 a0_4).bind fun bt182 => ((code_New.f bt182.1).bind fun bt184 => (if t174 = 0 then (if t180 = 0 then (if (t175 == a0_0 && (t176 == a0_1 && ((t177 == a0_2 && (t178 == a0_3 && (t179 == a0_4)))))) = true then (if bt182.2 = 0 then ((stamp_Read.f kj62 bt184.1 bt184.2).bind fun bt187 => (if (bt187.1 == a0_0 && (bt187.2.1 == a0_1 && ((bt187.2.2.1 == a0_2 && (bt187.2.2.2.1 == a0_3 && (bt187.2.2.2.2.1 == a0_4)))))) = true then ((code_Reader_End.f bt187.2.2.2.2.2.1 bt187.2.2.2.2.2.2).bind fun bt194 => (some (bt194.1 == 0))) else (none))) else (none)) else (none)) else (none)) else (none)))) = some r := H
                have A99 := Aside0.mk A990
                clear A990
                replace H := Option.bind_eq_some_iff.mp H
                obtain ⟨⟨t182, t183⟩, A1000, H⟩ := H
                replace H : ((code_New.f t182).bind fun bt184 => (if t174 = 0 then (if t180 = 0 then (if (t175 == a0_0 && (t176 == a0_1 && ((t177 == a0_2 && (t178 == a0_3 && (t179 == a0_4)))))) = true then (if t183 = 0 then ((stamp_Read.f kj62 bt184.1 bt184.2).bind fun bt187 => (if (bt187.1 == a0_0 && (bt187.2.1 == a0_1 && ((bt187.2.2.1 == a0_2 && (bt187.2.2.2.1 == a0_3 && (bt187.2.2.2.2.1 == a0_4)))))) = true then ((code_Reader_End.f bt187.2.2.2.2.2.1 bt187.2.2.2.2.2.2).bind fun bt194 => (some (bt194.1 == 0))) else (none))) else (none)) else (none)) else (none)) else (none))) = some r := H
                have A100 := Aside0.mk A1000
                clear A1000
                replace H := Option.bind_eq_some_iff.mp H
                obtain ⟨⟨t184, t185⟩, A1010, H⟩ := H
                replace H : (if t174 = 0 then (if t180 = 0 then (if (t175 == a0_0 && (t176 == a0_1 && ((t177 == a0_2 && (t178 == a0_3 && (t179 == a0_4)))))) = true then (if t183 = 0 then ((stamp_Read.f kj62 t184 t185).bind fun bt187 => (if (bt187.1 == a0_0 && (bt187.2.1 == a0_1 && ((bt187.2.2.1 == a0_2 && (bt187.2.2.2.1 == a0_3 && (bt187.2.2.2.2.1 == a0_4)))))) = true then ((code_Reader_End.f bt187.2.2.2.2.2.1 bt187.2.2.2.2.2.2).bind fun bt194 => (some (bt194.1 == 0))) else (none))) else (none)) else (none)) else (none)) else (none)) = some r := H
                have A101 := Aside0.mk A1010
                clear A1010
                by_cases c102 : t174 = 0
                · rw [if_pos c102] at H
                  have c102b0 : (t174 == 0) = true := beq_iff_eq.mpr c102
                  have c102b1 : (t174 != 0) = false := bne_eq_false_iff_eq.mpr c102
                  clear c102
                  by_cases c103 : t180 = 0
                  · rw [if_pos c103] at H
                    have c103b0 : (t180 == 0) = true := beq_iff_eq.mpr c103
                    have c103b1 : (t180 != 0) = false := bne_eq_false_iff_eq.mpr c103
                    clear c103
                    by_cases c104 : (t175 == a0_0 && (t176 == a0_1 && ((t177 == a0_2 && (t178 == a0_3 && (t179 == a0_4)))))) = true
                    · rw [if_pos c104] at H
                      have c104b0 : (t175 == a0_0 && (t176 == a0_1 && ((t177 == a0_2 && (t178 == a0_3 && (t179 == a0_4)))))) = true := c104
                      (try (have c104b1 : decide (t175 = a0_0 && (t176 == a0_1 && ((t177 == a0_2 && (t178 == a0_3 && (t179 == a0_4)))))) = true := by simpa using c104))
                      (try (have c104b2 : (t175 == a0_0 && (t176 == a0_1 && ((t177 == a0_2 && (t178 == a0_3 && (t179 == a0_4)))))) = true := by simpa using c104))
                      clear c104
                      by_cases c105 : t183 = 0
                      · rw [if_pos c105] at H
                        have c105b0 : (t183 == 0) = true := beq_iff_eq.mpr c105
                        have c105b1 : (t183 != 0) = false := bne_eq_false_iff_eq.mpr c105
                        clear c105
                        replace H := Option.bind_eq_some_iff.mp H
                        obtain ⟨⟨t187, t188, t189, t190, t191, t192, t193⟩, A1060, H⟩ := H
                        replace H : (if (t187 == a0_0 && (t188 == a0_1 && ((t189 == a0_2 && (t190 == a0_3 && (t191 == a0_4)))))) = true then ((code_Reader_End.f t192 t193).bind fun bt194 => (some (bt194.1 == 0))) else (none)) = some r := H
                        have A106 := Aside0.mk A1060
                        clear A1060
                        by_cases c107 : (t187 == a0_0 && (t188 == a0_1 && ((t189 == a0_2 && (t190 == a0_3 && (t191 == a0_4)))))) = true
                        · rw [if_pos c107] at H
                          have c107b0 : (t187 == a0_0 && (t188 == a0_1 && ((t189 == a0_2 && (t190 == a0_3 && (t191 == a0_4)))))) = true := c107
                          (try (have c107b1 : decide (t187 = a0_0 && (t188 == a0_1 && ((t189 == a0_2 && (t190 == a0_3 && (t191 == a0_4)))))) = true := by simpa using c107))
                          (try (have c107b2 : (t187 == a0_0 && (t188 == a0_1 && ((t189 == a0_2 && (t190 == a0_3 && (t191 == a0_4)))))) = true := by simpa using c107))
                          clear c107
                          replace H := Option.bind_eq_some_iff.mp H
                          obtain ⟨⟨t194, t195, t196⟩, A1080, H⟩ := H
                          replace H : (some (t194 == 0)) = some r := H
                          have A108 := Aside0.mk A1080
                          clear A1080
                          obtain rfl := Option.some.inj H
                          have hnb109 := NB131_140.out
                          have hnc109 := NB140_131.out
                          have hnb110 := NB131_170.out
                          have hnc110 := NB170_131.out
                          obtain ⟨hcz111_0, hcz111_1, hcz111_2, hcz111_3, hcz111_4, hfz111_0, hfz111_1, hfz111_2, hfz111_3, hfz111_4⟩ := yC5 BK131
                          try go_wp2_with (first | ((with_reducible refine gate_callee (f := 8) rfl ?_); refine goesL_ (some 104) rfl rfl Tryd.func8 (by kernel_rfl) rfl #[.agg #[.int .u32 a0_0, .int .i64 a0_1, .int .u32 a0_2, .int .u32 a0_3, .int .u32 a0_4]] rfl zz0 ?_; (with_reducible refine (stamp_Text.calls a0_0 a0_1 a0_2 a0_3 a0_4 t173 t174 _ A98.out).mono ?_); rintro e w112 ⟨rfl, hb⟩; refine ⟨_, rfl, ?_⟩; have n0_ := yB BK131 hb; have n1_ := yB BK140 hb; have n2_ := yB BK170 hb; have n3_ := Aside0.mk (below_step zz3 hb); clear BK131; clear BK140; clear BK170; clear HB; have BK131 := n0_; have BK140 := n1_; have BK170 := n2_; have HB := n3_; clear n0_ n1_ n2_ n3_; (try clear hb); (try clear hb2); (try clear hk); (try clear hi)) | ((with_reducible refine gate_callee (f := 10) rfl ?_); refine goesL_ (some 109) rfl rfl Tryd.func10 (by kernel_rfl) rfl #[.string t173] rfl zz0 ?_; (with_reducible refine (stamp_Parse.calls t173 t175 t176 t177 t178 t179 t180 _ A99.out).mono ?_); rintro e w113 ⟨rfl, hb⟩; refine ⟨_, rfl, ?_⟩; have n0_ := yB BK131 hb; have n1_ := yB BK140 hb; have n2_ := yB BK170 hb; have n3_ := Aside0.mk (below_step zz3 hb); clear BK131; clear BK140; clear BK170; clear HB; have BK131 := n0_; have BK140 := n1_; have BK170 := n2_; have HB := n3_; clear n0_ n1_ n2_ n3_; (try clear hb); (try clear hb2); (try clear hk); (try clear hi)) | ((with_reducible refine gate_dst (N := 16) rfl ?_); refine box_event ?hg (N := 16) ?hd (cs := #[.int .u32 0, .int .i64 0, .int .u32 0, .int .u32 0, .int .u32 0]) (t := 25) ?hr ?_; (case hd => rfl); (case hg => rfl); (case hr => first | (go_simp; done) | (go_simp; rfl)); intro gb181 hg w114 hbox hb; have n0_ := yB BK131 hb; have n1_ := yB BK140 hb; have n2_ := yB BK170 hb; have n3_ := Aside0.mk (below_step zz3 hb); have n4_ := Aside0.mk (hbox); have n5_ := Aside0.mk ((by rw [hg]; exact (below_size zz3) : w.heap.size ≤ gb181)); have n6_ := Aside0.mk ((by rw [hg]; exact (below_size zz3) : w.heap.size ≤ gb181)); have n7_ := yN BK131 hg; have n8_ := yM BK131 hg; have n9_ := yN BK140 hg; have n10_ := yM BK140 hg; have n11_ := yN BK170 hg; have n12_ := yM BK170 hg; clear BK131; clear BK140; clear BK170; clear HB; have BK131 := n0_; have BK140 := n1_; have BK170 := n2_; have HB := n3_; have BK181 := n4_; have GW181 := n5_; have GE181 := n6_; have NB131_181 := n7_; have NB181_131 := n8_; have NB140_181 := n9_; have NB181_140 := n10_; have NB170_181 := n11_; have NB181_170 := n12_; clear n0_ n1_ n2_ n3_ n4_ n5_ n6_ n7_ n8_ n9_ n10_ n11_ n12_; clear hb hbox hg; have hnb115 := NB181_131.out; have hnc115 := NB131_181.out; have hnb116 := NB181_140.out; have hnc116 := NB140_181.out; have hnb117 := NB181_170.out; have hnc117 := NB170_181.out; obtain ⟨hcz118_0, hcz118_1, hcz118_2, hcz118_3, hcz118_4, hfz118_0, hfz118_1, hfz118_2, hfz118_3, hfz118_4⟩ := yC5 BK181; obtain ⟨hcz119_0, hcz119_1, hcz119_2, hcz119_3, hcz119_4, hfz119_0, hfz119_1, hfz119_2, hfz119_3, hfz119_4⟩ := yC5 BK131) | ((with_reducible refine gate_callee (f := 21) rfl ?_); refine goesL_ (some 114) rfl rfl Tryd.func21 (by kernel_rfl) rfl #[.agg #[.int .u32 a0_0, .int .i64 a0_1, .int .u32 a0_2, .int .u32 a0_3, .int .u32 a0_4]] rfl zz0 ?_; (with_reducible refine (stamp_Write.calls a0_0 a0_1 a0_2 a0_3 a0_4 t182 t183 _ A100.out).mono ?_); rintro e w120 ⟨rfl, hb⟩; refine ⟨_, rfl, ?_⟩; have n0_ := yB BK131 hb; have n1_ := yB BK140 hb; have n2_ := yB BK170 hb; have n3_ := Aside0.mk (blk_below (g := gb181) (o := .cells #[.int .u32 t175, .int .i64 t176, .int .u32 t177, .int .u32 t178, .int .u32 t179] 25 (0, 0)) (by (with_reducible repeat (first | refine blk_drewN ?_ _ | refine blk_drew ?_ | refine blk_alloc ?_ _)); refine blk_put (cs := #[.int .u32 t175, .int .i64 t176, .int .u32 t177, .int .u32 t178, .int .u32 0]) ?_ 4 _ rfl; (with_reducible repeat (first | refine blk_drewN ?_ _ | refine blk_drew ?_ | refine blk_alloc ?_ _)); refine blk_put (cs := #[.int .u32 t175, .int .i64 t176, .int .u32 t177, .int .u32 0, .int .u32 0]) ?_ 3 _ rfl; (with_reducible repeat (first | refine blk_drewN ?_ _ | refine blk_drew ?_ | refine blk_alloc ?_ _)); refine blk_put (cs := #[.int .u32 t175, .int .i64 t176, .int .u32 0, .int .u32 0, .int .u32 0]) ?_ 2 _ rfl; (with_reducible repeat (first | refine blk_drewN ?_ _ | refine blk_drew ?_ | refine blk_alloc ?_ _)); refine blk_put (cs := #[.int .u32 t175, .int .i64 0, .int .u32 0, .int .u32 0, .int .u32 0]) ?_ 1 _ rfl; (with_reducible repeat (first | refine blk_drewN ?_ _ | refine blk_drew ?_ | refine blk_alloc ?_ _)); refine blk_put (cs := #[.int .u32 0, .int .i64 0, .int .u32 0, .int .u32 0, .int .u32 0]) ?_ 0 _ rfl; (with_reducible repeat (first | refine blk_drewN ?_ _ | refine blk_drew ?_ | refine blk_alloc ?_ _)); exact BK181.out) hb); have n4_ := Aside0.mk (below_step (by repeat (first | (with_reducible first | exact HB.out | apply below_alloc | apply pw_below_drewN | apply below_drew1 | refine below_set ?_ GE131.out | refine below_set ?_ GE140.out | refine below_set ?_ GE170.out | refine below_set ?_ GE181.out) | exact HB.out)) hb); clear BK131; clear BK140; clear BK170; clear BK181; clear HB; have BK131 := n0_; have BK140 := n1_; have BK170 := n2_; have BK181 := n3_; have HB := n4_; clear n0_ n1_ n2_ n3_ n4_; (try clear hb); (try clear hb2); (try clear hk); (try clear hi)) | ((with_reducible refine gate_callee (f := 22) rfl ?_); refine goesL_ (some 118) rfl rfl Tryd.func22 (by kernel_rfl) rfl #[.string t182] rfl zz0 ?_; (with_reducible refine (code_New.calls t182 t184 t185 w _ ?side1 A101.out).mono ?_); (case side1 => repeat (first | (with_reducible first | exact HB.out | apply below_alloc | apply pw_below_drewN | apply below_drew1 | refine below_set ?_ GE131.out | refine below_set ?_ GE140.out | refine below_set ?_ GE170.out | refine below_set ?_ GE181.out) | exact HB.out)); rintro e w121 ⟨g186, rfl, hi, hb, hb2⟩; refine ⟨_, rfl, ?_⟩; have n0_ := Aside0.mk (blk_below (g := gb131) (o := .cells #[.int .u32 a0_0, .int .i64 a0_1, .int .u32 a0_2, .int .u32 a0_3, .int .u32 a0_4] 25 (0, 0)) (yF) hb2); have n1_ := Aside0.mk (blk_below (g := gb140) (o := .cells #[.int .u32 t134, .int .i64 t135, .int .u32 t136, .int .u32 t137, .int .u32 t138] 25 (0, 0)) (yF) hb2); have n2_ := Aside0.mk (blk_below (g := gb170) (o := .cells #[.int .u32 t164, .int .i64 t165, .int .u32 t166, .int .u32 t167, .int .u32 t168] 25 (0, 0)) (yF) hb2); have n3_ := Aside0.mk (blk_below (g := gb181) (o := .cells #[.int .u32 t175, .int .i64 t176, .int .u32 t177, .int .u32 t178, .int .u32 t179] 25 (0, 0)) (yF) hb2); have n4_ := Aside0.mk (hb); have n5_ := Aside0.mk (hi); have n6_ := Aside0.mk (IsS66.ne_blk hi (blk_below (g := gb131) (o := .cells #[.int .u32 a0_0, .int .i64 a0_1, .int .u32 a0_2, .int .u32 a0_3, .int .u32 a0_4] 25 (0, 0)) (yF) hb2) (by decide)); have n7_ := Aside0.mk (Ne.symm (IsS66.ne_blk hi (blk_below (g := gb131) (o := .cells #[.int .u32 a0_0, .int .i64 a0_1, .int .u32 a0_2, .int .u32 a0_3, .int .u32 a0_4] 25 (0, 0)) (yF) hb2) (by decide))); have n8_ := Aside0.mk (IsS66.ne_blk hi (blk_below (g := gb140) (o := .cells #[.int .u32 t134, .int .i64 t135, .int .u32 t136, .int .u32 t137, .int .u32 t138] 25 (0, 0)) (yF) hb2) (by decide)); have n9_ := Aside0.mk (Ne.symm (IsS66.ne_blk hi (blk_below (g := gb140) (o := .cells #[.int .u32 t134, .int .i64 t135, .int .u32 t136, .int .u32 t137, .int .u32 t138] 25 (0, 0)) (yF) hb2) (by decide))); have n10_ := Aside0.mk (IsS66.ne_blk hi (blk_below (g := gb170) (o := .cells #[.int .u32 t164, .int .i64 t165, .int .u32 t166, .int .u32 t167, .int .u32 t168] 25 (0, 0)) (yF) hb2) (by decide)); have n11_ := Aside0.mk (Ne.symm (IsS66.ne_blk hi (blk_below (g := gb170) (o := .cells #[.int .u32 t164, .int .i64 t165, .int .u32 t166, .int .u32 t167, .int .u32 t168] 25 (0, 0)) (yF) hb2) (by decide))); have n12_ := Aside0.mk (IsS66.ne_blk hi (blk_below (g := gb181) (o := .cells #[.int .u32 t175, .int .i64 t176, .int .u32 t177, .int .u32 t178, .int .u32 t179] 25 (0, 0)) (yF) hb2) (by decide)); have n13_ := Aside0.mk (Ne.symm (IsS66.ne_blk hi (blk_below (g := gb181) (o := .cells #[.int .u32 t175, .int .i64 t176, .int .u32 t177, .int .u32 t178, .int .u32 t179] 25 (0, 0)) (yF) hb2) (by decide))); clear BK131; clear BK140; clear BK170; clear BK181; clear HB; have BK131 := n0_; have BK140 := n1_; have BK170 := n2_; have BK181 := n3_; have HB := n4_; have HI186 := n5_; have NB186_131 := n6_; have NB131_186 := n7_; have NB186_140 := n8_; have NB140_186 := n9_; have NB186_170 := n10_; have NB170_186 := n11_; have NB186_181 := n12_; have NB181_186 := n13_; clear n0_ n1_ n2_ n3_ n4_ n5_ n6_ n7_ n8_ n9_ n10_ n11_ n12_ n13_; (try clear hb); (try clear hb2); (try clear hk); (try clear hi)))
                          have n0_ := Aside0.mk (blk_drew BK131.out)
                          have n1_ := Aside0.mk (blk_drew BK140.out)
                          have n2_ := Aside0.mk (blk_drew BK170.out)
                          have n3_ := Aside0.mk (blk_drew BK181.out)
                          have n4_ := Aside0.mk (IsS66.drew HI186.out)
                          have n5_ := Aside0.mk (below_drew1 HB.out)
                          clear BK131
                          clear BK140
                          clear BK170
                          clear BK181
                          clear HI186
                          clear HB
                          have BK131 := n0_
                          have BK140 := n1_
                          have BK170 := n2_
                          have BK181 := n3_
                          have HI186 := n4_
                          have HB := n5_
                          clear n0_ n1_ n2_ n3_ n4_ n5_
                          refine start_ (n := 27) (S := fun w' => w'.cell? ⟨gb181, 0, none⟩ = some (.int .u32 t175) ∧ w'.cell? ⟨gb181, 1, none⟩ = some (.int .i64 t176) ∧ w'.cell? ⟨gb181, 2, none⟩ = some (.int .u32 t177) ∧ w'.cell? ⟨gb181, 3, none⟩ = some (.int .u32 t178) ∧ w'.cell? ⟨gb181, 4, none⟩ = some (.int .u32 t179) ∧ w'.cell? ⟨gb131, 0, none⟩ = some (.int .u32 a0_0) ∧ w'.cell? ⟨gb131, 1, none⟩ = some (.int .i64 a0_1) ∧ w'.cell? ⟨gb131, 2, none⟩ = some (.int .u32 a0_2) ∧ w'.cell? ⟨gb131, 3, none⟩ = some (.int .u32 a0_3) ∧ w'.cell? ⟨gb131, 4, none⟩ = some (.int .u32 a0_4)) (ds := []) #[false, false, false, false, false, false, false, false, false, false, false, false, false, false, false, false, false, false, false, false, false, false, false, false, false, false, false] (by kernel_rfl) rfl rfl ⟨(blk_cell BK181.out 0).trans rfl, (blk_cell BK181.out 1).trans rfl, (blk_cell BK181.out 2).trans rfl, (blk_cell BK181.out 3).trans rfl, (blk_cell BK181.out 4).trans rfl, (blk_cell BK131.out 0).trans rfl, (blk_cell BK131.out 1).trans rfl, (blk_cell BK131.out 2).trans rfl, (blk_cell BK131.out 3).trans rfl, (blk_cell BK131.out 4).trans rfl⟩ (fun hHeld => ?_); refine with_tabW watershedlaw04_StampBack.tab19 watershedlaw04_StampBack.bits19 (fun HT_ HW_ => ?_)
                          generalize w121.drew = w122 at BK131 BK140 BK170 BK181 HI186 HB hHeld ⊢
                          refine pure_ (i := 0) (N := some 119) (v := ?_) (a' := ?_) #[true, false, false, false, false, false, false, false, false, false, false, false, false, false, false, false, false, false, false, false, false, false, false, false, false, false, false] rfl rfl (any_of HT_.out (by kernel_rfl)) (fun _ _ _ h => h) (Or.inl ⟨by rfl, ?_⟩) ?_ ?_
                          rotate_left
                          · intro w'
                            go_simp
                            with_reducible rfl
                          rotate_left
                          · simp only [Act.put, List.setIfInBounds_toArray, List.set_cons_zero, List.set_cons_succ, i64_w, i32_w]
                            rfl
                          refine pure_ (i := 1) (N := some 120) (v := ?_) (a' := ?_) #[true, true, false, false, false, false, false, false, false, false, false, false, false, false, false, false, false, false, false, false, false, false, false, false, false, false, false] rfl rfl (any_of HT_.out (by kernel_rfl)) (fun _ _ _ h => h) (Or.inl ⟨by rfl, ?_⟩) ?_ ?_
                          rotate_left
                          · intro w'
                            go_simp
                            with_reducible rfl
                          rotate_left
                          · simp only [Act.put, List.setIfInBounds_toArray, List.set_cons_zero, List.set_cons_succ, i64_w, i32_w]
                            rfl
                          refine pure_ (i := 2) (N := some 121) (v := ?_) (a' := ?_) #[true, true, true, false, false, false, false, false, false, false, false, false, false, false, false, false, false, false, false, false, false, false, false, false, false, false, false] rfl rfl (any_of HT_.out (by kernel_rfl)) (fun _ _ _ h => h) (Or.inl ⟨by rfl, ?_⟩) ?_ ?_
                          rotate_left
                          · intro w'
                            go_simp
                            with_reducible rfl
                          rotate_left
                          · simp only [Act.put, List.setIfInBounds_toArray, List.set_cons_zero, List.set_cons_succ, i64_w, i32_w]
                            rfl
                          refine pure_ (i := 3) (N := some 122) (v := ?_) (a' := ?_) #[true, true, true, true, false, false, false, false, false, false, false, false, false, false, false, false, false, false, false, false, false, false, false, false, false, false, false] rfl rfl (any_of HT_.out (by kernel_rfl)) (fun _ _ _ h => h) (Or.inl ⟨by rfl, ?_⟩) ?_ ?_
                          rotate_left
                          · intro w'
                            go_simp
                            with_reducible rfl
                          rotate_left
                          · simp only [Act.put, List.setIfInBounds_toArray, List.set_cons_zero, List.set_cons_succ, i64_w, i32_w]
                            rfl
                          refine pure_ (i := 4) (N := some 123) (v := ?_) (a' := ?_) #[true, true, true, true, true, false, false, false, false, false, false, false, false, false, false, false, false, false, false, false, false, false, false, false, false, false, false] rfl rfl (any_of HT_.out (by kernel_rfl)) (fun _ _ _ h => h) (Or.inl ⟨by rfl, ?_⟩) ?_ ?_
                          rotate_left
                          · intro w'
                            go_simp
                            with_reducible rfl
                          rotate_left
                          · simp only [Act.put, List.setIfInBounds_toArray, List.set_cons_zero, List.set_cons_succ, i64_w, i32_w]
                            rfl
                          refine pure_ (i := 5) (N := some 124) (v := ?_) (a' := ?_) #[true, true, true, true, true, true, false, false, false, false, false, false, false, false, false, false, false, false, false, false, false, false, false, false, false, false, false] rfl rfl (any_of HT_.out (by kernel_rfl)) (fun _ _ _ h => h) (Or.inl ⟨by rfl, ?_⟩) ?_ ?_
                          rotate_left
                          · intro w'
                            go_simp
                            with_reducible rfl
                          rotate_left
                          · simp only [Act.put, List.setIfInBounds_toArray, List.set_cons_zero, List.set_cons_succ, i64_w, i32_w]
                            rfl
                          refine pure_ (i := 6) (N := some 125) (v := ?_) (a' := ?_) #[true, true, true, true, true, true, true, false, false, false, false, false, false, false, false, false, false, false, false, false, false, false, false, false, false, false, false] rfl rfl (any_of HT_.out (by kernel_rfl)) (fun _ _ _ h => h) (Or.inl ⟨by rfl, ?_⟩) ?_ ?_
                          rotate_left
                          · intro w'
                            go_simp
                            with_reducible rfl
                          rotate_left
                          · simp only [Act.put, List.setIfInBounds_toArray, List.set_cons_zero, List.set_cons_succ, i64_w, i32_w]
                            rfl
                          refine take_ (i := 7) (N := some 126) (v := ?_) (a' := ?_) #[true, true, true, true, true, true, true, true, false, false, false, false, false, false, false, false, false, false, false, false, false, false, false, false, false, false, false] rfl rfl (take_ofW HT_.out HW_.out (by kernel_rfl)) (fun _ _ _ h => h) (Or.inl ⟨by rfl, ?_⟩) hHeld ?_ ?_
                          rotate_left
                          · rintro w' ⟨s0, s1, s2, s3, s4, s5, s6, s7, s8, s9⟩
                            go_simp
                            with_reducible rfl
                          rotate_left
                          · simp only [Act.put, List.setIfInBounds_toArray, List.set_cons_zero, List.set_cons_succ, i64_w, i32_w]
                            rfl
                          refine take_ (i := 8) (N := some 127) (v := ?_) (a' := ?_) #[true, true, true, true, true, true, true, true, true, false, false, false, false, false, false, false, false, false, false, false, false, false, false, false, false, false, false] rfl rfl (take_ofW HT_.out HW_.out (by kernel_rfl)) (fun _ _ _ h => h) (Or.inl ⟨by rfl, ?_⟩) hHeld ?_ ?_
                          rotate_left
                          · rintro w' ⟨s0, s1, s2, s3, s4, s5, s6, s7, s8, s9⟩
                            go_simp
                            with_reducible rfl
                          rotate_left
                          · simp only [Act.put, List.setIfInBounds_toArray, List.set_cons_zero, List.set_cons_succ, i64_w, i32_w]
                            rfl
                          refine pure_ (i := 9) (N := some 128) (v := ?_) (a' := ?_) #[true, true, true, true, true, true, true, true, true, true, false, false, false, false, false, false, false, false, false, false, false, false, false, false, false, false, false] rfl rfl (any_of HT_.out (by kernel_rfl)) (fun _ _ _ h => h) (Or.inl ⟨by rfl, ?_⟩) ?_ ?_
                          rotate_left
                          · intro w'
                            go_simp
                            with_reducible rfl
                          rotate_left
                          · simp only [Act.put, List.setIfInBounds_toArray, List.set_cons_zero, List.set_cons_succ, i64_w, i32_w]
                            rfl
                          refine pure_ (i := 10) (N := some 129) (v := ?_) (a' := ?_) #[true, true, true, true, true, true, true, true, true, true, true, false, false, false, false, false, false, false, false, false, false, false, false, false, false, false, false] rfl rfl (any_of HT_.out (by kernel_rfl)) (fun _ _ _ h => h) (Or.inl ⟨by rfl, ?_⟩) ?_ ?_
                          rotate_left
                          · intro w'
                            go_simp
                            with_reducible rfl
                          rotate_left
                          · simp only [Act.put, List.setIfInBounds_toArray, List.set_cons_zero, List.set_cons_succ, i64_w, i32_w]
                            rfl
                          refine pure_ (i := 11) (N := some 130) (v := ?_) (a' := ?_) #[true, true, true, true, true, true, true, true, true, true, true, true, false, false, false, false, false, false, false, false, false, false, false, false, false, false, false] rfl rfl (any_of HT_.out (by kernel_rfl)) (fun _ _ _ h => h) (Or.inl ⟨by rfl, ?_⟩) ?_ ?_
                          rotate_left
                          · intro w'
                            go_simp
                            with_reducible rfl
                          rotate_left
                          · simp only [Act.put, List.setIfInBounds_toArray, List.set_cons_zero, List.set_cons_succ, i64_w, i32_w]
                            rfl
                          refine pure_ (i := 12) (N := some 131) (v := ?_) (a' := ?_) #[true, true, true, true, true, true, true, true, true, true, true, true, true, false, false, false, false, false, false, false, false, false, false, false, false, false, false] rfl rfl (any_of HT_.out (by kernel_rfl)) (fun _ _ _ h => h) (Or.inl ⟨by rfl, ?_⟩) ?_ ?_
                          rotate_left
                          · intro w'
                            go_simp
                            with_reducible rfl
                          rotate_left
                          · simp only [Act.put, List.setIfInBounds_toArray, List.set_cons_zero, List.set_cons_succ, i64_w, i32_w]
                            rfl
                          refine pure_ (i := 13) (N := some 132) (v := ?_) (a' := ?_) #[true, true, true, true, true, true, true, true, true, true, true, true, true, true, false, false, false, false, false, false, false, false, false, false, false, false, false] rfl rfl (any_of HT_.out (by kernel_rfl)) (fun _ _ _ h => h) (Or.inl ⟨by rfl, ?_⟩) ?_ ?_
                          rotate_left
                          · intro w'
                            go_simp
                            with_reducible rfl
                          rotate_left
                          · simp only [Act.put, List.setIfInBounds_toArray, List.set_cons_zero, List.set_cons_succ, i64_w, i32_w]
                            rfl
                          refine pure_ (i := 14) (N := some 133) (v := ?_) (a' := ?_) #[true, true, true, true, true, true, true, true, true, true, true, true, true, true, true, false, false, false, false, false, false, false, false, false, false, false, false] rfl rfl (any_of HT_.out (by kernel_rfl)) (fun _ _ _ h => h) (Or.inl ⟨by rfl, ?_⟩) ?_ ?_
                          rotate_left
                          · intro w'
                            go_simp
                            with_reducible rfl
                          rotate_left
                          · simp only [Act.put, List.setIfInBounds_toArray, List.set_cons_zero, List.set_cons_succ, i64_w, i32_w]
                            rfl
                          refine pure_ (i := 15) (N := some 134) (v := ?_) (a' := ?_) #[true, true, true, true, true, true, true, true, true, true, true, true, true, true, true, true, false, false, false, false, false, false, false, false, false, false, false] rfl rfl (any_of HT_.out (by kernel_rfl)) (fun _ _ _ h => h) (Or.inl ⟨by rfl, ?_⟩) ?_ ?_
                          rotate_left
                          · intro w'
                            go_simp
                            with_reducible rfl
                          rotate_left
                          · simp only [Act.put, List.setIfInBounds_toArray, List.set_cons_zero, List.set_cons_succ, i64_w, i32_w]
                            rfl
                          refine pure_ (i := 16) (N := some 135) (v := ?_) (a' := ?_) #[true, true, true, true, true, true, true, true, true, true, true, true, true, true, true, true, true, false, false, false, false, false, false, false, false, false, false] rfl rfl (any_of HT_.out (by kernel_rfl)) (fun _ _ _ h => h) (Or.inl ⟨by rfl, ?_⟩) ?_ ?_
                          rotate_left
                          · intro w'
                            go_simp
                            with_reducible rfl
                          rotate_left
                          · simp only [Act.put, List.setIfInBounds_toArray, List.set_cons_zero, List.set_cons_succ, i64_w, i32_w]
                            rfl
                          refine take_ (i := 18) (N := some 137) (v := ?_) (a' := ?_) #[true, true, true, true, true, true, true, true, true, true, true, true, true, true, true, true, true, false, true, false, false, false, false, false, false, false, false] rfl rfl (take_ofW HT_.out HW_.out (by kernel_rfl)) (fun _ _ _ h => h) (Or.inl ⟨by rfl, ?_⟩) hHeld ?_ ?_
                          rotate_left
                          · rintro w' ⟨s0, s1, s2, s3, s4, s5, s6, s7, s8, s9⟩
                            go_simp
                            with_reducible rfl
                          rotate_left
                          · simp only [Act.put, List.setIfInBounds_toArray, List.set_cons_zero, List.set_cons_succ, i64_w, i32_w]
                            rfl
                          refine one_ (i := 17) (N := some 136) #[true, true, true, true, true, true, true, true, true, true, true, true, true, true, true, true, true, true, true, false, false, false, false, false, false, false, false] rfl rfl (one_of HT_.out (by kernel_rfl)) (by decide) (fun K hK => ?_)
                          refine goes_ Tryd.func23 (by kernel_rfl) rfl #[.pointer (some ⟨g186, 0, none⟩)] (by rfl) rfl rfl zz0 ?_
                          with_reducible refine (stamp_Read.calls kj62 g186 t184 t185 t187 t188 t189 t190 t191 t192 t193 w _ ?side1 ?side2 A106.out).mono ?_
                          (case side1 => repeat (first | (with_reducible first | exact HI186.out | apply IsS66.alloc | apply IsS66.drewN | apply IsS66.drew | apply IsS66.set_0 | apply IsS66.set_1 | refine IsS66.far ?_ NB186_131.out _ | refine IsS66.far ?_ NB186_140.out _ | refine IsS66.far ?_ NB186_170.out _ | refine IsS66.far ?_ NB186_181.out _) | exact HI186.out))
                          (case side2 => repeat (first | (with_reducible first | exact HB.out | apply below_alloc | apply pw_below_drewN | apply below_drew1 | refine below_set ?_ (IsS66.ge HI186.out) | refine below_set ?_ GE131.out | refine below_set ?_ GE140.out | refine below_set ?_ GE170.out | refine below_set ?_ GE181.out) | exact HB.out))
                          rintro e w123 ⟨rfl, hi, hb, hk⟩
                          refine ⟨_, rfl, ?_⟩
                          have n0_ := Aside0.mk (KeepBut.blk hk (g' := gb131) (o := .cells #[.int .u32 a0_0, .int .i64 a0_1, .int .u32 a0_2, .int .u32 a0_3, .int .u32 a0_4] 25 (0, 0)) (yF) NB131_186.out (by simp))
                          have n1_ := Aside0.mk (KeepBut.blk hk (g' := gb140) (o := .cells #[.int .u32 t134, .int .i64 t135, .int .u32 t136, .int .u32 t137, .int .u32 t138] 25 (0, 0)) (yF) NB140_186.out (by simp))
                          have n2_ := Aside0.mk (KeepBut.blk hk (g' := gb170) (o := .cells #[.int .u32 t164, .int .i64 t165, .int .u32 t166, .int .u32 t167, .int .u32 t168] 25 (0, 0)) (yF) NB170_186.out (by simp))
                          have n3_ := Aside0.mk (KeepBut.blk hk (g' := gb181) (o := .cells #[.int .u32 t175, .int .i64 t176, .int .u32 t177, .int .u32 t178, .int .u32 t179] 25 (0, 0)) (yF) NB181_186.out (by simp))
                          have n4_ := Aside0.mk (hb)
                          have n5_ := Aside0.mk (hi)
                          clear BK131
                          clear BK140
                          clear BK170
                          clear BK181
                          clear HB
                          clear HI186
                          have BK131 := n0_
                          have BK140 := n1_
                          have BK170 := n2_
                          have BK181 := n3_
                          have HB := n4_
                          have HI186 := n5_
                          clear n0_ n1_ n2_ n3_ n4_ n5_
                          (try clear hb)
                          (try clear hb2)
                          (try clear hk)
                          (try clear hi)
                          refine hK.out _ _ ⟨(blk_cell BK181.out 0).trans rfl, (blk_cell BK181.out 1).trans rfl, (blk_cell BK181.out 2).trans rfl, (blk_cell BK181.out 3).trans rfl, (blk_cell BK181.out 4).trans rfl, (blk_cell BK131.out 0).trans rfl, (blk_cell BK131.out 1).trans rfl, (blk_cell BK131.out 2).trans rfl, (blk_cell BK131.out 3).trans rfl, (blk_cell BK131.out 4).trans rfl⟩ (fun hHeld => ?_)
                          clear hK K
                          refine norm_ (a' := ?_) ?_ ?_
                          rotate_left
                          · show Act.put _ (some 136) _ = _
                            simp only [Act.put, List.setIfInBounds_toArray, List.set_cons_zero, List.set_cons_succ, i64_w, i32_w]
                            rfl
                          refine pure_ (i := 19) (N := some 138) (v := ?_) (a' := ?_) #[true, true, true, true, true, true, true, true, true, true, true, true, true, true, true, true, true, true, true, true, false, false, false, false, false, false, false] rfl rfl (any_of HT_.out (by kernel_rfl)) (fun _ _ _ h => h) (Or.inl ⟨by rfl, ?_⟩) ?_ ?_
                          rotate_left
                          · intro w'
                            go_simp
                            with_reducible rfl
                          rotate_left
                          · simp only [Act.put, List.setIfInBounds_toArray, List.set_cons_zero, List.set_cons_succ, i64_w, i32_w]
                            rfl
                          refine pure_ (i := 20) (N := some 139) (v := ?_) (a' := ?_) #[true, true, true, true, true, true, true, true, true, true, true, true, true, true, true, true, true, true, true, true, true, false, false, false, false, false, false] rfl rfl (any_of HT_.out (by kernel_rfl)) (fun _ _ _ h => h) (Or.inl ⟨by rfl, ?_⟩) ?_ ?_
                          rotate_left
                          · intro w'
                            go_simp
                            with_reducible rfl
                          rotate_left
                          · simp only [Act.put, List.setIfInBounds_toArray, List.set_cons_zero, List.set_cons_succ, i64_w, i32_w]
                            rfl
                          refine pure_ (i := 21) (N := some 140) (v := ?_) (a' := ?_) #[true, true, true, true, true, true, true, true, true, true, true, true, true, true, true, true, true, true, true, true, true, true, false, false, false, false, false] rfl rfl (any_of HT_.out (by kernel_rfl)) (fun _ _ _ h => h) (Or.inl ⟨by rfl, ?_⟩) ?_ ?_
                          rotate_left
                          · intro w'
                            go_simp
                            with_reducible rfl
                          rotate_left
                          · simp only [Act.put, List.setIfInBounds_toArray, List.set_cons_zero, List.set_cons_succ, i64_w, i32_w]
                            rfl
                          refine pure_ (i := 22) (N := some 141) (v := ?_) (a' := ?_) #[true, true, true, true, true, true, true, true, true, true, true, true, true, true, true, true, true, true, true, true, true, true, true, false, false, false, false] rfl rfl (any_of HT_.out (by kernel_rfl)) (fun _ _ _ h => h) (Or.inl ⟨by rfl, ?_⟩) ?_ ?_
                          rotate_left
                          · intro w'
                            go_simp
                            with_reducible rfl
                          rotate_left
                          · simp only [Act.put, List.setIfInBounds_toArray, List.set_cons_zero, List.set_cons_succ, i64_w, i32_w]
                            rfl
                          refine one_ (i := 23) (N := some 142) #[true, true, true, true, true, true, true, true, true, true, true, true, true, true, true, true, true, true, true, true, true, true, true, true, false, false, false] rfl rfl (one_of HT_.out (by kernel_rfl)) (by decide) (fun K hK => ?_)
                          refine goes_ Tryd.func24 (by kernel_rfl) rfl #[.pointer (some ⟨g186, 0, none⟩)] (by rfl) rfl rfl zz0 ?_
                          with_reducible refine (code_Reader_End.calls g186 t192 t193 t194 t195 t196 w _ ?side1 ?side2 A108.out).mono ?_
                          (case side1 => repeat (first | (with_reducible first | exact HI186.out | apply IsS66.alloc | apply IsS66.drewN | apply IsS66.drew | apply IsS66.set_0 | apply IsS66.set_1 | refine IsS66.far ?_ NB186_131.out _ | refine IsS66.far ?_ NB186_140.out _ | refine IsS66.far ?_ NB186_170.out _ | refine IsS66.far ?_ NB186_181.out _) | exact HI186.out))
                          (case side2 => repeat (first | (with_reducible first | exact HB.out | apply below_alloc | apply pw_below_drewN | apply below_drew1 | refine below_set ?_ (IsS66.ge HI186.out) | refine below_set ?_ GE131.out | refine below_set ?_ GE140.out | refine below_set ?_ GE170.out | refine below_set ?_ GE181.out) | exact HB.out))
                          rintro e w124 ⟨rfl, hi, hb, hk⟩
                          refine ⟨_, rfl, ?_⟩
                          have n0_ := Aside0.mk (KeepBut.blk hk (g' := gb131) (o := .cells #[.int .u32 a0_0, .int .i64 a0_1, .int .u32 a0_2, .int .u32 a0_3, .int .u32 a0_4] 25 (0, 0)) (yF) NB131_186.out (by simp))
                          have n1_ := Aside0.mk (KeepBut.blk hk (g' := gb140) (o := .cells #[.int .u32 t134, .int .i64 t135, .int .u32 t136, .int .u32 t137, .int .u32 t138] 25 (0, 0)) (yF) NB140_186.out (by simp))
                          have n2_ := Aside0.mk (KeepBut.blk hk (g' := gb170) (o := .cells #[.int .u32 t164, .int .i64 t165, .int .u32 t166, .int .u32 t167, .int .u32 t168] 25 (0, 0)) (yF) NB170_186.out (by simp))
                          have n3_ := Aside0.mk (KeepBut.blk hk (g' := gb181) (o := .cells #[.int .u32 t175, .int .i64 t176, .int .u32 t177, .int .u32 t178, .int .u32 t179] 25 (0, 0)) (yF) NB181_186.out (by simp))
                          have n4_ := Aside0.mk (hb)
                          have n5_ := Aside0.mk (hi)
                          clear BK131
                          clear BK140
                          clear BK170
                          clear BK181
                          clear HB
                          clear HI186
                          have BK131 := n0_
                          have BK140 := n1_
                          have BK170 := n2_
                          have BK181 := n3_
                          have HB := n4_
                          have HI186 := n5_
                          clear n0_ n1_ n2_ n3_ n4_ n5_
                          (try clear hb)
                          (try clear hb2)
                          (try clear hk)
                          (try clear hi)
                          refine hK.out _ _ ⟨(blk_cell BK181.out 0).trans rfl, (blk_cell BK181.out 1).trans rfl, (blk_cell BK181.out 2).trans rfl, (blk_cell BK181.out 3).trans rfl, (blk_cell BK181.out 4).trans rfl, (blk_cell BK131.out 0).trans rfl, (blk_cell BK131.out 1).trans rfl, (blk_cell BK131.out 2).trans rfl, (blk_cell BK131.out 3).trans rfl, (blk_cell BK131.out 4).trans rfl⟩ (fun hHeld => ?_)
                          clear hK K
                          refine norm_ (a' := ?_) ?_ ?_
                          rotate_left
                          · show Act.put _ (some 142) _ = _
                            simp only [Act.put, List.setIfInBounds_toArray, List.set_cons_zero, List.set_cons_succ, i64_w, i32_w]
                            rfl
                          refine pure_ (i := 24) (N := some 143) (v := ?_) (a' := ?_) #[true, true, true, true, true, true, true, true, true, true, true, true, true, true, true, true, true, true, true, true, true, true, true, true, true, false, false] rfl rfl (any_of HT_.out (by kernel_rfl)) (fun _ _ _ h => h) (Or.inl ⟨by rfl, ?_⟩) ?_ ?_
                          rotate_left
                          · intro w'
                            go_simp
                            with_reducible rfl
                          rotate_left
                          · simp only [Act.put, List.setIfInBounds_toArray, List.set_cons_zero, List.set_cons_succ, i64_w, i32_w]
                            rfl
                          refine pure_ (i := 25) (N := some 144) (v := ?_) (a' := ?_) #[true, true, true, true, true, true, true, true, true, true, true, true, true, true, true, true, true, true, true, true, true, true, true, true, true, true, false] rfl rfl (any_of HT_.out (by kernel_rfl)) (fun _ _ _ h => h) (Or.inl ⟨by rfl, ?_⟩) ?_ ?_
                          rotate_left
                          · intro w'
                            go_simp
                            with_reducible rfl
                          rotate_left
                          · simp only [Act.put, List.setIfInBounds_toArray, List.set_cons_zero, List.set_cons_succ, i64_w, i32_w]
                            rfl
                          refine pure_ (i := 26) (N := some 4) (v := ?_) (a' := ?_) #[true, true, true, true, true, true, true, true, true, true, true, true, true, true, true, true, true, true, true, true, true, true, true, true, true, true, true] rfl rfl (any_of HT_.out (by kernel_rfl)) (fun _ _ _ h => h) (Or.inl ⟨by rfl, ?_⟩) ?_ ?_
                          rotate_left
                          · intro w'
                            go_simp
                            with_reducible rfl
                          rotate_left
                          · simp only [Act.put, List.setIfInBounds_toArray, List.set_cons_zero, List.set_cons_succ, i64_w, i32_w]
                            rfl
                          refine done_ (done_of HT_.out (by kernel_rfl)) ?_
                          try go_wp2
                          go_ret
                          exact ⟨by first | rfl | (simp [errW_none, errW_some] <;> rfl) | (simp [*, errW_none, errW_some] <;> rfl), by repeat (first | (with_reducible first | exact HB.out | apply below_alloc | apply pw_below_drewN | apply below_drew1 | refine below_set ?_ (IsS66.ge HI186.out) | refine below_set ?_ GE131.out | refine below_set ?_ GE140.out | refine below_set ?_ GE170.out | refine below_set ?_ GE181.out) | exact HB.out)⟩
                        · rw [if_neg c107] at H
                          have c107b0 : (t187 == a0_0 && (t188 == a0_1 && ((t189 == a0_2 && (t190 == a0_3 && (t191 == a0_4)))))) = false := by simpa using c107
                          (try (have c107b1 : decide (t187 = a0_0 && (t188 == a0_1 && ((t189 == a0_2 && (t190 == a0_3 && (t191 == a0_4)))))) = false := by simpa using c107))
                          (try (have c107b2 : (t187 == a0_0 && (t188 == a0_1 && ((t189 == a0_2 && (t190 == a0_3 && (t191 == a0_4)))))) = false := by simpa using c107))
                          (try (have c107b3 : ¬ (t187 = a0_0 && (t188 == a0_1 && ((t189 == a0_2 && (t190 == a0_3 && (t191 == a0_4)))))) := by simpa using c107))
                          clear c107
                          exact absurd H (by simp)
                      · rw [if_neg c105] at H
                        have c105b0 : (t183 == 0) = false := beq_eq_false_iff_ne.mpr c105
                        have c105b1 : (t183 != 0) = true := bne_iff_ne.mpr c105
                        exact absurd H (by simp)
                    · rw [if_neg c104] at H
                      have c104b0 : (t175 == a0_0 && (t176 == a0_1 && ((t177 == a0_2 && (t178 == a0_3 && (t179 == a0_4)))))) = false := by simpa using c104
                      (try (have c104b1 : decide (t175 = a0_0 && (t176 == a0_1 && ((t177 == a0_2 && (t178 == a0_3 && (t179 == a0_4)))))) = false := by simpa using c104))
                      (try (have c104b2 : (t175 == a0_0 && (t176 == a0_1 && ((t177 == a0_2 && (t178 == a0_3 && (t179 == a0_4)))))) = false := by simpa using c104))
                      (try (have c104b3 : ¬ (t175 = a0_0 && (t176 == a0_1 && ((t177 == a0_2 && (t178 == a0_3 && (t179 == a0_4)))))) := by simpa using c104))
                      clear c104
                      exact absurd H (by simp)
                  · rw [if_neg c103] at H
                    have c103b0 : (t180 == 0) = false := beq_eq_false_iff_ne.mpr c103
                    have c103b1 : (t180 != 0) = true := bne_iff_ne.mpr c103
                    exact absurd H (by simp)
                · rw [if_neg c102] at H
                  have c102b0 : (t174 == 0) = false := beq_eq_false_iff_ne.mpr c102
                  have c102b1 : (t174 != 0) = true := bne_iff_ne.mpr c102
                  exact absurd H (by simp)
    · rw [if_neg c6] at H
      have c6b0 : (t133 == 0) = false := beq_eq_false_iff_ne.mpr c6
      have c6b1 : (t133 != 0) = true := bne_iff_ne.mpr c6
      obtain rfl := Option.some.inj H
      go_enter Tryd.func6, Tryd.ntmps6
      go_wp2_with (first | ((with_reducible refine gate_dst (N := 2) rfl ?_); refine box_event ?hg (N := 2) ?hd (cs := #[.int .u32 a0_0, .int .i64 a0_1, .int .u32 a0_2, .int .u32 a0_3, .int .u32 a0_4]) (t := 25) ?hr ?_; (case hd => rfl); (case hg => rfl); (case hr => first | (go_simp; done) | (go_simp; rfl)); intro gb131 hg w125 hbox hb; have n0_ := Aside0.mk (below_step zz2 hb); have n1_ := Aside0.mk (hbox); have n2_ := Aside0.mk ((by rw [hg]; exact (below_size zz2) : w.heap.size ≤ gb131)); have n3_ := Aside0.mk ((by rw [hg]; exact (below_size zz2) : w.heap.size ≤ gb131)); clear HB; have HB := n0_; have BK131 := n1_; have GW131 := n2_; have GE131 := n3_; clear n0_ n1_ n2_ n3_; clear hb hbox hg) | ((with_reducible refine gate_callee (f := 12) rfl ?_); refine goesL_ (some 21) rfl rfl Tryd.func12 (by kernel_rfl) rfl #[] rfl zz0 ?_; (with_reducible refine (watershedlaw04_works.calls  true _ A3.out).mono ?_); rintro e w126 ⟨rfl, hb⟩; refine ⟨_, rfl, ?_⟩; have n0_ := yB BK131 hb; have n1_ := Aside0.mk (below_step zz7 hb); clear BK131; clear HB; have BK131 := n0_; have HB := n1_; clear n0_ n1_; (try clear hb); (try clear hb2); (try clear hk); (try clear hi); obtain ⟨hcz127_0, hcz127_1, hcz127_2, hcz127_3, hcz127_4, hfz127_0, hfz127_1, hfz127_2, hfz127_3, hfz127_4⟩ := yC5 BK131) | ((with_reducible refine gate_callee (f := 13) rfl ?_); refine goesL_ (some 24) rfl rfl Tryd.func13 (by kernel_rfl) rfl #[.agg #[.int .u32 a0_0, .int .i64 a0_1, .int .u32 a0_2, .int .u32 a0_3, .int .u32 a0_4]] rfl zz0 ?_; (with_reducible refine (ref_chk.calls a0_0 a0_1 a0_2 a0_3 a0_4 t133 _ A5.out).mono ?_); rintro e w128 ⟨rfl, hb⟩; refine ⟨_, rfl, ?_⟩; have n0_ := yB BK131 hb; have n1_ := Aside0.mk (below_step zz7 hb); clear BK131; clear HB; have BK131 := n0_; have HB := n1_; clear n0_ n1_; (try clear hb); (try clear hb2); (try clear hk); (try clear hi)))
      go_ret
      exact ⟨by first | rfl | (simp [errW_none, errW_some] <;> rfl) | (simp [*, errW_none, errW_some] <;> rfl), by repeat (first | (with_reducible first | exact HB.out | apply below_alloc | apply pw_below_drewN | apply below_drew1 | refine below_set ?_ GE131.out) | exact HB.out)⟩
  · replace c4 := Bool.eq_false_iff.mpr c4
    subst c4
    have H1 : (none) = some r := by rw [if_neg (show ¬ (false = true) by decide)] at H; exact H
    clear H
    have H := H1
    clear H1
    exact absurd H (by simp)

end Go.Proofs.YtjkbgcdhhiakmaaDoor.Q04K
