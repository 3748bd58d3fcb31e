import Derived.Test.YtjkbgcdhhiakmaaDoorQ04wx
/- The contracts of the printed group Q04w under names of their own (laid by wip/aliases.py). -/
namespace Go.Proofs.YtjkbgcdhhiakmaaDoor.Ext
open Go.RowKit Go.Proofs.YtjkbgcdhhiakmaaDoorW.PrintWords Go.Proofs.YtjkbgcdhhiakmaaDoorW.PrintLast Go.Proofs.YtjkbgcdhhiakmaaDoorW.PrintMore
set_option linter.unusedVariables false
def stamp_there.f (a0 : Int) : Option (Bool) := Q04w.stamp_there.f a0
theorem stamp_there.calls (a0 : Int) (r : Bool) (w : World) (h : stamp_there.f a0 = some r) :
    Calls Tryd.prog 32 #[.int .i64 a0] w fun e w' => e = .returned (.bool r) ∧ Drawn0 w w' :=
  Q04w.stamp_there.calls a0 r w h
def cmp_isNaN_int.f (a0 : Int) : Option (Bool) := Q04w.cmp_isNaN_int.f a0
theorem cmp_isNaN_int.calls (a0 : Int) (r : Bool) (w : World) (h : cmp_isNaN_int.f a0 = some r) :
    Calls Tryd.prog 50 #[.int .i64 a0] w fun e w' => e = .returned (.bool r) ∧ Drawn0 w w' :=
  Q04w.cmp_isNaN_int.calls a0 r w h
def cmp_Compare_int.f (a0 : Int) (a1 : Int) : Option (Int) := Q04w.cmp_Compare_int.f a0 a1
theorem cmp_Compare_int.calls (a0 : Int) (a1 : Int) (r : Int) (w : World) (h : cmp_Compare_int.f a0 a1 = some r) :
    Calls Tryd.prog 36 #[.int .i64 a0, .int .i64 a1] w fun e w' => e = .returned (.int .i64 r) ∧ Drawn0 w w' :=
  Q04w.cmp_Compare_int.calls a0 a1 r w h
def cmp_isNaN_uint32.f (a0 : Int) : Option (Bool) := Q04w.cmp_isNaN_uint32.f a0
theorem cmp_isNaN_uint32.calls (a0 : Int) (r : Bool) (w : World) (h : cmp_isNaN_uint32.f a0 = some r) :
    Calls Tryd.prog 51 #[.int .u32 a0] w fun e w' => e = .returned (.bool r) ∧ Drawn0 w w' :=
  Q04w.cmp_isNaN_uint32.calls a0 r w h
def cmp_Compare_uint32.f (a0 : Int) (a1 : Int) : Option (Int) := Q04w.cmp_Compare_uint32.f a0 a1
theorem cmp_Compare_uint32.calls (a0 : Int) (a1 : Int) (r : Int) (w : World) (h : cmp_Compare_uint32.f a0 a1 = some r) :
    Calls Tryd.prog 37 #[.int .u32 a0, .int .u32 a1] w fun e w' => e = .returned (.int .i64 r) ∧ Drawn0 w w' :=
  Q04w.cmp_Compare_uint32.calls a0 a1 r w h
def stamp_Compare.f (a0_0 : Int) (a0_1 : Int) (a0_2 : Int) (a0_3 : Int) (a0_4 : Int) (a1_0 : Int) (a1_1 : Int) (a1_2 : Int) (a1_3 : Int) (a1_4 : Int) : Option (Int) := Q04w.stamp_Compare.f 40 a0_0 a0_1 a0_2 a0_3 a0_4 a1_0 a1_1 a1_2 a1_3 a1_4
theorem stamp_Compare.calls (a0_0 : Int) (a0_1 : Int) (a0_2 : Int) (a0_3 : Int) (a0_4 : Int) (a1_0 : Int) (a1_1 : Int) (a1_2 : Int) (a1_3 : Int) (a1_4 : Int) (r : Int) (w : World) (h : stamp_Compare.f a0_0 a0_1 a0_2 a0_3 a0_4 a1_0 a1_1 a1_2 a1_3 a1_4 = some r) :
    Calls Tryd.prog 15 #[.agg #[.int .u32 a0_0, .int .i64 a0_1, .int .u32 a0_2, .int .u32 a0_3, .int .u32 a0_4], .agg #[.int .u32 a1_0, .int .i64 a1_1, .int .u32 a1_2, .int .u32 a1_3, .int .u32 a1_4]] w fun e w' => e = .returned (.int .i64 r) ∧ Below w.heap.size w w' :=
  Q04w.stamp_Compare.calls 40 a0_0 a0_1 a0_2 a0_3 a0_4 a1_0 a1_1 a1_2 a1_3 a1_4 r w h
def stamp_Enter.f (a0_0 : Int) (a0_1 : Int) (a0_2 : Int) (a0_3 : Int) (a0_4 : Int) : Option (Int × Int × Int × Int × Int × Int) := Q04w.stamp_Enter.f a0_0 a0_1 a0_2 a0_3 a0_4
theorem stamp_Enter.calls (a0_0 : Int) (a0_1 : Int) (a0_2 : Int) (a0_3 : Int) (a0_4 : Int) (r1 : Int) (r2 : Int) (r3 : Int) (r4 : Int) (r5 : Int) (r6 : Int) (w : World) (h : stamp_Enter.f a0_0 a0_1 a0_2 a0_3 a0_4 = some (r1, r2, r3, r4, r5, r6)) :
    Calls Tryd.prog 17 #[.agg #[.int .u32 a0_0, .int .i64 a0_1, .int .u32 a0_2, .int .u32 a0_3, .int .u32 a0_4]] w fun e w' => e = .returned (.tuple #[.agg #[.int .u32 r1, .int .i64 r2, .int .u32 r3, .int .u32 r4, .int .u32 r5], .int .i64 r6]) ∧ Below w.heap.size w w' :=
  Q04w.stamp_Enter.calls a0_0 a0_1 a0_2 a0_3 a0_4 r1 r2 r3 r4 r5 r6 w h
def stamp_inner.f (a0_0 : Int) (a0_1 : Int) (a0_2 : Int) (a0_3 : Int) (a0_4 : Int) : Option (Int × Int) := Q04w.stamp_inner.f a0_0 a0_1 a0_2 a0_3 a0_4
theorem stamp_inner.calls (a0_0 : Int) (a0_1 : Int) (a0_2 : Int) (a0_3 : Int) (a0_4 : Int) (r1 : Int) (r2 : Int) (w : World) (h : stamp_inner.f a0_0 a0_1 a0_2 a0_3 a0_4 = some (r1, r2)) :
    Calls Tryd.prog 38 #[.agg #[.int .u32 a0_0, .int .i64 a0_1, .int .u32 a0_2, .int .u32 a0_3, .int .u32 a0_4]] w fun e w' => e = .returned (.tuple #[.int .i64 r1, .int .i64 r2]) ∧ Below w.heap.size w w' :=
  Q04w.stamp_inner.calls a0_0 a0_1 a0_2 a0_3 a0_4 r1 r2 w h
def stamp_Leave.f (a0_0 : Int) (a0_1 : Int) (a0_2 : Int) (a0_3 : Int) (a0_4 : Int) : Option (Int × Int × Int × Int × Int × Int) := Q04w.stamp_Leave.f a0_0 a0_1 a0_2 a0_3 a0_4
theorem stamp_Leave.calls (a0_0 : Int) (a0_1 : Int) (a0_2 : Int) (a0_3 : Int) (a0_4 : Int) (r1 : Int) (r2 : Int) (r3 : Int) (r4 : Int) (r5 : Int) (r6 : Int) (w : World) (h : stamp_Leave.f a0_0 a0_1 a0_2 a0_3 a0_4 = some (r1, r2, r3, r4, r5, r6)) :
    Calls Tryd.prog 18 #[.agg #[.int .u32 a0_0, .int .i64 a0_1, .int .u32 a0_2, .int .u32 a0_3, .int .u32 a0_4]] w fun e w' => e = .returned (.tuple #[.agg #[.int .u32 r1, .int .i64 r2, .int .u32 r3, .int .u32 r4, .int .u32 r5], .int .i64 r6]) ∧ Below w.heap.size w w' :=
  Q04w.stamp_Leave.calls a0_0 a0_1 a0_2 a0_3 a0_4 r1 r2 r3 r4 r5 r6 w h
def num_count.f (a0 : Int) : Option (Bool) := Q04w.num_count.f a0
theorem num_count.calls (a0 : Int) (r : Bool) (w : World) (h : num_count.f a0 = some r) :
    Calls Tryd.prog 52 #[.int .u32 a0] w fun e w' => e = .returned (.bool r) ∧ Drawn0 w w' :=
  Q04w.num_count.calls a0 r w h
def num_Add.f (a0 : Int) (a1 : Int) : Option (Int × Int) := Q04w.num_Add.f 40 a0 a1
theorem num_Add.calls (a0 : Int) (a1 : Int) (r1 : Int) (r2 : Int) (w : World) (h : num_Add.f a0 a1 = some (r1, r2)) :
    Calls Tryd.prog 39 #[.int .u32 a0, .int .u32 a1] w fun e w' => e = .returned (.tuple #[.int .u32 r1, .int .i64 r2]) ∧ Drawn0 w w' :=
  Q04w.num_Add.calls 40 a0 a1 r1 r2 w h
def stamp_Next.f (a0_0 : Int) (a0_1 : Int) (a0_2 : Int) (a0_3 : Int) (a0_4 : Int) : Option (Int × Int × Int × Int × Int × Int) := Q04w.stamp_Next.f 40 a0_0 a0_1 a0_2 a0_3 a0_4
theorem stamp_Next.calls (a0_0 : Int) (a0_1 : Int) (a0_2 : Int) (a0_3 : Int) (a0_4 : Int) (r1 : Int) (r2 : Int) (r3 : Int) (r4 : Int) (r5 : Int) (r6 : Int) (w : World) (h : stamp_Next.f a0_0 a0_1 a0_2 a0_3 a0_4 = some (r1, r2, r3, r4, r5, r6)) :
    Calls Tryd.prog 19 #[.agg #[.int .u32 a0_0, .int .i64 a0_1, .int .u32 a0_2, .int .u32 a0_3, .int .u32 a0_4]] w fun e w' => e = .returned (.tuple #[.agg #[.int .u32 r1, .int .i64 r2, .int .u32 r3, .int .u32 r4, .int .u32 r5], .int .i64 r6]) ∧ Below w.heap.size w w' :=
  Q04w.stamp_Next.calls 40 a0_0 a0_1 a0_2 a0_3 a0_4 r1 r2 r3 r4 r5 r6 w h
def watershedlaw04_at.f (a0 : Int) (a1 : Int) : Option (Int × Int × Int × Int × Int) := Q04w.watershedlaw04_at.f a0 a1
theorem watershedlaw04_at.calls (a0 : Int) (a1 : Int) (r1 : Int) (r2 : Int) (r3 : Int) (r4 : Int) (r5 : Int) (w : World) (h : watershedlaw04_at.f a0 a1 = some (r1, r2, r3, r4, r5)) :
    Calls Tryd.prog 34 #[.int .u32 a0, .int .u32 a1] w fun e w' => e = .returned (.agg #[.int .u32 r1, .int .i64 r2, .int .u32 r3, .int .u32 r4, .int .u32 r5]) ∧ Below w.heap.size w w' :=
  Q04w.watershedlaw04_at.calls a0 a1 r1 r2 r3 r4 r5 w h
def watershedlaw04_works.f  : Option (Bool) := Q04w.watershedlaw04_works.f 40
theorem watershedlaw04_works.calls  (r : Bool) (w : World) (h : watershedlaw04_works.f  = some r) (HV : Aside0 (VARS w) := by first | exact HV | exact ⟨Ext.vars_below HV.out (by repeat (first | (with_reducible first | exact HB.out | apply below_alloc | apply pw_below_drewN | apply below_drew1 | refine below_set ?_ (Aside0.out (by assumption))) | exact HB.out))⟩) :
    Calls Tryd.prog 12 #[] w fun e w' => e = .returned (.bool r) ∧ Below w.heap.size w w' :=
  Q04w.watershedlaw04_works.calls 40 r w h HV
end Go.Proofs.YtjkbgcdhhiakmaaDoor.Ext
