import Derived.Test.YtljmamlceofcfaaX06R
/- The document's functions of chapters 4 and 6 in the form that the printed texts call. -/
namespace Go.Proofs.Ytljmamlceofcfaa.Ext
set_option linter.unusedSimpArgs false
set_option linter.unusedVariables false
open Go Go.Proofs Go.RowKit Go.Proofs.YtljmamlceofcfaaW.PrintWords Go.Proofs.YtljmamlceofcfaaW.PrintLast Go.Proofs.YtljmamlceofcfaaW.PrintMore Go.Proofs.Ytljmamlceofcfaa.Base Go.Proofs.Ytljmamlceofcfaa.Q06t V06
def ref06_Make.f (l : List S26) : Option (List S26 × Int) := if l.length ≤ 1000000 then some (P06r.makeR l) else none
theorem ref06_Make.calls (A0 : Option Addr) (c0 : Nat) (l0 : List S26) (r1 : List S26) (r2 : Int) (w : World) (hr0 : Kd.C k26 w A0 l0.length l0) (hc0 : l0.length ≤ c0) (h : ref06_Make.f l0 = some (r1, r2)) :
    Calls Try.prog 17 #[.slice A0 l0.length c0] w fun e w' => ∃ v0_ : Value, e = .returned (.tuple #[v0_, .int .i64 r2]) ∧ Kd.R k26 26 w' w.heap.size (fun _ => True) v0_ r1 ∧ Below w.heap.size w w' := by
  unfold ref06_Make.f at h
  split at h
  · rename_i hl
    have h := Option.some.inj h
    have := V06.refmake_c A0 c0 l0 w hr0 hc0 hl
    rw [h] at this
    exact this
  · cases h
def ref06_times.f (l : List S26) : Option Int := if l.length ≤ 1000000 then some (V06.timesE l) else none
theorem ref06_times.calls (A0 : Option Addr) (c0 : Nat) (l0 : List S26) (r : Int) (w : World) (hr0 : Kd.C k26 w A0 l0.length l0) (hc0 : l0.length ≤ c0) (h : ref06_times.f l0 = some r) :
    Calls Try.prog 70 #[.slice A0 l0.length c0] w fun e w' => e = .returned (.int .i64 r) ∧ Below w.heap.size w w' := by
  unfold ref06_times.f at h
  split at h
  · rename_i hl
    obtain rfl := Option.some.inj h
    exact Q06r.watershedref06_times.calls (2 * l0.length + 2) A0 c0 l0 _ w hr0 hc0 (P06r.times_f l0 hl _ (by omega))
  · cases h
def ref04_LE.f (a0 a1 a2 a3 a4 b0 b1 b2 b3 b4 : Int) : Option Bool := some (leB a0 a1 a2 a3 a4 b0 b1 b2 b3 b4)
theorem ref04_LE.calls (a0_0 a0_1 a0_2 a0_3 a0_4 a1_0 a1_1 a1_2 a1_3 a1_4 : Int) (r : Bool) (w : World) (h : ref04_LE.f a0_0 a0_1 a0_2 a0_3 a0_4 a1_0 a1_1 a1_2 a1_3 a1_4 = some r) :
    Calls Try.prog 40 #[.agg #[.int .u32 a0_0, .int .i64 a0_1, .int .u32 a0_2, .int .u32 a0_3, .int .u32 a0_4], .agg #[.int .u32 a1_0, .int .i64 a1_1, .int .u32 a1_2, .int .u32 a1_3, .int .u32 a1_4]] w fun e w' => e = .returned (.bool r) ∧ Below w.heap.size w w' :=
  Q06r.watershedref04_LE.calls 12 _ _ _ _ _ _ _ _ _ _ r w ((P06r.refLE_f 0 ..).trans h)
end Go.Proofs.Ytljmamlceofcfaa.Ext
