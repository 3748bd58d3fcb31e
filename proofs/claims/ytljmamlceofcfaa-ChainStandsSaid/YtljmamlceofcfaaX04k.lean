import Derived.Test.YtljmamlceofcfaaQ04cx
import Derived.Test.YtljmamlceofcfaaPQ04cc
/- What is wrong with a time, in the form that the printed texts call: told once for all groups. -/
namespace Go.Proofs.Ytljmamlceofcfaa.Ext
open Go.RowKit Go.Proofs.YtljmamlceofcfaaW.PrintWords Go.Proofs.YtljmamlceofcfaaW.PrintLast Go.Proofs.YtljmamlceofcfaaW.PrintMore Go.Proofs.Ytljmamlceofcfaa.P04
def stamp_chk.f (e d a b c : Int) : Option Int := some (chk e d a b c)
theorem stamp_chk.calls (a0_0 a0_1 a0_2 a0_3 a0_4 : Int) (r : Int) (w : World) (h : stamp_chk.f a0_0 a0_1 a0_2 a0_3 a0_4 = some r) :
    Calls Try.prog 105 #[.agg #[.int .u32 a0_0, .int .i64 a0_1, .int .u32 a0_2, .int .u32 a0_3, .int .u32 a0_4]] w fun e w' => e = .returned (.int .i64 r) ∧ Below w.heap.size w w' :=
  Q04c.stamp_Check.calls 1000 _ _ _ _ _ r w ((Check_f 988 _ _ _ _ _).trans h)
def ref_chk.f (e d a b c : Int) : Option Int := some (chk e d a b c)
theorem ref_chk.calls (a0_0 a0_1 a0_2 a0_3 a0_4 : Int) (r : Int) (w : World) (h : ref_chk.f a0_0 a0_1 a0_2 a0_3 a0_4 = some r) :
    Calls Try.prog 41 #[.agg #[.int .u32 a0_0, .int .i64 a0_1, .int .u32 a0_2, .int .u32 a0_3, .int .u32 a0_4]] w fun e w' => e = .returned (.int .i64 r) ∧ Below w.heap.size w w' :=
  Q04c.watershedref04_Check.calls 1000 _ _ _ _ _ r w ((refCheck_f 988 _ _ _ _ _).trans h)
end Go.Proofs.Ytljmamlceofcfaa.Ext
