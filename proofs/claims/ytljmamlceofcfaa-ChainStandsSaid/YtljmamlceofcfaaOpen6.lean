import Derived.Test.YtljmamlceofcfaaQ06tx0
import Derived.Test.YtljmamlceofcfaaOpen
/- A time as an argument, and as an element of a list. -/
namespace Go.Proofs.Ytljmamlceofcfaa.Open6
set_option linter.unusedSimpArgs false
open Go.RowKit Go.Proofs.YtljmamlceofcfaaW.PrintWords Go.Proofs.YtljmamlceofcfaaW.PrintLast Go.Proofs.YtljmamlceofcfaaW.PrintMore Go.Proofs.Ytljmamlceofcfaa.Q06t
def wfR (x : S26) : Bool := (Lit.int .u32 x.f0).wf && ((Lit.int .i64 x.f1).wf && ((Lit.int .u32 x.f2.f0).wf && ((Lit.int .u32 x.f2.f1).wf && (Lit.int .u32 x.f2.f2).wf)))
abbrev T5 := Int × Int × Int × Int × Int
def kT : Kd T5 := Kd.pair (Kd.int .u32) (Kd.pair (Kd.int .i64) (Kd.pair (Kd.int .u32) (Kd.pair (Kd.int .u32) (Kd.int .u32))))
def okT (x : T5) : Prop := (Lit.int .u32 x.1).wf = true ∧ (Lit.int .i64 x.2.1).wf = true ∧ (Lit.int .u32 x.2.2.1).wf = true ∧ (Lit.int .u32 x.2.2.2.1).wf = true ∧ (Lit.int .u32 x.2.2.2.2).wf = true
set_option maxRecDepth 100000 in
theorem opens_T : Open.Opens Try.prog 26 kT okT :=
  Open.opens_struct Try.underlying26 (by kernel_rfl)
    (Open.opensF_cons (by kernel_rfl) (by rfl) (Open.opens_int (P := Try.prog) (by kernel_rfl))
      (Open.opensF_cons (by kernel_rfl) (by rfl) (Open.opens_int (P := Try.prog) (by kernel_rfl))
        (Open.opensF_last (by kernel_rfl) (Open.opens_array Try.underlying24 (by kernel_rfl)
          (Open.opensF_cons (by kernel_rfl) (by rfl) (Open.opens_int (P := Try.prog) (by kernel_rfl))
            (Open.opensF_cons (by kernel_rfl) (by rfl) (Open.opens_int (P := Try.prog) (by kernel_rfl))
              (Open.opensF_last (by kernel_rfl) (Open.opens_int (P := Try.prog) (by kernel_rfl)))))))))
theorem opens_Rw : Open.Opens Try.prog 26 k26 (fun x => wfR x = true) := by
  intro H enc w fuel cs x hx
  obtain ⟨y, hk, ho⟩ := opens_T enc w fuel cs x hx
  refine ⟨⟨y.1, y.2.1, ⟨y.2.2.1, y.2.2.2.1, y.2.2.2.2⟩⟩, hk, ?_⟩
  unfold wfR
  simp only [Bool.and_eq_true]
  exact ho
end Go.Proofs.Ytljmamlceofcfaa.Open6
