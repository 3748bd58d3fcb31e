import Derived.Test.YtjkbgcdhhiakmaaDoorOpen
import Derived.Test.YtjkbgcdhhiakmaaDoorBase
import Derived.Test.YtjkbgcdhhiakmaaDoorProg
import Derived.WalkKit
import Derived.ProofKit
/- How a time lies in memory. -/
namespace Go.Proofs.YtjkbgcdhhiakmaaDoor.P04
open Go.RowKit Go.Proofs.YtjkbgcdhhiakmaaDoorW.PrintWords Go.Proofs.YtjkbgcdhhiakmaaDoorW.PrintLast Go.Proofs.YtjkbgcdhhiakmaaDoorW.PrintMore
/-- Five numbers that make a time. -/
abbrev T5 := Int × Int × Int × Int × Int
def kT : Kd T5 := Kd.pair (Kd.int .u32) (Kd.pair (Kd.int .i64) (Kd.pair (Kd.int .u32) (Kd.pair (Kd.int .u32) (Kd.int .u32))))
def okT (x : T5) : Prop := (Lit.int .u32 x.1).wf = true ∧ (Lit.int .i64 x.2.1).wf = true ∧ (Lit.int .u32 x.2.2.1).wf = true ∧ (Lit.int .u32 x.2.2.2.1).wf = true ∧ (Lit.int .u32 x.2.2.2.2).wf = true
set_option maxRecDepth 100000 in
theorem opens_T : Open.Opens Tryd.prog 25 kT okT :=
  Open.opens_struct Tryd.underlying25 (by kernel_rfl)
    (Open.opensF_cons (by kernel_rfl) (by rfl) (Open.opens_int (P := Tryd.prog) (by kernel_rfl))
      (Open.opensF_cons (by kernel_rfl) (by rfl) (Open.opens_int (P := Tryd.prog) (by kernel_rfl))
        (Open.opensF_last (by kernel_rfl) (Open.opens_array Tryd.underlying23 (by kernel_rfl)
          (Open.opensF_cons (by kernel_rfl) (by rfl) (Open.opens_int (P := Tryd.prog) (by kernel_rfl))
            (Open.opensF_cons (by kernel_rfl) (by rfl) (Open.opens_int (P := Tryd.prog) (by kernel_rfl))
              (Open.opensF_last (by kernel_rfl) (Open.opens_int (P := Tryd.prog) (by kernel_rfl)))))))))
theorem kT_open {w : World} {x : T5} {cs : List Value} (h : kT.K w x cs) : cs = [.int .u32 x.1, .int .i64 x.2.1, .int .u32 x.2.2.1, .int .u32 x.2.2.2.1, .int .u32 x.2.2.2.2] := by
  obtain ⟨_, _, rfl, rfl, _, _, rfl, rfl, _, _, rfl, rfl, _, _, rfl, rfl, rfl⟩ := h
  rfl
theorem u32_of {x : Int} (h : (Lit.int .u32 x).wf = true) : 0 ≤ x ∧ x < 4294967296 := by
  have := bounds_u32 h
  omega
end Go.Proofs.YtjkbgcdhhiakmaaDoor.P04
