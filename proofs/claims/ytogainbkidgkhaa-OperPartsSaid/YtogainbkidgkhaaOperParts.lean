/- watershedlaw12.OperParts returns true for every input: what comes of two lists, one behind the other, is what comes of both (lists of more than 300 records are let go by the law itself). -/
import Derived.Test.YtogainbkidgkhaaRows
import Derived.WalkKit
import Derived.ProofKit
import Derived.OpenShut
import Derived.ShutString
import Derived.ChangeOld
import Derived.Below
import Derived.SizedLaws
import Derived.Test.YtogainbkidgkhaaP12P
namespace Go.Proofs.Ytogainbkidgkhaa
set_option linter.unusedSimpArgs false
open Go.RowKit Go.Proofs.YtogainbkidgkhaaW.PrintWords Go.Proofs.YtogainbkidgkhaaW.PrintLast Go.Proofs.YtogainbkidgkhaaW.PrintMore
theorem OperParts_walk (o : P12.O6) (co : List Value) (l : List P12.R) (A : Option Addr) (c : Nat) (m : List P12.R) (B : Option Addr) (d : Nat) (w : World) (ho : P12.kO.K w o co ∧ True)
    (hl : l.length ≤ c ∧ Kd.C Q12f.k25 w A l.length l ∧ l.length ≤ 9223372036854775807 ∧ ∀ x ∈ l, True)
    (hm : m.length ≤ d ∧ Kd.C Q12f.k25 w B m.length m ∧ m.length ≤ 9223372036854775807 ∧ ∀ x ∈ m, True) :
    Calls Try.prog 6 #[.agg co.toArray, .slice A l.length c, .slice B m.length d] w fun e w' => e = .returned (.bool true) ∧ Below w.heap.size w w' := by
  rw [P12.kO_open ho.1]
  exact Q12P.watershedlaw12_OperParts.calls 1000 _ _ _ _ _ _ A c l B d m true w hl.2.1 hl.1 hm.2.1 hm.1 (P12P.OperParts_f _ _ _ _ _ _ l m)
namespace operParts
open Go.ChangeShapes Go.WideShapes Go.ChangeAt Go.RowKit
open Go.ChangeMaps (open_string shut_string)
set_option linter.unusedVariables false
theorem laidOut : laidOutB Try.prog = true := by kernel_rfl
theorem own : ownKnob Try.prog.godebug = none := by kernel_rfl
set_option maxRecDepth 100000 in
theorem lifted (os : Os) (started : os.Started) (H : Type) (enc : TypeId × Value → H) :
    ReturnsInHanded {} Try.checked os 6 .any (Rows.operPartsSpec.pre6 enc Try.prog Try.f6 Rows.operPartsRow.domain false) (Rows.operPartsSpec.post enc Try.prog Try.f6 false true false false) := by
  refine returnsInHanded_of_change_sized (C := Try.checked) own started (by kernel_rfl) Try.func6
    (ChangeSpec.witness6 (enc := enc) (C := Try.checked) false ⟨#[], #[.agg #[.string ByteArray.empty, .int .i64 0, .int .i64 0, .int .i64 0, .int .i64 0, .int .i64 0], .slice none 0 0, .slice none 0 0], []⟩ 8 (by kernel_rfl) (by kernel_rfl) (by kernel_rfl) (by kernel_rfl)) ?_
  intro W base args ds gs before hval0 hW hcnd hsz0 _
  have hsz : (DataW.weightsEach Try.prog (Try.f6.params.toList ++ Rows.operPartsSpec.plain.varTypes Try.prog) (ds ++ gs)).all (· ≤ reachBytes) = true := hsz0
  have hval : ∀ (j : Nat) t v, Try.f6.params[j]? = some t → args[j]? = some v → Value.okWide Try.prog W .any base t v := hval0
  have hW' := hW
  obtain ⟨p, q, hA0, hV, rfl, hfz, hnd⟩ := hW
  have hA : DataW.TrodAll enc Try.prog W 0 (fun _ => true) true Try.f6.params.toList args.toList ds p := hA0
  rw [Try.params6] at hA hval hsz
  obtain ⟨v0, vs0, d0, ds0, p0, q0, hargs, rfl, rfl, h0, r0⟩ := trodAll_cons hA
  obtain ⟨v1, vs1, d1, ds1, p1, q1, rfl, rfl, rfl, h1, r1⟩ := trodAll_cons r0
  obtain ⟨v2, vs2, d2, ds2, p2, q2, rfl, rfl, rfl, h2, r2⟩ := trodAll_cons r1
  obtain ⟨rfl, rfl, rfl⟩ := trodAll_nil r2
  obtain rfl : args = #[v0, v1, v2] := by cases args; simp_all
  obtain ⟨rfl, rfl⟩ := trodVars_none hV
  have k0 := h0
  obtain ⟨a0, c0, rfl, w0⟩ := Open.open_struct Try.underlying23 P12.opens_O (hval 0 23 v0 rfl rfl) h0
  have k1 := h1
  obtain ⟨a1, A1, c1, rfl, w1⟩ := Open.open_slice Try.underlying26 (Open.opens_slice Try.underlying26 (by kernel_rfl) P12.opens_R) (hval 1 26 v1 rfl rfl) h1
  have k2 := h2
  obtain ⟨a2, A2, c2, rfl, w2⟩ := Open.open_slice Try.underlying26 (Open.opens_slice Try.underlying26 (by kernel_rfl) P12.opens_R) (hval 2 26 v2 rfl rfl) h2
  clear hA0 hval0 hsz0 hsz
  refine (OperParts_walk a0 c0 a1 A1 c1 a2 A2 c2 W w0 w1 w2).mono fun e W' ⟨he, bel⟩ => ?_
  subst he
  exact ⟨_, rfl, _, _, _, [], _, [], hW', trodAll_mk1 (shut_bool Try.underlying4 _), (trodAll_cons_mk (Open.trod_below laidOut (by kernel_rfl) (of_decide_eq_true (by kernel_rfl)) k0 bel) (trodAll_cons_mk (Open.trod_below laidOut (by kernel_rfl) (of_decide_eq_true (by kernel_rfl)) k1 bel) (trodAll_cons_mk (Open.trod_below laidOut (by kernel_rfl) (of_decide_eq_true (by kernel_rfl)) k2 bel) trodAll_mk0))), rfl, bel.frame _, fun h => by cases h⟩
theorem over : Rows.operPartsRow.holds Try.pinned (OpenSpec.ofChange Rows.operPartsSpec) :=
  OpenClaim.holds_of_wide 6 Try.f6 rfl rfl rfl rfl rfl rfl rfl ⟨rfl, rfl, rfl, rfl, rfl⟩ rfl rfl rfl rfl rfl (by kernel_rfl) Try.func6 (by kernel_rfl)
    (of_decide_eq_true (by kernel_rfl)) (by unfold Func.isWrapper; first | (rw [if_pos (by decide +kernel)]; kernel_rfl) | (rw [if_neg (by decide +kernel)]; exact ⟨rfl, rfl⟩))
    (fun os started H enc _ => lifted os started H enc)
theorem proved : Rows.OperPartsSaid := over
#print axioms proved
end operParts
/-- The row, under a short name, for the claim. -/
theorem operParts_holds : Rows.OperPartsSaid := operParts.proved
end Go.Proofs.Ytogainbkidgkhaa
