/- watershedlaw12.OperBounds returns true for every input: of each key the count is how often it is there, the least is not greater than the greatest, both are there (lists of more than 300 records are let go by the law itself). -/
import Derived.Test.YtogainbkidgkhaaRows
import Derived.WalkKit
import Derived.ProofKit
import Derived.OpenShut
import Derived.ShutString
import Derived.ChangeOld
import Derived.Below
import Derived.SizedLaws
import Derived.Test.YtogainbkidgkhaaP12B
namespace Go.Proofs.Ytogainbkidgkhaa
set_option linter.unusedSimpArgs false
open Go.RowKit Go.Proofs.YtogainbkidgkhaaW.PrintWords Go.Proofs.YtogainbkidgkhaaW.PrintLast Go.Proofs.YtogainbkidgkhaaW.PrintMore
theorem opens_Rw : Open.Opens Try.prog 25 Q12f.k25 (fun x => F12.wfR x = true) :=
  Open.Opens.imp (Open.Opens.iso (Open.opens_struct Try.underlying25 (by kernel_rfl)
    (Open.opensF_cons (by kernel_rfl) (by rfl) (Open.opens_int (P := Try.prog) (k := .i64) (by kernel_rfl))
      (Open.opensF_last (by kernel_rfl) (Open.opens_int (P := Try.prog) (k := .i64) (by kernel_rfl))))) (fun x : P12.R => (x.f0, x.f1)) (fun t => ⟨t.1, t.2⟩) (fun _ => rfl)) (fun x h => by unfold F12.wfR; simp only [Bool.and_eq_true]; exact h)
theorem OperBounds_walk (l : List P12.R) (A : Option Addr) (c : Nat) (w : World)
    (hl : l.length ≤ c ∧ Kd.C Q12f.k25 w A l.length l ∧ l.length ≤ 9223372036854775807 ∧ ∀ x ∈ l, F12.wfR x = true) :
    Calls Try.prog 5 #[.slice A l.length c] w fun e w' => e = .returned (.bool true) ∧ Below w.heap.size w w' :=
  Q12P.watershedlaw12_OperBounds.calls 200000 A c l true w hl.2.1 hl.1 (P12B.OperBounds_f l (List.all_eq_true.2 hl.2.2.2))
namespace operBounds
open Go.ChangeShapes Go.WideShapes Go.ChangeAt Go.RowKit
open Go.ChangeMaps (open_string shut_string)
set_option linter.unusedVariables false
theorem laidOut : laidOutB Try.prog = true := by kernel_rfl
theorem own : ownKnob Try.prog.godebug = none := by kernel_rfl
set_option maxRecDepth 100000 in
theorem lifted (os : Os) (started : os.Started) (H : Type) (enc : TypeId × Value → H) :
    ReturnsInHanded {} Try.checked os 5 .any (Rows.operBoundsSpec.pre6 enc Try.prog Try.f5 Rows.operBoundsRow.domain false) (Rows.operBoundsSpec.post enc Try.prog Try.f5 false true false false) := by
  refine returnsInHanded_of_change_sized (C := Try.checked) own started (by kernel_rfl) Try.func5
    (ChangeSpec.witness6 (enc := enc) (C := Try.checked) false ⟨#[], #[.slice none 0 0], []⟩ 8 (by kernel_rfl) (by kernel_rfl) (by kernel_rfl) (by kernel_rfl)) ?_
  intro W base args ds gs before hval0 hW hcnd hsz0 _
  have hsz : (DataW.weightsEach Try.prog (Try.f5.params.toList ++ Rows.operBoundsSpec.plain.varTypes Try.prog) (ds ++ gs)).all (· ≤ reachBytes) = true := hsz0
  have hval : ∀ (j : Nat) t v, Try.f5.params[j]? = some t → args[j]? = some v → Value.okWide Try.prog W .any base t v := hval0
  have hW' := hW
  obtain ⟨p, q, hA0, hV, rfl, hfz, hnd⟩ := hW
  have hA : DataW.TrodAll enc Try.prog W 0 (fun _ => true) true Try.f5.params.toList args.toList ds p := hA0
  rw [Try.params5] at hA hval hsz
  obtain ⟨v0, vs0, d0, ds0, p0, q0, hargs, rfl, rfl, h0, r0⟩ := trodAll_cons hA
  obtain ⟨rfl, rfl, rfl⟩ := trodAll_nil r0
  obtain rfl : args = #[v0] := by cases args; simp_all
  obtain ⟨rfl, rfl⟩ := trodVars_none hV
  have k0 := h0
  obtain ⟨a0, A0, c0, rfl, w0⟩ := Open.open_slice Try.underlying26 (Open.opens_slice Try.underlying26 (by kernel_rfl) opens_Rw) (hval 0 26 v0 rfl rfl) h0
  clear hA0 hval0 hsz0 hsz
  refine (OperBounds_walk a0 A0 c0 W w0).mono fun e W' ⟨he, bel⟩ => ?_
  subst he
  exact ⟨_, rfl, _, _, _, [], _, [], hW', trodAll_mk1 (shut_bool Try.underlying4 _), (trodAll_cons_mk (Open.trod_below laidOut (by kernel_rfl) (of_decide_eq_true (by kernel_rfl)) k0 bel) trodAll_mk0), rfl, bel.frame _, fun h => by cases h⟩
theorem over : Rows.operBoundsRow.holds Try.pinned (OpenSpec.ofChange Rows.operBoundsSpec) :=
  OpenClaim.holds_of_wide 5 Try.f5 rfl rfl rfl rfl rfl rfl rfl ⟨rfl, rfl, rfl, rfl, rfl⟩ rfl rfl rfl rfl rfl (by kernel_rfl) Try.func5 (by kernel_rfl)
    (of_decide_eq_true (by kernel_rfl)) (by unfold Func.isWrapper; first | (rw [if_pos (by decide +kernel)]; kernel_rfl) | (rw [if_neg (by decide +kernel)]; exact ⟨rfl, rfl⟩))
    (fun os started H enc _ => lifted os started H enc)
theorem proved : Rows.OperBoundsSaid := over
#print axioms proved
end operBounds
/-- The row, under a short name, for the claim. -/
theorem operBounds_holds : Rows.OperBoundsSaid := operBounds.proved
end Go.Proofs.Ytogainbkidgkhaa
