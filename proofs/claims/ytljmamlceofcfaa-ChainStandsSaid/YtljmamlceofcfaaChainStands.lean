/- watershedlaw06.ChainStands returns true for every input: how any two lists stand, and what both have (Meet, Join, LE), are what the document says (lists of more than 200 times are let go by the law itself). -/
import Derived.Test.YtljmamlceofcfaaRows
import Derived.WalkKit
import Derived.ProofKit
import Derived.OpenShut
import Derived.ShutString
import Derived.ChangeOld
import Derived.Below
import Derived.SizedLaws
import Derived.Test.YtljmamlceofcfaaPQ06s
import Derived.Test.YtljmamlceofcfaaOpen6
namespace Go.Proofs.Ytljmamlceofcfaa
set_option linter.unusedSimpArgs false
open Go.RowKit Go.Proofs.YtljmamlceofcfaaW.PrintWords Go.Proofs.YtljmamlceofcfaaW.PrintLast Go.Proofs.YtljmamlceofcfaaW.PrintMore
open M06 (R)
theorem ChainStands_walk (a : List R) (A : Option Addr) (c : Nat) (b : List R) (B : Option Addr) (d : Nat) (w : World)
    (ha : a.length ≤ c ∧ Kd.C Q06t.k26 w A a.length a ∧ a.length ≤ 9223372036854775807 ∧ ∀ x ∈ a, Open6.wfR x = true) (hb : b.length ≤ d ∧ Kd.C Q06t.k26 w B b.length b ∧ b.length ≤ 9223372036854775807 ∧ ∀ x ∈ b, Open6.wfR x = true) :
    Calls Try.prog 4 #[.slice A a.length c, .slice B b.length d] w fun e w' => e = .returned (.bool true) ∧ Below w.heap.size w w' :=
  Q06s.watershedlaw06_ChainStands.calls 20001 A c a B d b true w ha.2.1 ha.1 hb.2.1 hb.1 (PQ06s.ChainStands_f a b)
namespace chainStands
open Go.ChangeShapes Go.WideShapes Go.ChangeAt Go.RowKit
open Go.ChangeMaps (open_string shut_string)
set_option linter.unusedVariables false
theorem laidOut : laidOutB Try.prog = true := by kernel_rfl
theorem own : ownKnob Try.prog.godebug = none := by kernel_rfl
set_option maxRecDepth 100000 in
theorem lifted (os : Os) (started : os.Started) (H : Type) (enc : TypeId × Value → H) :
    ReturnsInHanded {} Try.checked os 4 .any (Rows.chainStandsSpec.pre6 enc Try.prog Try.f4 Rows.chainStandsRow.domain false) (Rows.chainStandsSpec.post enc Try.prog Try.f4 false true false false) := by
  refine returnsInHanded_of_change_sized (C := Try.checked) own started (by kernel_rfl) Try.func4
    (ChangeSpec.witness6 (enc := enc) (C := Try.checked) false ⟨#[], #[.slice none 0 0, .slice none 0 0], []⟩ 8 (by kernel_rfl) (by kernel_rfl) (by kernel_rfl) (by kernel_rfl)) ?_
  intro W base args ds gs before hval0 hW hcnd hsz0 _
  have hsz : (DataW.weightsEach Try.prog (Try.f4.params.toList ++ Rows.chainStandsSpec.plain.varTypes Try.prog) (ds ++ gs)).all (· ≤ reachBytes) = true := hsz0
  have hval : ∀ (j : Nat) t v, Try.f4.params[j]? = some t → args[j]? = some v → Value.okWide Try.prog W .any base t v := hval0
  have hW' := hW
  obtain ⟨p, q, hA0, hV, rfl, hfz, hnd⟩ := hW
  have hA : DataW.TrodAll enc Try.prog W 0 (fun _ => true) true Try.f4.params.toList args.toList ds p := hA0
  rw [Try.params4] at hA hval hsz
  obtain ⟨v0, vs0, d0, ds0, p0, q0, hargs, rfl, rfl, h0, r0⟩ := trodAll_cons hA
  obtain ⟨v1, vs1, d1, ds1, p1, q1, rfl, rfl, rfl, h1, r1⟩ := trodAll_cons r0
  obtain ⟨rfl, rfl, rfl⟩ := trodAll_nil r1
  obtain rfl : args = #[v0, v1] := by cases args; simp_all
  obtain ⟨rfl, rfl⟩ := trodVars_none hV
  have k0 := h0
  obtain ⟨a0, A0, c0, rfl, w0⟩ := Open.open_slice Try.underlying22 (Open.opens_slice Try.underlying22 (by kernel_rfl) Open6.opens_Rw) (hval 0 22 v0 rfl rfl) h0
  have k1 := h1
  obtain ⟨a1, A1, c1, rfl, w1⟩ := Open.open_slice Try.underlying22 (Open.opens_slice Try.underlying22 (by kernel_rfl) Open6.opens_Rw) (hval 1 22 v1 rfl rfl) h1
  clear hA0 hval0 hsz0 hsz
  refine (ChainStands_walk a0 A0 c0 a1 A1 c1 W w0 w1).mono fun e W' ⟨he, bel⟩ => ?_
  subst he
  exact ⟨_, rfl, _, _, _, [], _, [], hW', trodAll_mk1 (shut_bool Try.underlying4 _), (trodAll_cons_mk (Open.trod_below laidOut (by kernel_rfl) (of_decide_eq_true (by kernel_rfl)) k0 bel) (trodAll_cons_mk (Open.trod_below laidOut (by kernel_rfl) (of_decide_eq_true (by kernel_rfl)) k1 bel) trodAll_mk0)), rfl, bel.frame _, fun h => by cases h⟩
theorem over : Rows.chainStandsRow.holds Try.pinned (OpenSpec.ofChange Rows.chainStandsSpec) :=
  OpenClaim.holds_of_wide 4 Try.f4 rfl rfl rfl rfl rfl rfl rfl ⟨rfl, rfl, rfl, rfl, rfl⟩ rfl rfl rfl rfl rfl (by kernel_rfl) Try.func4 (by kernel_rfl)
    (of_decide_eq_true (by kernel_rfl)) (by unfold Func.isWrapper; first | (rw [if_pos (by decide +kernel)]; kernel_rfl) | (rw [if_neg (by decide +kernel)]; exact ⟨rfl, rfl⟩))
    (fun os started H enc _ => lifted os started H enc)
theorem proved : Rows.ChainStandsSaid := over
#print axioms proved
end chainStands
/-- The row, under a short name, for the claim. -/
theorem chainStands_holds : Rows.ChainStandsSaid := chainStands.proved
end Go.Proofs.Ytljmamlceofcfaa
