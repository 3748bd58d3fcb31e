/- watershedlaw06.ChainMakes returns true for every input: the frontier of any times, what is wrong with any list, and whether it holds any time are what the document says; the list stays as it is (lists of more than 200 times are let go by the law itself). -/
import Derived.Test.YtljmamlceofcfaaRows
import Derived.WalkKit
import Derived.ProofKit
import Derived.OpenShut
import Derived.ShutString
import Derived.ChangeOld
import Derived.Below
import Derived.SizedLaws
import Derived.Test.YtljmamlceofcfaaPQ06m
import Derived.Test.YtljmamlceofcfaaOpen6
namespace Go.Proofs.Ytljmamlceofcfaa
set_option linter.unusedSimpArgs false
open Go.RowKit Go.Proofs.YtljmamlceofcfaaW.PrintWords Go.Proofs.YtljmamlceofcfaaW.PrintLast Go.Proofs.YtljmamlceofcfaaW.PrintMore
open M06 (R)
theorem ChainMakes_f (l : List R) (t : R) (k : Nat) (hk : 1000 < k) : Q06m.watershedlaw06_ChainMakes.f k l t.f0 t.f1 t.f2.f0 t.f2.f1 t.f2.f2 = some true := by
  unfold Q06m.watershedlaw06_ChainMakes.f
  rw [PQ06m.great_f, Option.bind_some]
  by_cases h : (l.length : Int) > 200
  · rw [if_pos (decide_eq_true h)]
  · have hl : l.length ≤ 1000000 := by omega
    have hm := P06b.makeF_length l
    have e1 := PQ06m.own_f l hl
    have e2 := P06b.make_f l hl
    have e3 := P06b.rmake_f l hl
    have e4 := PQ06m.Same_f (V06.makeF l).1 (V06.makeF l).1 (by omega) k (by omega)
    have e5 := PQ06m.Check_f l hl k (by omega)
    have e6 := PQ06m.refCheck_f l hl k (by omega)
    have e7 := P06b.holds_f l hl t
    have e8 := PQ06m.Holds_f l hl t k (by omega)
    have e9 := PQ06m.Same_f l l hl k (by omega)
    rw [if_neg (by simpa using h), e1, Option.bind_some, e2, Option.bind_some, e3, Option.bind_some, e4, Option.bind_some, decide_eq_true rfl, if_pos rfl, if_pos rfl, e5, Option.bind_some, e6, Option.bind_some, if_pos rfl, e7, Option.bind_some, e8, Option.bind_some, if_pos (by simp), e9, Option.bind_some, decide_eq_true rfl]
theorem ChainMakes_walk (l : List R) (A : Option Addr) (c : Nat) (t : R) (co : List Value) (w : World)
    (hl : l.length ≤ c ∧ Kd.C Q06t.k26 w A l.length l ∧ l.length ≤ 9223372036854775807 ∧ ∀ x ∈ l, Open6.wfR x = true) (ht : Q06t.k26.K w t co ∧ Open6.wfR t = true) :
    Calls Try.prog 3 #[.slice A l.length c, .agg co.toArray] w fun e w' => e = .returned (.bool true) ∧ Below w.heap.size w w' := by
  rw [Q06t.k26_open ht.1]
  exact Q06m.watershedlaw06_ChainMakes.calls 1001 A c l _ _ _ _ _ true w hl.2.1 hl.1 (ChainMakes_f l t 1001 (by omega))
namespace chainMakes
open Go.ChangeShapes Go.WideShapes Go.ChangeAt Go.RowKit
open Go.ChangeMaps (open_string shut_string)
set_option linter.unusedVariables false
theorem laidOut : laidOutB Try.prog = true := by kernel_rfl
theorem own : ownKnob Try.prog.godebug = none := by kernel_rfl
set_option maxRecDepth 100000 in
theorem lifted (os : Os) (started : os.Started) (H : Type) (enc : TypeId × Value → H) :
    ReturnsInHanded {} Try.checked os 3 .any (Rows.chainMakesSpec.pre6 enc Try.prog Try.f3 Rows.chainMakesRow.domain false) (Rows.chainMakesSpec.post enc Try.prog Try.f3 false true false false) := by
  refine returnsInHanded_of_change_sized (C := Try.checked) own started (by kernel_rfl) Try.func3
    (ChangeSpec.witness6 (enc := enc) (C := Try.checked) false ⟨#[], #[.slice none 0 0, .agg #[.int .u32 0, .int .i64 0, .int .u32 0, .int .u32 0, .int .u32 0]], []⟩ 8 (by kernel_rfl) (by kernel_rfl) (by kernel_rfl) (by kernel_rfl)) ?_
  intro W base args ds gs before hval0 hW hcnd hsz0 _
  have hsz : (DataW.weightsEach Try.prog (Try.f3.params.toList ++ Rows.chainMakesSpec.plain.varTypes Try.prog) (ds ++ gs)).all (· ≤ reachBytes) = true := hsz0
  have hval : ∀ (j : Nat) t v, Try.f3.params[j]? = some t → args[j]? = some v → Value.okWide Try.prog W .any base t v := hval0
  have hW' := hW
  obtain ⟨p, q, hA0, hV, rfl, hfz, hnd⟩ := hW
  have hA : DataW.TrodAll enc Try.prog W 0 (fun _ => true) true Try.f3.params.toList args.toList ds p := hA0
  rw [Try.params3] at hA hval hsz
  obtain ⟨v0, vs0, d0, ds0, p0, q0, hargs, rfl, rfl, h0, r0⟩ := trodAll_cons hA
  obtain ⟨v1, vs1, d1, ds1, p1, q1, rfl, rfl, rfl, h1, r1⟩ := trodAll_cons r0
  obtain ⟨rfl, rfl, rfl⟩ := trodAll_nil r1
  obtain rfl : args = #[v0, v1] := by cases args; simp_all
  obtain ⟨rfl, rfl⟩ := trodVars_none hV
  have k0 := h0
  obtain ⟨a0, A0, c0, rfl, w0⟩ := Open.open_slice Try.underlying22 (Open.opens_slice Try.underlying22 (by kernel_rfl) Open6.opens_Rw) (hval 0 22 v0 rfl rfl) h0
  have k1 := h1
  obtain ⟨a1, c1, rfl, w1⟩ := Open.open_struct Try.underlying26 Open6.opens_Rw (hval 1 26 v1 rfl rfl) h1
  clear hA0 hval0 hsz0 hsz
  refine (ChainMakes_walk a0 A0 c0 a1 c1 W w0 w1).mono fun e W' ⟨he, bel⟩ => ?_
  subst he
  exact ⟨_, rfl, _, _, _, [], _, [], hW', trodAll_mk1 (shut_bool Try.underlying4 _), (trodAll_cons_mk (Open.trod_below laidOut (by kernel_rfl) (of_decide_eq_true (by kernel_rfl)) k0 bel) (trodAll_cons_mk (Open.trod_below laidOut (by kernel_rfl) (of_decide_eq_true (by kernel_rfl)) k1 bel) trodAll_mk0)), rfl, bel.frame _, fun h => by cases h⟩
theorem over : Rows.chainMakesRow.holds Try.pinned (OpenSpec.ofChange Rows.chainMakesSpec) :=
  OpenClaim.holds_of_wide 3 Try.f3 rfl rfl rfl rfl rfl rfl rfl ⟨rfl, rfl, rfl, rfl, rfl⟩ rfl rfl rfl rfl rfl (by kernel_rfl) Try.func3 (by kernel_rfl)
    (of_decide_eq_true (by kernel_rfl)) (by unfold Func.isWrapper; first | (rw [if_pos (by decide +kernel)]; kernel_rfl) | (rw [if_neg (by decide +kernel)]; exact ⟨rfl, rfl⟩))
    (fun os started H enc _ => lifted os started H enc)
theorem proved : Rows.ChainMakesSaid := over
#print axioms proved
end chainMakes
/-- The row, under a short name, for the claim. -/
theorem chainMakes_holds : Rows.ChainMakesSaid := chainMakes.proved
end Go.Proofs.Ytljmamlceofcfaa
