/- watershedlaw12.OperOrder returns true for every input: what comes of all records of a time does not hang on their order; each key comes once, rising; what is kept by parts of keys comes to the same (lists of more than 300 records are let go by the law itself). -/
import Derived.Test.YtogainbkidgkhaaRows
import Derived.WalkKit
import Derived.ProofKit
import Derived.OpenShut
import Derived.ShutString
import Derived.ChangeOld
import Derived.Below
import Derived.SizedLaws
import Derived.Test.YtogainbkidgkhaaP12O
namespace Go.Proofs.Ytogainbkidgkhaa
set_option linter.unusedSimpArgs false
open Go.RowKit Go.Proofs.YtogainbkidgkhaaW.PrintWords Go.Proofs.YtogainbkidgkhaaW.PrintLast Go.Proofs.YtogainbkidgkhaaW.PrintMore
theorem opens_Rw : Open.Opens Try.prog 25 Q12f.k25 (fun x => F12.wfR x = true) :=
  Open.Opens.imp (Open.Opens.iso (Open.opens_struct Try.underlying25 (by kernel_rfl)
    (Open.opensF_cons (by kernel_rfl) (by rfl) (Open.opens_int (P := Try.prog) (k := .i64) (by kernel_rfl))
      (Open.opensF_last (by kernel_rfl) (Open.opens_int (P := Try.prog) (k := .i64) (by kernel_rfl))))) (fun x : P12.R => (x.f0, x.f1)) (fun t => ⟨t.1, t.2⟩) (fun _ => rfl)) (fun x h => by unfold F12.wfR; simp only [Bool.and_eq_true]; exact h)
theorem OperOrder_walk (o : P12.O6) (co : List Value) (l : List P12.R) (A : Option Addr) (c : Nat) (n : Int) (w : World) (ho : P12.kO.K w o co ∧ True)
    (hl : l.length ≤ c ∧ Kd.C Q12f.k25 w A l.length l ∧ l.length ≤ 9223372036854775807 ∧ ∀ x ∈ l, F12.wfR x = true) (hn : -9223372036854775808 ≤ n ∧ n < 9223372036854775808) :
    Calls Try.prog 7 #[.agg co.toArray, .slice A l.length c, .int .i64 n] w fun e w' => e = .returned (.bool true) ∧ Below w.heap.size w w' := by
  rw [P12.kO_open ho.1]
  exact Q12O.watershedlaw12_OperOrder.calls 10000 _ _ _ _ _ _ A c l n true w hl.2.1 hl.1 (P12O.OperOrder_f _ _ _ _ _ _ l (List.all_eq_true.2 hl.2.2.2) n ⟨hn.1, by omega⟩)
namespace operOrder
open Go.ChangeShapes Go.WideShapes Go.ChangeAt Go.RowKit
open Go.ChangeMaps (open_string shut_string)
set_option linter.unusedVariables false
theorem laidOut : laidOutB Try.prog = true := by kernel_rfl
theorem own : ownKnob Try.prog.godebug = none := by kernel_rfl
set_option maxRecDepth 100000 in
theorem lifted (os : Os) (started : os.Started) (H : Type) (enc : TypeId × Value → H) :
    ReturnsInHanded {} Try.checked os 7 .any (Rows.operOrderSpec.pre6 enc Try.prog Try.f7 Rows.operOrderRow.domain false) (Rows.operOrderSpec.post enc Try.prog Try.f7 false true false false) := by
  refine returnsInHanded_of_change_sized (C := Try.checked) own started (by kernel_rfl) Try.func7
    (ChangeSpec.witness6 (enc := enc) (C := Try.checked) false ⟨#[], #[.agg #[.string ByteArray.empty, .int .i64 0, .int .i64 0, .int .i64 0, .int .i64 0, .int .i64 0], .slice none 0 0, .int .i64 0], []⟩ 8 (by kernel_rfl) (by kernel_rfl) (by kernel_rfl) (by kernel_rfl)) ?_
  intro W base args ds gs before hval0 hW hcnd hsz0 _
  have hsz : (DataW.weightsEach Try.prog (Try.f7.params.toList ++ Rows.operOrderSpec.plain.varTypes Try.prog) (ds ++ gs)).all (· ≤ reachBytes) = true := hsz0
  have hval : ∀ (j : Nat) t v, Try.f7.params[j]? = some t → args[j]? = some v → Value.okWide Try.prog W .any base t v := hval0
  have hW' := hW
  obtain ⟨p, q, hA0, hV, rfl, hfz, hnd⟩ := hW
  have hA : DataW.TrodAll enc Try.prog W 0 (fun _ => true) true Try.f7.params.toList args.toList ds p := hA0
  rw [Try.params7] at hA hval hsz
  obtain ⟨v0, vs0, d0, ds0, p0, q0, hargs, rfl, rfl, h0, r0⟩ := trodAll_cons hA
  obtain ⟨v1, vs1, d1, ds1, p1, q1, rfl, rfl, rfl, h1, r1⟩ := trodAll_cons r0
  obtain ⟨v2, vs2, d2, ds2, p2, q2, rfl, rfl, rfl, h2, r2⟩ := trodAll_cons r1
  obtain ⟨rfl, rfl, rfl⟩ := trodAll_nil r2
  obtain rfl : args = #[v0, v1, v2] := by cases args; simp_all
  obtain ⟨rfl, rfl⟩ := trodVars_none hV
  have k0 := h0
  obtain ⟨a0, c0, rfl, w0⟩ := Open.open_struct Try.underlying23 P12.opens_O (hval 0 23 v0 rfl rfl) h0
  have k1 := h1
  obtain ⟨a1, A1, c1, rfl, w1⟩ := Open.open_slice Try.underlying26 (Open.opens_slice Try.underlying26 (by kernel_rfl) opens_Rw) (hval 1 26 v1 rfl rfl) h1
  obtain ⟨a2, rfl, rfl, rfl, w2⟩ := open_int Try.underlying3 (hval 2 3 v2 rfl rfl) h2
  have b2 : -9223372036854775808 ≤ a2 ∧ a2 < 9223372036854775808 := by have := bounds_i64 w2; omega
  clear hA0 hval0 hsz0 hsz
  refine (OperOrder_walk a0 c0 a1 A1 c1 a2 W w0 w1 b2).mono fun e W' ⟨he, bel⟩ => ?_
  subst he
  exact ⟨_, rfl, _, _, _, [], _, [], hW', trodAll_mk1 (shut_bool Try.underlying4 _), (trodAll_cons_mk (Open.trod_below laidOut (by kernel_rfl) (of_decide_eq_true (by kernel_rfl)) k0 bel) (trodAll_cons_mk (Open.trod_below laidOut (by kernel_rfl) (of_decide_eq_true (by kernel_rfl)) k1 bel) (trodAll_cons_mk (shut_int Try.underlying3 w2) trodAll_mk0))), rfl, bel.frame _, fun h => by cases h⟩
theorem over : Rows.operOrderRow.holds Try.pinned (OpenSpec.ofChange Rows.operOrderSpec) :=
  OpenClaim.holds_of_wide 7 Try.f7 rfl rfl rfl rfl rfl rfl rfl ⟨rfl, rfl, rfl, rfl, rfl⟩ rfl rfl rfl rfl rfl (by kernel_rfl) Try.func7 (by kernel_rfl)
    (of_decide_eq_true (by kernel_rfl)) (by unfold Func.isWrapper; first | (rw [if_pos (by decide +kernel)]; kernel_rfl) | (rw [if_neg (by decide +kernel)]; exact ⟨rfl, rfl⟩))
    (fun os started H enc _ => lifted os started H enc)
theorem proved : Rows.OperOrderSaid := over
#print axioms proved
end operOrder
/-- The row, under a short name, for the claim. -/
theorem operOrder_holds : Rows.OperOrderSaid := operOrder.proved
end Go.Proofs.Ytogainbkidgkhaa
