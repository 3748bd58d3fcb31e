/- watershedlaw04.StampMoves returns true for every input: what both times have, and what comes of one within a loop, outside, in the next round, and later, is the document's. -/
import Derived.Test.YtjkbgcdhhiakmaaRows
import Derived.WalkKit
import Derived.ProofKit
import Derived.OpenShut
import Derived.ShutString
import Derived.ChangeOld
import Derived.Below
import Derived.SizedLaws
import Derived.Test.YtjkbgcdhhiakmaaPQ04m
namespace Go.Proofs.Ytjkbgcdhhiakmaa
open Go.RowKit Go.Proofs.YtjkbgcdhhiakmaaW.PrintWords Go.Proofs.YtjkbgcdhhiakmaaW.PrintLast Go.Proofs.YtjkbgcdhhiakmaaW.PrintMore
theorem StampMoves_walk (a : P04.T5) (ca : List Value) (b : P04.T5) (cb : List Value) (n : Int) (w : World) (ha : P04.kT.K w a ca ∧ P04.okT a) (hb : P04.kT.K w b cb ∧ P04.okT b) (hn : 0 ≤ n ∧ n < 4294967296) :
    Calls Try.prog 5 #[.agg ca.toArray, .agg cb.toArray, .int .u32 n] w fun e w' => e = .returned (.bool true) ∧ Below w.heap.size w w' := by
  rw [P04.kT_open ha.1, P04.kT_open hb.1]
  obtain ⟨_, h0, _, h2, h3, h4⟩ := ha
  exact Q04m.watershedlaw04_StampMoves.calls 1000 _ _ _ _ _ _ _ _ _ _ n true w (P04.StampMoves_pure _ _ _ _ _ _ _ _ _ _ n (P04.u32_of h0) (P04.u32_of h2).1 (P04.u32_of h3).1 (P04.u32_of h4).1 hn)

namespace stampMoves
open Go.ChangeShapes Go.WideShapes Go.ChangeAt Go.RowKit
open Go.ChangeMaps (open_string shut_string)
set_option linter.unusedVariables false
theorem laidOut : laidOutB Try.prog = true := by kernel_rfl
theorem own : ownKnob Try.prog.godebug = none := by kernel_rfl
set_option maxRecDepth 100000 in
theorem lifted (os : Os) (started : os.Started) (H : Type) (enc : TypeId × Value → H) :
    ReturnsInHanded {} Try.checked os 5 .any (Rows.stampMovesSpec.pre6 enc Try.prog Try.f5 Rows.stampMovesRow.domain false) (Rows.stampMovesSpec.post enc Try.prog Try.f5 false true false false) := by
  refine returnsInHanded_of_change_sized (C := Try.checked) own started (by kernel_rfl) Try.func5
    (ChangeSpec.witness6 (enc := enc) (C := Try.checked) false ⟨#[], #[.agg #[.int .u32 0, .int .i64 0, .int .u32 0, .int .u32 0, .int .u32 0], .agg #[.int .u32 0, .int .i64 0, .int .u32 0, .int .u32 0, .int .u32 0], .int .u32 0], []⟩ 8 (by kernel_rfl) (by kernel_rfl) (by kernel_rfl) (by kernel_rfl)) ?_
  intro W base args ds gs before hval0 hW hcnd hsz0 _
  have hsz : (DataW.weightsEach Try.prog (Try.f5.params.toList ++ Rows.stampMovesSpec.plain.varTypes Try.prog) (ds ++ gs)).all (· ≤ reachBytes) = true := hsz0
  have hval : ∀ (j : Nat) t v, Try.f5.params[j]? = some t → args[j]? = some v → Value.okWide Try.prog W .any base t v := hval0
  have hW' := hW
  obtain ⟨p, q, hA0, hV, rfl, hfz, hnd⟩ := hW
  have hA : DataW.TrodAll enc Try.prog W 0 (fun _ => true) true Try.f5.params.toList args.toList ds p := hA0
  rw [Try.params5] at hA hval hsz
  obtain ⟨v0, vs0, d0, ds0, p0, q0, hargs, rfl, rfl, h0, r0⟩ := trodAll_cons hA
  obtain ⟨v1, vs1, d1, ds1, p1, q1, rfl, rfl, rfl, h1, r1⟩ := trodAll_cons r0
  obtain ⟨v2, vs2, d2, ds2, p2, q2, rfl, rfl, rfl, h2, r2⟩ := trodAll_cons r1
  obtain ⟨rfl, rfl, rfl⟩ := trodAll_nil r2
  obtain rfl : args = #[v0, v1, v2] := by cases args; simp_all
  obtain ⟨rfl, rfl⟩ := trodVars_none hV
  have k0 := h0
  obtain ⟨a0, c0, rfl, w0⟩ := Open.open_struct Try.underlying25 P04.opens_T (hval 0 25 v0 rfl rfl) h0
  have k1 := h1
  obtain ⟨a1, c1, rfl, w1⟩ := Open.open_struct Try.underlying25 P04.opens_T (hval 1 25 v1 rfl rfl) h1
  obtain ⟨a2, rfl, rfl, rfl, w2⟩ := open_int Try.underlying22 (hval 2 22 v2 rfl rfl) h2
  have b2 : 0 ≤ a2 ∧ a2 < 4294967296 := by have := bounds_u32 w2; omega
  clear hA0 hval0 hsz0 hsz
  refine (StampMoves_walk a0 c0 a1 c1 a2 W w0 w1 b2).mono fun e W' ⟨he, bel⟩ => ?_
  subst he
  exact ⟨_, rfl, _, _, _, [], _, [], hW', trodAll_mk1 (shut_bool Try.underlying4 _), (trodAll_cons_mk (Open.trod_below laidOut (by kernel_rfl) (of_decide_eq_true (by kernel_rfl)) k0 bel) (trodAll_cons_mk (Open.trod_below laidOut (by kernel_rfl) (of_decide_eq_true (by kernel_rfl)) k1 bel) (trodAll_cons_mk (shut_int Try.underlying22 w2) trodAll_mk0))), rfl, bel.frame _, fun h => by cases h⟩
theorem over : Rows.stampMovesRow.holds Try.pinned (OpenSpec.ofChange Rows.stampMovesSpec) :=
  OpenClaim.holds_of_wide 5 Try.f5 rfl rfl rfl rfl rfl rfl rfl ⟨rfl, rfl, rfl, rfl, rfl⟩ rfl rfl rfl rfl rfl (by kernel_rfl) Try.func5 (by kernel_rfl)
    (of_decide_eq_true (by kernel_rfl)) (by unfold Func.isWrapper; first | (rw [if_pos (by decide +kernel)]; kernel_rfl) | (rw [if_neg (by decide +kernel)]; exact ⟨rfl, rfl⟩))
    (fun os started H enc _ => lifted os started H enc)
theorem proved : Rows.StampMovesSaid := over
#print axioms proved
end stampMoves
/-- The row, under a short name, for the claim. -/
theorem stampMoves_holds : Rows.StampMovesSaid := stampMoves.proved
end Go.Proofs.Ytjkbgcdhhiakmaa
