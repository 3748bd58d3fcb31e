/- watershedlaw17.HopOnce returns true for every input: whatever a link does, and whenever the sender begins anew, what the other end takes is what was put, in its order, each once; and once nothing is lost any more all of it comes (at most 200 acts, as the law itself says). -/
import Derived.Test.YtmpgknemhmoboaaRows
import Derived.WalkKit
import Derived.ProofKit
import Derived.OpenShut
import Derived.ShutString
import Derived.ChangeOld
import Derived.Below
import Derived.SizedLaws
import Derived.Deep.CutBlock
import Derived.Deep.DeepCutAuto
import Derived.Test.YtmpgknemhmoboaaW17
import Derived.Test.YtmpgknemhmoboaaS17w
import Derived.Test.YtmpgknemhmoboaaOpen
import Derived.Test.YtmpgknemhmoboaaPl
import Derived.Test.YtmpgknemhmoboaaArms2
namespace Go.Proofs.Ytmpgknemhmoboaa
set_option linter.unusedSimpArgs false
set_option linter.unusedVariables false
open Go.RowKit S17 M17 L17 Base Go.Proofs.YtmpgknemhmoboaaW.PrintWords Go.Proofs.YtmpgknemhmoboaaW.PrintLast Go.Proofs.YtmpgknemhmoboaaW.PrintMore Go.Proofs.Ytmpgknemhmoboaa.Q17h
theorem umod (x m : Int) (h : 0 < m ∧ m ≤ 1000) : ∃ N : Nat, wrap64 ((IntKind.u64.wrap x).tmod m) = N ∧ (N : Int) < m := by
  have h1 : IntKind.u64.wrap x = x % 18446744073709551616 := IntKind.wrap_u64 x
  have h2 : 0 ≤ x % 18446744073709551616 := Int.emod_nonneg _ (by omega)
  rw [h1]
  have h3 := Int.tmod_nonneg m h2
  have h4 := Int.tmod_lt_of_pos (x % 18446744073709551616) h.1
  generalize (x % 18446744073709551616).tmod m = y at h3 h4 ⊢
  exact ⟨y.toNat, by rw [Pl.w64 (by omega) (by omega)]; omega, by omega⟩
set_option maxRecDepth 100000 in
set_option maxHeartbeats 100000000 in
theorem HopOnce_walk (ops : List SLk) (A : Option Addr) (c : Nat) (wd0 wt0 : Int) (w : World) (hx0 : ops.length ≤ c ∧ Kd.C kLk w A ops.length ops ∧ ops.length ≤ 9223372036854775807 ∧ ∀ x ∈ ops, (Lit.int .i64 x.kind).wf = true ∧ (Lit.int .i64 x.at_).wf = true) (_b0 : -9223372036854775808 ≤ wd0 ∧ wd0 < 9223372036854775808) (_b1 : -9223372036854775808 ≤ wt0 ∧ wt0 < 9223372036854775808) :
    Calls Try.prog 8 #[.slice A ops.length c, .int .i64 wd0, .int .i64 wt0] w fun e w' => e = .returned (.bool true) ∧ Below w.heap.size w w' := by
  have HX : Aside0 (ops.length ≤ c ∧ Kd.C kLk w A ops.length ops ∧ ops.length ≤ 9223372036854775807) := ⟨hx0.1, hx0.2.1, hx0.2.2.1⟩
  have HB := Aside0.mk (Below.refl w.heap.size w)
  clear hx0
  go_enter Try.func8, Try.ntmps8
  go_wp2_with fail
  refine (W17.works_c _).mono ?_
  rintro e w1 ⟨rfl, hb⟩
  have HB1 := Aside0.mk hb
  clear hb HB
  have HB := HB1
  clear HB1
  go_wp2_with fail
  obtain ⟨M, hM, hM1⟩ := umod wd0 16 (by omega)
  obtain ⟨N, hN, hN1⟩ := umod wt0 9 (by omega)
  rw [hM, hN, show wrap64 (1 + (M : Int)) = M + 1 from by rw [Pl.w64 (by omega) (by omega)]; omega, show wrap64 (1 + (N : Int)) = N + 1 from by rw [Pl.w64 (by omega) (by omega)]; omega]
  obtain ⟨wd, hwd⟩ : ∃ wd : Int, (M : Int) + 1 = wd := ⟨_, rfl⟩
  obtain ⟨wt, hwt⟩ : ∃ wt : Int, (N : Int) + 1 = wt := ⟨_, rfl⟩
  rw [hwd, hwt]
  have HWD : Aside0 ((1 ≤ wd ∧ wd ≤ 16) ∧ (1 ≤ wt ∧ wt ≤ 9)) := ⟨by omega⟩
  clear hM hN hM1 hN1 hwd hwt
  refine (s_new 1 0 wd wt (by have := HWD.out; unfold NewOk; omega) HB.out).mono ?_
  rintro e w2 ⟨⟨ga, rfl, hs⟩, hb⟩
  have HS := Aside0.mk hs
  clear hs hb HB
  go_wp2_with fail
  refine (r_new 0 (by omega) HS.out.lo).mono ?_
  rintro e w3 ⟨⟨gr, rfl, hr⟩, hb⟩
  have HLK : Aside0 (LK w w3 ga gr 1 0 0 0 wd wt 0 0 0 (.slice none 0 0) (.slice none 0 0) [] [] 0) := ⟨⟨HS.out.below hb, hr, Kd.R_nil _ _ _ _ _, Kd.R_nil _ _ _ _ _, fun k hk => (by cases hk), by omega, by omega, by omega, by omega, fun f hf => absurd hf (by simp), fun f hf => absurd hf (by simp), by simp, by simp, by omega, HWD.out.2.2⟩⟩
  clear hr hb HS
  go_upto_block 0 with (fail)
  refine Arm.loop ?_ HX HLK HWD ?_
  · intro ex a a' w q hd h
    obtain ⟨c, rfl⟩ := q
    exact And.intro (hd.symm.trans (And.left h)) (And.right h)
  intro _ _ _ _ _ _ _ _ _ _ _ _ _ _ _ _ _ _ _ _ _ _ _ _ _ _ _ _ _ _ _ _ _ _ _ _ _ _ _ _ _ _ _ _ _ _ _ _ _ _ _ _ _ _ _ _ _ _ _ _ _ _ _ _ _ _ _ _ _ _ _ _ _ _ _ _ _ _ _ _ _ _ _ _ _ _ _ _ _ _ _ _ _ _ _ _ _ _ _ _ _ _ _ _ _ _ _ _ _ _ _ _ _ _ _ _ _ _ _ _ _ _ _ _ _ _ _ _ _ _ _ _ _ _ _ _ _ _ _ _ _ _ _ _ _ _ _ _ _ _ _ _ _ _ _ _ _ _ _ _ _ _ _ _ _ _ _ _ _ _ _ _ _ _ _ _ _ _ _ _ _ _ _ _ _ _ _ _ _ _ _ _ _ _ _ _ _ _ _ _ _ _ _ _ _ _ _ _ _ _ _ _ _ _ _ _ _ _ _ _ _ _ _ _ _ _ _ _ _ _ _ _ _ _ ga ep h s t n e l va vb ws gs x h7 h11 h12 hk
  subst h7 h11 h12
  have HLK2 := Aside0.mk hk
  clear hk HLK
  first | refine Arm.armF HLK2 HWD ?_ | (go_step; refine Arm.armF HLK2 HWD ?_) | (go_step; go_step; refine Arm.armF HLK2 HWD ?_) | (go_step; trace_state; fail)
  intro _ _ _ _ _ _ _ _ _ _ _ _ _ _ _ _ _ _ _ _ _ _ _ _ _ _ _ _ _ _ _ _ _ _ _ _ _ _ _ _ _ _ _ _ _ _ _ _ _ _ _ _ _ _ _ _ _ _ _ _ _ _ _ _ _ _ _ _ _ h6 hb
  subst h6
  go_ret
  exact ⟨rfl, hb⟩
namespace hopOnce
open Go.ChangeShapes Go.WideShapes Go.ChangeAt Go.RowKit
open Go.ChangeMaps (open_string shut_string)
set_option linter.unusedVariables false
theorem laidOut : laidOutB Try.prog = true := by kernel_rfl
theorem own : ownKnob Try.prog.godebug = none := by kernel_rfl
set_option maxRecDepth 100000 in
theorem lifted (os : Os) (started : os.Started) (H : Type) (enc : TypeId × Value → H) :
    ReturnsInHanded {} Try.checked os 8 .any (Rows.hopOnceSpec.pre6 enc Try.prog Try.f8 Rows.hopOnceRow.domain false) (Rows.hopOnceSpec.post enc Try.prog Try.f8 false true false false) := by
  refine returnsInHanded_of_change_sized (C := Try.checked) own started (by kernel_rfl) Try.func8
    (ChangeSpec.witness6 (enc := enc) (C := Try.checked) false ⟨#[], #[.slice none 0 0, .int .i64 0, .int .i64 0], []⟩ 8 (by kernel_rfl) (by kernel_rfl) (by kernel_rfl) (by kernel_rfl)) ?_
  intro W base args ds gs before hval0 hW hcnd hsz0 _
  have hsz : (DataW.weightsEach Try.prog (Try.f8.params.toList ++ Rows.hopOnceSpec.plain.varTypes Try.prog) (ds ++ gs)).all (· ≤ reachBytes) = true := hsz0
  have hval : ∀ (j : Nat) t v, Try.f8.params[j]? = some t → args[j]? = some v → Value.okWide Try.prog W .any base t v := hval0
  have hW' := hW
  obtain ⟨p, q, hA0, hV, rfl, hfz, hnd⟩ := hW
  have hA : DataW.TrodAll enc Try.prog W 0 (fun _ => true) true Try.f8.params.toList args.toList ds p := hA0
  rw [Try.params8] at hA hval hsz
  obtain ⟨v0, vs0, d0, ds0, p0, q0, hargs, rfl, rfl, h0, r0⟩ := trodAll_cons hA
  obtain ⟨v1, vs1, d1, ds1, p1, q1, rfl, rfl, rfl, h1, r1⟩ := trodAll_cons r0
  obtain ⟨v2, vs2, d2, ds2, p2, q2, rfl, rfl, rfl, h2, r2⟩ := trodAll_cons r1
  obtain ⟨rfl, rfl, rfl⟩ := trodAll_nil r2
  obtain rfl : args = #[v0, v1, v2] := by cases args; simp_all
  obtain ⟨rfl, rfl⟩ := trodVars_none hV
  have k0 := h0
  obtain ⟨a0, A0, c0, rfl, w0⟩ := Open.open_slice Try.underlying80 (Open.opens_slice Try.underlying80 (by kernel_rfl) opens_Lk) (hval 0 80 v0 rfl rfl) h0
  obtain ⟨a1, rfl, rfl, rfl, w1⟩ := open_int Try.underlying3 (hval 1 3 v1 rfl rfl) h1
  have b1 : -9223372036854775808 ≤ a1 ∧ a1 < 9223372036854775808 := by have := bounds_i64 w1; omega
  obtain ⟨a2, rfl, rfl, rfl, w2⟩ := open_int Try.underlying3 (hval 2 3 v2 rfl rfl) h2
  have b2 : -9223372036854775808 ≤ a2 ∧ a2 < 9223372036854775808 := by have := bounds_i64 w2; omega
  clear hA0 hval0 hsz0 hsz
  refine (HopOnce_walk a0 A0 c0 a1 a2 W w0 b1 b2).mono fun e W' ⟨he, bel⟩ => ?_
  subst he
  exact ⟨_, rfl, _, _, _, [], _, [], hW', trodAll_mk1 (shut_bool Try.underlying4 _), (trodAll_cons_mk (Open.trod_below laidOut (by kernel_rfl) (of_decide_eq_true (by kernel_rfl)) k0 bel) (trodAll_cons_mk (shut_int Try.underlying3 w1) (trodAll_cons_mk (shut_int Try.underlying3 w2) trodAll_mk0))), rfl, bel.frame _, fun h => by cases h⟩
theorem over : Rows.hopOnceRow.holds Try.pinned (OpenSpec.ofChange Rows.hopOnceSpec) :=
  OpenClaim.holds_of_wide 8 Try.f8 rfl rfl rfl rfl rfl rfl rfl ⟨rfl, rfl, rfl, rfl, rfl⟩ rfl rfl rfl rfl rfl (by kernel_rfl) Try.func8 (by kernel_rfl)
    (of_decide_eq_true (by kernel_rfl)) (by unfold Func.isWrapper; first | (rw [if_pos (by decide +kernel)]; kernel_rfl) | (rw [if_neg (by decide +kernel)]; exact ⟨rfl, rfl⟩))
    (fun os started H enc _ => lifted os started H enc)
theorem proved : Rows.HopOnceSaid := over
#print axioms proved
end hopOnce
/-- The row, under a short name, for the claim. -/
theorem hopOnce_holds : Rows.HopOnceSaid := hopOnce.proved
end Go.Proofs.Ytmpgknemhmoboaa
