/- watershedlaw02.CodeOrder returns true for every input: of two numbers the greater one never has fewer bytes, and at most seven bits more are at most a byte more. -/
import Derived.Test.YtnapckkbnpocgaaRows
import Derived.WalkKit
import Derived.ProofKit
import Derived.OpenShut
import Derived.ShutString
import Derived.ChangeOld
import Derived.Below
import Derived.SizedLaws
import Derived.Test.YtnapckkbnpocgaaW02
namespace Go.Proofs.Ytnapckkbnpocgaa
open Go.RowKit C02 M02 Base Go.Proofs.YtnapckkbnpocgaaW.PrintWords Go.Proofs.YtnapckkbnpocgaaW.PrintLast Go.Proofs.YtnapckkbnpocgaaW.PrintMore

set_option maxHeartbeats 1000000 in
theorem CodeOrder_walk (a b : Int) (w : World) (ha : 0 ≤ a ∧ a < 18446744073709551616) (hb : 0 ≤ b ∧ b < 18446744073709551616) :
    Calls Try.prog 11 #[.int .u64 a, .int .u64 b] w fun e w' => e = .returned (.bool true) ∧ Below w.heap.size w w' := by
  have HB := Aside0.mk (Below.refl w.heap.size w)
  obtain ⟨x, hx⟩ : ∃ x, x = (strOfNums (leb 9 a)).size := ⟨_, rfl⟩
  obtain ⟨y, hy⟩ : ∃ y, y = (strOfNums (leb 9 b)).size := ⟨_, rfl⟩
  have HX := Aside0.mk hx.symm
  have HY := Aside0.mk hy.symm
  have Ha := Aside0.mk ha
  have Hb := Aside0.mk hb
  have px : 1 ≤ x := by rw [hx, strOfNums_size]; exact leb_pos _ _
  have py : 1 ≤ y := by rw [hy, strOfNums_size]; exact leb_pos _ _
  have qx : x ≤ 10 := by rw [hx, strOfNums_size]; exact leb_length _ _
  have qy : y ≤ 10 := by rw [hy, strOfNums_size]; exact leb_length _ _
  have ha0 : 0 ≤ a := ha.1
  have hb0 : 0 ≤ b := hb.1
  have HM : Aside0 ((a ≤ b → x ≤ y) ∧ (b ≤ a → y ≤ x) ∧ (b / 128 ≤ a → y ≤ x + 1) ∧ (a / 128 ≤ b → x ≤ y + 1)) := ⟨by
    rw [hx, hy, strOfNums_size, strOfNums_size]
    exact ⟨leb_len_mono _ _ _, leb_len_mono _ _ _, leb_len_next _ _ _, leb_len_next _ _ _⟩⟩
  clear hx hy ha hb
  by_cases c : a > b
  · have c0 : decide (b < a) = true := decide_eq_true c
    have hle : y ≤ x := HM.out.2.1 (by omega)
    have hn : ¬ a / 128 > b → x ≤ y + 1 := fun h => HM.out.2.2.2 (by omega)
    by_cases d : a / 128 > b
    · have d0 : decide (b < a / 128) = true := decide_eq_true d
      clear c d hn
      have hX := HX.out
      have hY := HY.out
      go_enter Try.func11, Try.ntmps11
      go_wp2_with fail
      refine (works _).mono ?_
      rintro e w1 ⟨rfl, hb⟩
      replace HB := Aside0.mk (below_step HB.out hb)
      clear hb
      go_wp2_with fail
      refine (code_Num _ _ Ha.out.1 Ha.out.2).mono ?_
      rintro e w2 ⟨rfl, hb⟩
      replace HB := Aside0.mk (below_step HB.out hb)
      clear hb
      go_wp2_with fail
      refine (code_Num _ _ Hb.out.1 Hb.out.2).mono ?_
      rintro e w3 ⟨rfl, hb⟩
      replace HB := Aside0.mk (below_step HB.out hb)
      clear hb
      go_wp2
      go_ret
      exact ⟨by first | rfl | (simp; done) | (simp; omega), HB.out⟩
    · have d0 : decide (b < a / 128) = false := decide_eq_false d
      have hn2 := hn d
      have hn3 : (y : Int) ≤ x + 1 ∨ True := .inr trivial
      clear hn3
      clear c d hn
      have hX := HX.out
      have hY := HY.out
      go_enter Try.func11, Try.ntmps11
      go_wp2_with fail
      refine (works _).mono ?_
      rintro e w1 ⟨rfl, hb⟩
      replace HB := Aside0.mk (below_step HB.out hb)
      clear hb
      go_wp2_with fail
      refine (code_Num _ _ Ha.out.1 Ha.out.2).mono ?_
      rintro e w2 ⟨rfl, hb⟩
      replace HB := Aside0.mk (below_step HB.out hb)
      clear hb
      go_wp2_with fail
      refine (code_Num _ _ Hb.out.1 Hb.out.2).mono ?_
      rintro e w3 ⟨rfl, hb⟩
      replace HB := Aside0.mk (below_step HB.out hb)
      clear hb
      go_wp2
      go_ret
      exact ⟨by first | rfl | (simp; done) | (simp; omega), HB.out⟩
  · have c0 : decide (b < a) = false := decide_eq_false c
    have hle : x ≤ y := HM.out.1 (by omega)
    have hn : ¬ b / 128 > a → y ≤ x + 1 := fun h => HM.out.2.2.1 (by omega)
    by_cases d : b / 128 > a
    · have d0 : decide (a < b / 128) = true := decide_eq_true d
      clear c d hn
      have hX := HX.out
      have hY := HY.out
      go_enter Try.func11, Try.ntmps11
      go_wp2_with fail
      refine (works _).mono ?_
      rintro e w1 ⟨rfl, hb⟩
      replace HB := Aside0.mk (below_step HB.out hb)
      clear hb
      go_wp2_with fail
      refine (code_Num _ _ Ha.out.1 Ha.out.2).mono ?_
      rintro e w2 ⟨rfl, hb⟩
      replace HB := Aside0.mk (below_step HB.out hb)
      clear hb
      go_wp2_with fail
      refine (code_Num _ _ Hb.out.1 Hb.out.2).mono ?_
      rintro e w3 ⟨rfl, hb⟩
      replace HB := Aside0.mk (below_step HB.out hb)
      clear hb
      go_wp2
      go_ret
      exact ⟨by first | rfl | (simp; done) | (simp; omega), HB.out⟩
    · have d0 : decide (a < b / 128) = false := decide_eq_false d
      have hn2 := hn d
      have hn3 : (y : Int) ≤ x + 1 ∨ True := .inr trivial
      clear hn3
      clear c d hn
      have hX := HX.out
      have hY := HY.out
      go_enter Try.func11, Try.ntmps11
      go_wp2_with fail
      refine (works _).mono ?_
      rintro e w1 ⟨rfl, hb⟩
      replace HB := Aside0.mk (below_step HB.out hb)
      clear hb
      go_wp2_with fail
      refine (code_Num _ _ Ha.out.1 Ha.out.2).mono ?_
      rintro e w2 ⟨rfl, hb⟩
      replace HB := Aside0.mk (below_step HB.out hb)
      clear hb
      go_wp2_with fail
      refine (code_Num _ _ Hb.out.1 Hb.out.2).mono ?_
      rintro e w3 ⟨rfl, hb⟩
      replace HB := Aside0.mk (below_step HB.out hb)
      clear hb
      go_wp2
      go_ret
      exact ⟨by first | rfl | (simp; done) | (simp; omega), HB.out⟩

namespace codeOrder
open Go.ChangeShapes Go.WideShapes Go.ChangeAt Go.RowKit
open Go.ChangeMaps (open_string shut_string)
set_option linter.unusedVariables false
theorem own : ownKnob Try.prog.godebug = none := by kernel_rfl
set_option maxRecDepth 100000 in
theorem lifted (os : Os) (started : os.Started) (H : Type) (enc : TypeId × Value → H) :
    ReturnsInHanded {} Try.checked os 11 .any (Rows.codeOrderSpec.pre6 enc Try.prog Try.f11 Rows.codeOrderRow.domain false) (Rows.codeOrderSpec.post enc Try.prog Try.f11 false true false false) := by
  refine returnsInHanded_of_change_sized (C := Try.checked) own started (by kernel_rfl) Try.func11
    (ChangeSpec.witness6 (enc := enc) (C := Try.checked) false ⟨#[], #[.int .u64 0, .int .u64 0], []⟩ 8 (by kernel_rfl) (by kernel_rfl) (by kernel_rfl) (by kernel_rfl)) ?_
  intro W base args ds gs before hval0 hW hcnd hsz0 _
  have hsz : (DataW.weightsEach Try.prog (Try.f11.params.toList ++ Rows.codeOrderSpec.plain.varTypes Try.prog) (ds ++ gs)).all (· ≤ reachBytes) = true := hsz0
  have hval : ∀ (j : Nat) t v, Try.f11.params[j]? = some t → args[j]? = some v → Value.okWide Try.prog W .any base t v := hval0
  have hW' := hW
  obtain ⟨p, q, hA0, hV, rfl, hfz, hnd⟩ := hW
  have hA : DataW.TrodAll enc Try.prog W 0 (fun _ => true) true Try.f11.params.toList args.toList ds p := hA0
  rw [Try.params11] at hA hval hsz
  obtain ⟨v0, vs0, d0, ds0, p0, q0, hargs, rfl, rfl, h0, r0⟩ := trodAll_cons hA
  obtain ⟨v1, vs1, d1, ds1, p1, q1, rfl, rfl, rfl, h1, r1⟩ := trodAll_cons r0
  obtain ⟨rfl, rfl, rfl⟩ := trodAll_nil r1
  obtain rfl : args = #[v0, v1] := by cases args; simp_all
  obtain ⟨rfl, rfl⟩ := trodVars_none hV
  obtain ⟨a0, rfl, rfl, rfl, w0⟩ := open_int Try.underlying22 (hval 0 22 v0 rfl rfl) h0
  have b0 : 0 ≤ a0 ∧ a0 < 18446744073709551616 := by have := bounds_u64 w0; omega
  obtain ⟨a1, rfl, rfl, rfl, w1⟩ := open_int Try.underlying22 (hval 1 22 v1 rfl rfl) h1
  have b1 : 0 ≤ a1 ∧ a1 < 18446744073709551616 := by have := bounds_u64 w1; omega
  clear hA0 hval0 hsz0 hsz
  refine (CodeOrder_walk a0 a1 W b0 b1).mono fun e W' ⟨he, bel⟩ => ?_
  subst he
  exact ⟨_, rfl, _, _, _, [], _, [], hW', trodAll_mk1 (shut_bool Try.underlying4 _), (trodAll_cons_mk (shut_int Try.underlying22 w0) (trodAll_cons_mk (shut_int Try.underlying22 w1) trodAll_mk0)), rfl, bel.frame _, fun h => by cases h⟩
theorem over : Rows.codeOrderRow.holds Try.pinned (OpenSpec.ofChange Rows.codeOrderSpec) :=
  OpenClaim.holds_of_wide 11 Try.f11 rfl rfl rfl rfl rfl rfl rfl ⟨rfl, rfl, rfl, rfl, rfl⟩ rfl rfl rfl rfl rfl (by kernel_rfl) Try.func11 (by kernel_rfl)
    (of_decide_eq_true (by kernel_rfl)) (by unfold Func.isWrapper; first | (rw [if_pos (by decide +kernel)]; kernel_rfl) | (rw [if_neg (by decide +kernel)]; exact ⟨rfl, rfl⟩))
    (fun os started H enc _ => lifted os started H enc)
theorem proved : Rows.CodeOrderSaid := over
#print axioms proved
end codeOrder
/-- The row, under a short name, for the claim. -/
theorem codeOrder_holds : Rows.CodeOrderSaid := codeOrder.proved
end Go.Proofs.Ytnapckkbnpocgaa
