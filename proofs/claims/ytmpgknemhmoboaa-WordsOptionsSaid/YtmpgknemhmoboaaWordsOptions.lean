/- watershedlaw08.WordsOptions returns true for every input: what stands behind any name, in any words, is the document's answer (lists of more than 100 words, and texts of more than 1000 bytes, are let go by the law itself). -/
import Derived.Test.YtmpgknemhmoboaaRows
import Derived.WalkKit
import Derived.ProofKit
import Derived.OpenShut
import Derived.ShutString
import Derived.ChangeOld
import Derived.Below
import Derived.SizedLaws
import Derived.Test.YtmpgknemhmoboaaP08o
import Derived.Test.YtmpgknemhmoboaaOpen
namespace Go.Proofs.Ytmpgknemhmoboaa
open Go.RowKit Go.Proofs.YtmpgknemhmoboaaW.PrintWords Go.Proofs.YtmpgknemhmoboaaW.PrintLast Go.Proofs.YtmpgknemhmoboaaW.PrintMore
theorem WordsOptions_walk (xs : List ByteArray) (A : Option Addr) (c : Nat) (n : ByteArray) (w : World) (hx : xs.length ≤ c ∧ Kd.C Kd.string w A xs.length xs ∧ xs.length ≤ 9223372036854775807 ∧ ∀ x ∈ xs, x.size ≤ 9223372036854775807) (_hn : n.size ≤ 140737488351232) :
    Calls Try.prog 4 #[.slice A xs.length c, .string n] w fun e w' => e = .returned (.bool true) ∧ Below w.heap.size w w' :=
  Q08.watershedlaw08_WordsOptions.calls 1000 A c xs n true w hx.2.1 hx.1 (P08.WordsOptions_pure xs n)

namespace wordsOptions
open Go.ChangeShapes Go.WideShapes Go.ChangeAt Go.RowKit
open Go.ChangeMaps (open_string shut_string)
set_option linter.unusedVariables false
theorem laidOut : laidOutB Try.prog = true := by kernel_rfl
theorem own : ownKnob Try.prog.godebug = none := by kernel_rfl
set_option maxRecDepth 100000 in
theorem lifted (os : Os) (started : os.Started) (H : Type) (enc : TypeId × Value → H) :
    ReturnsInHanded {} Try.checked os 4 .any (Rows.wordsOptionsSpec.pre6 enc Try.prog Try.f4 Rows.wordsOptionsRow.domain false) (Rows.wordsOptionsSpec.post enc Try.prog Try.f4 false true false false) := by
  refine returnsInHanded_of_change_sized (C := Try.checked) own started (by kernel_rfl) Try.func4
    (ChangeSpec.witness6 (enc := enc) (C := Try.checked) false ⟨#[], #[.slice none 0 0, .string ByteArray.empty], []⟩ 8 (by kernel_rfl) (by kernel_rfl) (by kernel_rfl) (by kernel_rfl)) ?_
  intro W base args ds gs before hval0 hW hcnd hsz0 _
  have hsz : (DataW.weightsEach Try.prog (Try.f4.params.toList ++ Rows.wordsOptionsSpec.plain.varTypes Try.prog) (ds ++ gs)).all (· ≤ reachBytes) = true := hsz0
  have hval : ∀ (j : Nat) t v, Try.f4.params[j]? = some t → args[j]? = some v → Value.okWide Try.prog W .any base t v := hval0
  have hW' := hW
  obtain ⟨p, q, hA0, hV, rfl, hfz, hnd⟩ := hW
  have hA : DataW.TrodAll enc Try.prog W 0 (fun _ => true) true Try.f4.params.toList args.toList ds p := hA0
  rw [Try.params4] at hA hval hsz
  obtain ⟨v0, vs0, d0, ds0, p0, q0, hargs, rfl, rfl, h0, r0⟩ := trodAll_cons hA
  obtain ⟨v1, vs1, d1, ds1, p1, q1, rfl, rfl, rfl, h1, r1⟩ := trodAll_cons r0
  obtain ⟨rfl, rfl, rfl⟩ := trodAll_nil r1
  obtain rfl : args = #[v0, v1] := by cases args; simp_all
  obtain ⟨rfl, rfl⟩ := trodVars_none hV
  have k0 := h0
  obtain ⟨a0, A0, c0, rfl, w0⟩ := Open.open_slice Try.underlying36 (Open.opens_slice Try.underlying36 (by kernel_rfl) (Open.opens_string (P := Try.prog) (by kernel_rfl))) (hval 0 36 v0 rfl rfl) h0
  obtain ⟨a1, rfl, rfl, rfl, y1⟩ := open_string Try.underlying9 (hval 1 9 v1 rfl rfl) h1
  have w1 : a1.size ≤ 140737488351232 := by
    have z := sized_string hsz (j := 1) (t := 9) rfl rfl
    rw [Array.length_toList] at z
    exact z
  clear hA0 hval0 hsz0 hsz
  refine (WordsOptions_walk a0 A0 c0 a1 W w0 w1).mono fun e W' ⟨he, bel⟩ => ?_
  subst he
  exact ⟨_, rfl, _, _, _, [], _, [], hW', trodAll_mk1 (shut_bool Try.underlying4 _), (trodAll_cons_mk (Open.trod_below laidOut (by kernel_rfl) (of_decide_eq_true (by kernel_rfl)) k0 bel) (trodAll_cons_mk (shut_string Try.underlying9 y1) trodAll_mk0)), rfl, bel.frame _, fun h => by cases h⟩
theorem over : Rows.wordsOptionsRow.holds Try.pinned (OpenSpec.ofChange Rows.wordsOptionsSpec) :=
  OpenClaim.holds_of_wide 4 Try.f4 rfl rfl rfl rfl rfl rfl rfl ⟨rfl, rfl, rfl, rfl, rfl⟩ rfl rfl rfl rfl rfl (by kernel_rfl) Try.func4 (by kernel_rfl)
    (of_decide_eq_true (by kernel_rfl)) (by unfold Func.isWrapper; first | (rw [if_pos (by decide +kernel)]; kernel_rfl) | (rw [if_neg (by decide +kernel)]; exact ⟨rfl, rfl⟩))
    (fun os started H enc _ => lifted os started H enc)
theorem proved : Rows.WordsOptionsSaid := over
#print axioms proved
end wordsOptions
/-- The row, under a short name, for the claim. -/
theorem wordsOptions_holds : Rows.WordsOptionsSaid := wordsOptions.proved
end Go.Proofs.Ytmpgknemhmoboaa
