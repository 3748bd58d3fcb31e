/- watershedlaw02.CodeOne returns true for every input: bytes that are read as a number are just those that it is written as, and fewer of them are too short (a text of more than 1000 bytes is let go by the law itself). -/
import Derived.Test.YtnapckkbnpocgaaRows
import Derived.WalkKit
import Derived.ProofKit
import Derived.OpenShut
import Derived.ShutString
import Derived.ChangeOld
import Derived.Below
import Derived.SizedLaws
import Derived.Deep.RegionWith
import Derived.Test.YtnapckkbnpocgaaW02
namespace Go.Proofs.Ytnapckkbnpocgaa
set_option linter.unusedSimpArgs false
open Go.RowKit C02 M02 Base Go.Proofs.YtnapckkbnpocgaaW.PrintWords Go.Proofs.YtnapckkbnpocgaaW.PrintLast Go.Proofs.YtnapckkbnpocgaaW.PrintMore

set_option maxHeartbeats 1000000 in
theorem CodeOne_walk (s : ByteArray) (cut : Int) (w : World) (hs : s.size ≤ 140737488351232) (_hcut : -9223372036854775808 ≤ cut ∧ cut < 9223372036854775808) :
    Calls Try.prog 10 #[.string s, .int .i64 cut] w fun e w' => e = .returned (.bool true) ∧ Below w.heap.size w w' := by
  have HB := Aside0.mk (Below.refl w.heap.size w)
  by_cases c : (s.size : Int) > 1000
  · have c0 : decide (1000 < (s.size : Int)) = true := decide_eq_true c
    have c1 : decide (1000 < s.size) = true := decide_eq_true (by omega)
    clear c hs
    go_enter Try.func10, Try.ntmps10
    go_wp2_with fail
    refine (works _).mono ?_
    rintro e w1 ⟨rfl, hb⟩
    replace HB := Aside0.mk (below_step HB.out hb)
    clear hb
    go_wp2
    go_ret
    exact ⟨rfl, HB.out⟩
  · have c0 : decide (1000 < (s.size : Int)) = false := decide_eq_false c
    have c1 : decide (1000 < s.size) = false := decide_eq_false (by omega)
    have hz : s.size ≤ 1000 := by omega
    clear c hs
    obtain ⟨v, hv⟩ : ∃ v, v = (numL 0 0 (bytesOf s)).1 := ⟨_, rfl⟩
    obtain ⟨n, hn⟩ : ∃ n, n = (numL 0 0 (bytesOf s)).2.1 := ⟨_, rfl⟩
    obtain ⟨e1, he1⟩ : ∃ e1, e1 = (numL 0 0 (bytesOf s)).2.2 := ⟨_, rfl⟩
    have HN : Aside0 (rdNum (bytesOf s) 0 = (v, (bytesOf s).drop n.toNat, e1)) := ⟨by rw [hv, hn, he1]; rfl⟩
    have hrg := numL_range (bytesOf s) 0 0 (by omega) (by omega) (by simp) (bytes_range s)
    by_cases ce : e1 = 0
    · have ce0 : (e1 != 0) = false := bne_eq_false_iff_eq.mpr ce
      obtain ⟨q, m, e2, e3, hm, hm10, hml, hq, _, e4, e5⟩ := numL_one (bytesOf s) 0 0 (by omega) (by omega) (by simp) (bytes_range s) (by rw [← he1]; exact ce)
      rw [← hv] at e2
      rw [← hn] at e3
      rw [← hv, ← hn] at hrg
      have hnm : n = m := by simpa using e3
      have hqv : q = v := by simp at e2; omega
      have hm1 : m ≤ s.size := by rw [← bytesOf_length]; exact hml
      rw [hqv] at e4
      obtain ⟨zz, hzz⟩ : ∃ zz : Int, zz = (((bytesOf s).drop n.toNat).length : Int) := ⟨_, rfl⟩
      have hw : IntKind.i64.wrap ((s.size : Int) - zz) = n := by rw [hzz, List.length_drop, bytesOf_length, IntKind.wrap_i64]; omega
      have hn1 : decide (n < 1) = false := decide_eq_false (by omega)
      have hn10 : decide (10 < n) = false := decide_eq_false (by omega)
      have heq : ((strOfNums (leb 9 v)).toList == (s.extract 0 n.toNat).toList) = true := beq_iff_eq.mpr (by
        rw [show strOfNums (leb 9 v) = s.extract 0 n.toNat from by
          rw [← strOfNums_bytesOf (s.extract 0 n.toNat), bytesOf_extract, List.drop_zero, e4, hnm]; rfl])
      obtain ⟨cu, hcu⟩ : ∃ cu, cu = IntKind.u64.wrap cut := ⟨_, rfl⟩
      have hcu0 : 0 ≤ cu := by rw [hcu, wrap_u64]; omega
      have HCU := Aside0.mk hcu
      have hnp : 0 < n := by omega
      have hn0 : 0 ≤ n := by omega
      have hns : n ≤ 10 := by omega
      have hnl : n ≤ s.size := by omega
      have HV := Aside0.mk (And.intro hrg.1 hrg.2.1)
      have HZ := Aside0.mk hzz
      obtain ⟨k, hk⟩ : ∃ k, k = cu % n := ⟨_, rfl⟩
      have hk0 : 0 ≤ k := by rw [hk]; exact Int.emod_nonneg _ (by omega)
      have hkn : k < n := by rw [hk]; exact Int.emod_lt_of_pos _ hnp
      have HK := Aside0.mk hk
      have HSHORT : Aside0 (numL 0 0 (bytesOf (s.extract 0 k.toNat)) = (0, 0, 11)) := ⟨by rw [bytesOf_extract, List.drop_zero]; exact e5 _ (by omega)⟩
      have HNUM : Aside0 (rdNum (bytesOf (s.extract 0 k.toNat)) 0 = (0, bytesOf (s.extract 0 k.toNat), 11)) := ⟨by unfold rdNum; rw [HSHORT.out]; rfl⟩
      have HSZ : Aside0 ((s.extract 0 k.toNat).size ≤ 9223372036854775807) := ⟨by rw [ByteArray.size_extract]; have : min k.toNat s.size ≤ s.size := Nat.min_le_right _ _; omega⟩
      have hkr := hk.symm
      have hcr := hcu.symm
      clear hv hn he1 hrg e2 e3 e4 e5 hml hq hqv hm hm10 hm1 hnm hzz ce hk hcu
      go_enter Try.func10, Try.ntmps10
      go_wp2_with fail
      refine (works _).mono ?_
      rintro e w1 ⟨rfl, hb⟩
      replace HB := Aside0.mk (below_step HB.out hb)
      clear hb
      go_wp2_with fail
      refine (rd_New _ _ (by omega)).mono ?_
      rintro e w2 ⟨g, hg, rfl, hR, hb⟩
      have HG : Aside0 (w.heap.size ≤ g) := ⟨by have := HB.out.size; omega⟩
      replace HB := Aside0.mk (below_step HB.out hb)
      have HR := Aside0.mk hR
      clear hb hR hg
      go_wp2_with fail
      refine (rd_Num _ _ _ _ HR.out).mono ?_
      rintro e w3 ⟨rfl, hR, hU⟩
      rw [HN.out] at hR ⊢
      replace HB := Aside0.mk (hU.after1 HB.out HG.out)
      replace HR : Aside0 (RD w3 g ((bytesOf s).drop n.toNat) e1) := ⟨hR⟩
      clear hU hR
      go_wp2_with fail
      refine (rd_Err _ _ _ _ HR.out).mono ?_
      rintro e w4 ⟨rfl, rfl⟩
      go_wp2_with fail
      refine (rd_Left _ _ _ _ HR.out).mono ?_
      rintro e w4 ⟨rfl, rfl⟩
      rw [← HZ.out]
      go_wp2_with fail
      refine start_ (n := 14) (S := fun w' => True) (ds := []) #[false, false, false, false, false, false, false, false, false, false, false, false, false, false] (by kernel_rfl) rfl rfl trivial (fun hHeld => ?_)
      refine pure_ (i := 0) (N := some 36) (v := ?_) (a' := ?_) #[true, false, false, false, false, false, false, false, false, false, false, false, false, false] rfl rfl (by kernel_rfl) (fun _ _ _ h => h) (Or.inl ⟨by rfl, ?_⟩) ?_ ?_
      rotate_left
      · intro w'
        go_simp
        with_reducible rfl
      rotate_left
      · simp only [Act.put, List.setIfInBounds_toArray, List.set_cons_zero, List.set_cons_succ, i64_w, i32_w]
        rfl
      refine pure_ (i := 1) (N := some 37) (v := ?_) (a' := ?_) #[true, true, false, false, false, false, false, false, false, false, false, false, false, false] rfl rfl (by kernel_rfl) (fun _ _ _ h => h) (Or.inl ⟨by rfl, ?_⟩) ?_ ?_
      rotate_left
      · intro w'
        go_simp
        with_reducible rfl
      rotate_left
      · simp only [Act.put, List.setIfInBounds_toArray, List.set_cons_zero, List.set_cons_succ, i64_w, i32_w]
        rfl
      refine pure_ (i := 2) (N := some 38) (v := ?_) (a' := ?_) #[true, true, true, false, false, false, false, false, false, false, false, false, false, false] rfl rfl (by kernel_rfl) (fun _ _ _ h => h) (Or.inl ⟨by rfl, ?_⟩) ?_ ?_
      rotate_left
      · intro w'
        go_simp
        with_reducible rfl
      rotate_left
      · simp only [Act.put, List.setIfInBounds_toArray, List.set_cons_zero, List.set_cons_succ, i64_w, i32_w]
        rfl
      refine pure_ (i := 3) (N := some 39) (v := ?_) (a' := ?_) #[true, true, true, true, false, false, false, false, false, false, false, false, false, false] rfl rfl (by kernel_rfl) (fun _ _ _ h => h) (Or.inl ⟨by rfl, ?_⟩) ?_ ?_
      rotate_left
      · intro w'
        go_simp
        with_reducible rfl
      rotate_left
      · simp only [Act.put, List.setIfInBounds_toArray, List.set_cons_zero, List.set_cons_succ, i64_w, i32_w]
        rfl
      refine pure_ (i := 4) (N := some 40) (v := ?_) (a' := ?_) #[true, true, true, true, true, false, false, false, false, false, false, false, false, false] rfl rfl (by kernel_rfl) (fun _ _ _ h => h) (Or.inl ⟨by rfl, ?_⟩) ?_ ?_
      rotate_left
      · intro w'
        go_simp
        with_reducible rfl
      rotate_left
      · simp only [Act.put, List.setIfInBounds_toArray, List.set_cons_zero, List.set_cons_succ, i64_w, i32_w]
        rfl
      refine pure_ (i := 5) (N := some 41) (v := ?_) (a' := ?_) #[true, true, true, true, true, true, false, false, false, false, false, false, false, false] rfl rfl (by kernel_rfl) (fun _ _ _ h => h) (Or.inl ⟨by rfl, ?_⟩) ?_ ?_
      rotate_left
      · intro w'
        go_simp
        with_reducible rfl
      rotate_left
      · simp only [Act.put, List.setIfInBounds_toArray, List.set_cons_zero, List.set_cons_succ, i64_w, i32_w]
        rfl
      refine pure_ (i := 6) (N := some 42) (v := ?_) (a' := ?_) #[true, true, true, true, true, true, true, false, false, false, false, false, false, false] rfl rfl (by kernel_rfl) (fun _ _ _ h => h) (Or.inl ⟨by rfl, ?_⟩) ?_ ?_
      rotate_left
      · intro w'
        go_simp
        with_reducible rfl
      rotate_left
      · simp only [Act.put, List.setIfInBounds_toArray, List.set_cons_zero, List.set_cons_succ, i64_w, i32_w]
        rfl
      refine pure_ (i := 7) (N := some 43) (v := ?_) (a' := ?_) #[true, true, true, true, true, true, true, true, false, false, false, false, false, false] rfl rfl (by kernel_rfl) (fun _ _ _ h => h) (Or.inl ⟨by rfl, ?_⟩) ?_ ?_
      rotate_left
      · intro w'
        go_simp
        with_reducible rfl
      rotate_left
      · simp only [Act.put, List.setIfInBounds_toArray, List.set_cons_zero, List.set_cons_succ, i64_w, i32_w]
        rfl
      refine pure_ (i := 9) (N := some 45) (v := ?_) (a' := ?_) #[true, true, true, true, true, true, true, true, false, true, false, false, false, false] rfl rfl (by kernel_rfl) (fun _ _ _ h => h) (Or.inl ⟨by rfl, ?_⟩) ?_ ?_
      rotate_left
      · intro w'
        go_simp
        with_reducible rfl
      rotate_left
      · simp only [Act.put, List.setIfInBounds_toArray, List.set_cons_zero, List.set_cons_succ, i64_w, i32_w]
        rfl
      refine pure_ (i := 10) (N := some 46) (v := ?_) (a' := ?_) #[true, true, true, true, true, true, true, true, false, true, true, false, false, false] rfl rfl (by kernel_rfl) (fun _ _ _ h => h) (Or.inl ⟨by rfl, ?_⟩) ?_ ?_
      rotate_left
      · intro w'
        go_simp
        with_reducible rfl
      rotate_left
      · simp only [Act.put, List.setIfInBounds_toArray, List.set_cons_zero, List.set_cons_succ, i64_w, i32_w]
        rfl
      refine pure_ (i := 11) (N := some 47) (v := ?_) (a' := ?_) #[true, true, true, true, true, true, true, true, false, true, true, true, false, false] rfl rfl (by kernel_rfl) (fun _ _ _ h => h) (Or.inl ⟨by rfl, ?_⟩) ?_ ?_
      rotate_left
      · intro w'
        go_simp
        with_reducible rfl
      rotate_left
      · simp only [Act.put, List.setIfInBounds_toArray, List.set_cons_zero, List.set_cons_succ, i64_w, i32_w]
        rfl
      refine one_ (i := 8) (N := some 44) #[true, true, true, true, true, true, true, true, true, true, true, true, false, false] rfl rfl (by kernel_rfl) (by decide) (fun K hK => ?_)
      refine goes_ Try.func12 (by kernel_rfl) rfl #[.int .u64 v] (by rfl) rfl rfl (by simp only [List.map_toArray, List.map_cons, List.map_nil]; rfl) ?_
      with_reducible refine (code_Num _ _ HV.out.1 HV.out.2).mono ?_
      rintro e w5 ⟨rfl, hb⟩
      refine ⟨_, rfl, ?_⟩
      have HB2 := Aside0.mk (below_step (by repeat (first | (with_reducible first | exact HB.out | apply below_alloc | apply pw_below_drewN | apply below_drew1) | exact HB.out)) hb)
      refine hK.out _ _ trivial (fun hHeld => ?_)
      clear hK K
      refine norm_ (a' := ?_) ?_ ?_
      rotate_left
      · show Act.put _ (some 44) _ = _
        simp only [Act.put, List.setIfInBounds_toArray, List.set_cons_zero, List.set_cons_succ, i64_w, i32_w]
        rfl
      refine pure_ (i := 12) (N := some 48) (v := ?_) (a' := ?_) #[true, true, true, true, true, true, true, true, true, true, true, true, true, false] rfl rfl (by kernel_rfl) (fun _ _ _ h => h) (Or.inl ⟨by rfl, ?_⟩) ?_ ?_
      rotate_left
      · intro w'
        go_simp
        with_reducible rfl
      rotate_left
      · simp only [Act.put, List.setIfInBounds_toArray, List.set_cons_zero, List.set_cons_succ, i64_w, i32_w]
        rfl
      refine pure_ (i := 13) (N := some 49) (v := ?_) (a' := ?_) #[true, true, true, true, true, true, true, true, true, true, true, true, true, true] rfl rfl (by kernel_rfl) (fun _ _ _ h => h) (Or.inl ⟨by rfl, ?_⟩) ?_ ?_
      rotate_left
      · intro w'
        go_simp
        with_reducible rfl
      rotate_left
      · simp only [Act.put, List.setIfInBounds_toArray, List.set_cons_zero, List.set_cons_succ, i64_w, i32_w]
        rfl
      refine done_ (by kernel_rfl) ?_
      go_wp2_with fail
      refine (rd_New _ _ HSZ.out).mono ?_
      rintro e w6 ⟨g2, hg2, rfl, hR2, hb⟩
      have HG2 : Aside0 (w.heap.size ≤ g2) := ⟨by have := HB2.out.size; omega⟩
      replace HB := Aside0.mk (below_step HB2.out hb)
      have HR2 := Aside0.mk hR2
      clear hb hR2 hg2
      go_wp2_with fail
      refine (rd_Num _ _ _ _ HR2.out).mono ?_
      rintro e w7 ⟨rfl, hR2, hU⟩
      rw [HNUM.out] at hR2 ⊢
      replace HB := Aside0.mk (hU.after1 HB.out HG2.out)
      replace HR2 : Aside0 (RD w7 g2 (bytesOf (s.extract 0 k.toNat)) 11) := ⟨hR2⟩
      clear hU hR2
      go_wp2_with fail
      refine (rd_Err _ _ _ _ HR2.out).mono ?_
      rintro e w8 ⟨rfl, rfl⟩
      go_wp2_with fail
      go_ret
      exact ⟨by first | rfl | (simp; done), HB.out⟩
    · have ce0 : (e1 != 0) = true := bne_iff_ne.mpr ce
      have hz2 := hrg.2.2.2.2.2 (by rw [← he1]; exact ce)
      rw [← hv, ← hn] at hz2
      obtain ⟨rfl, rfl⟩ := hz2
      have HL : Aside0 (((bytesOf s).drop (0 : Int).toNat).length = s.size) := ⟨by rw [List.length_drop, bytesOf_length]; rfl⟩
      clear hv hn he1 hrg ce
      go_enter Try.func10, Try.ntmps10
      go_wp2_with fail
      refine (works _).mono ?_
      rintro e w1 ⟨rfl, hb⟩
      replace HB := Aside0.mk (below_step HB.out hb)
      clear hb
      go_wp2_with fail
      refine (rd_New _ _ (by omega)).mono ?_
      rintro e w2 ⟨g, hg, rfl, hR, hb⟩
      have HG : Aside0 (w.heap.size ≤ g) := ⟨by have := HB.out.size; omega⟩
      replace HB := Aside0.mk (below_step HB.out hb)
      have HR := Aside0.mk hR
      clear hb hR hg
      go_wp2_with fail
      refine (rd_Num _ _ _ _ HR.out).mono ?_
      rintro e w3 ⟨rfl, hR, hU⟩
      rw [HN.out] at hR ⊢
      replace HB := Aside0.mk (hU.after1 HB.out HG.out)
      replace HR : Aside0 (RD w3 g ((bytesOf s).drop (0 : Int).toNat) e1) := ⟨hR⟩
      clear hU hR
      go_wp2_with fail
      refine (rd_Err _ _ _ _ HR.out).mono ?_
      rintro e w4 ⟨rfl, rfl⟩
      go_wp2_with fail
      refine (rd_Left _ _ _ _ HR.out).mono ?_
      rintro e w4 ⟨rfl, rfl⟩
      rw [HL.out]
      go_wp2_with fail
      go_ret
      exact ⟨by first | rfl | (simp; done), HB.out⟩

namespace codeOne
open Go.ChangeShapes Go.WideShapes Go.ChangeAt Go.RowKit
open Go.ChangeMaps (open_string shut_string)
set_option linter.unusedVariables false
theorem own : ownKnob Try.prog.godebug = none := by kernel_rfl
set_option maxRecDepth 100000 in
theorem lifted (os : Os) (started : os.Started) (H : Type) (enc : TypeId × Value → H) :
    ReturnsInHanded {} Try.checked os 10 .any (Rows.codeOneSpec.pre6 enc Try.prog Try.f10 Rows.codeOneRow.domain false) (Rows.codeOneSpec.post enc Try.prog Try.f10 false true false false) := by
  refine returnsInHanded_of_change_sized (C := Try.checked) own started (by kernel_rfl) Try.func10
    (ChangeSpec.witness6 (enc := enc) (C := Try.checked) false ⟨#[], #[.string ByteArray.empty, .int .i64 0], []⟩ 8 (by kernel_rfl) (by kernel_rfl) (by kernel_rfl) (by kernel_rfl)) ?_
  intro W base args ds gs before hval0 hW hcnd hsz0 _
  have hsz : (DataW.weightsEach Try.prog (Try.f10.params.toList ++ Rows.codeOneSpec.plain.varTypes Try.prog) (ds ++ gs)).all (· ≤ reachBytes) = true := hsz0
  have hval : ∀ (j : Nat) t v, Try.f10.params[j]? = some t → args[j]? = some v → Value.okWide Try.prog W .any base t v := hval0
  have hW' := hW
  obtain ⟨p, q, hA0, hV, rfl, hfz, hnd⟩ := hW
  have hA : DataW.TrodAll enc Try.prog W 0 (fun _ => true) true Try.f10.params.toList args.toList ds p := hA0
  rw [Try.params10] at hA hval hsz
  obtain ⟨v0, vs0, d0, ds0, p0, q0, hargs, rfl, rfl, h0, r0⟩ := trodAll_cons hA
  obtain ⟨v1, vs1, d1, ds1, p1, q1, rfl, rfl, rfl, h1, r1⟩ := trodAll_cons r0
  obtain ⟨rfl, rfl, rfl⟩ := trodAll_nil r1
  obtain rfl : args = #[v0, v1] := by cases args; simp_all
  obtain ⟨rfl, rfl⟩ := trodVars_none hV
  obtain ⟨a0, rfl, rfl, rfl, y0⟩ := open_string Try.underlying9 (hval 0 9 v0 rfl rfl) h0
  have w0 : a0.size ≤ 140737488351232 := by
    have z := sized_string hsz (j := 0) (t := 9) rfl rfl
    rw [Array.length_toList] at z
    exact z
  obtain ⟨a1, rfl, rfl, rfl, w1⟩ := open_int Try.underlying3 (hval 1 3 v1 rfl rfl) h1
  have b1 : -9223372036854775808 ≤ a1 ∧ a1 < 9223372036854775808 := by have := bounds_i64 w1; omega
  clear hA0 hval0 hsz0 hsz
  refine (CodeOne_walk a0 a1 W w0 b1).mono fun e W' ⟨he, bel⟩ => ?_
  subst he
  exact ⟨_, rfl, _, _, _, [], _, [], hW', trodAll_mk1 (shut_bool Try.underlying4 _), (trodAll_cons_mk (shut_string Try.underlying9 y0) (trodAll_cons_mk (shut_int Try.underlying3 w1) trodAll_mk0)), rfl, bel.frame _, fun h => by cases h⟩
theorem over : Rows.codeOneRow.holds Try.pinned (OpenSpec.ofChange Rows.codeOneSpec) :=
  OpenClaim.holds_of_wide 10 Try.f10 rfl rfl rfl rfl rfl rfl rfl ⟨rfl, rfl, rfl, rfl, rfl⟩ rfl rfl rfl rfl rfl (by kernel_rfl) Try.func10 (by kernel_rfl)
    (of_decide_eq_true (by kernel_rfl)) (by unfold Func.isWrapper; first | (rw [if_pos (by decide +kernel)]; kernel_rfl) | (rw [if_neg (by decide +kernel)]; exact ⟨rfl, rfl⟩))
    (fun os started H enc _ => lifted os started H enc)
theorem proved : Rows.CodeOneSaid := over
#print axioms proved
end codeOne
/-- The row, under a short name, for the claim. -/
theorem codeOne_holds : Rows.CodeOneSaid := codeOne.proved
end Go.Proofs.Ytnapckkbnpocgaa
