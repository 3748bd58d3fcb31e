/- watershedlaw04.StampBytes returns true for every input: a time's bytes are the document's, and so are the times of any bytes, one behind the other (texts of more than 5000 bytes are let go by the law itself). -/
import Derived.Test.YtjkbgcdhhiakmaaRows
import Derived.WalkKit
import Derived.ProofKit
import Derived.OpenShut
import Derived.ShutString
import Derived.ChangeOld
import Derived.Below
import Derived.SizedLaws
import Derived.Deep.CutBlock
import Derived.Deep.DeepCutAuto
import Derived.Test.YtjkbgcdhhiakmaaPQ04bw
import Derived.Test.YtjkbgcdhhiakmaaX04r
import Derived.Test.YtjkbgcdhhiakmaaPT04
namespace Go.Proofs.Ytjkbgcdhhiakmaa
set_option linter.unusedSimpArgs false
open Go.RowKit C02 M02 Base Go.Proofs.YtjkbgcdhhiakmaaW.PrintWords Go.Proofs.YtjkbgcdhhiakmaaW.PrintLast Go.Proofs.YtjkbgcdhhiakmaaW.PrintMore

theorem eqA25 (d : Nat) (w : World) (x0 y0 : Int) (x1 y1 : Int) (x2 y2 : Int) (x3 y3 : Int) (x4 y4 : Int) :
    (Op.equalIn (d + 3) 25 (.agg #[.int .u32 x0, .int .i64 x1, .int .u32 x2, .int .u32 x3, .int .u32 x4]) (.agg #[.int .u32 y0, .int .i64 y1, .int .u32 y2, .int .u32 y3, .int .u32 y4])).run Try.prog w = .ok (x0 == y0 && (x1 == y1 && ((x2 == y2 && (x3 == y3 && (x4 == y4)))))) w := by
  refine eqA_of Try.underlying25 (by kernel_rfl) ?_
  refine eqf_cons (by rfl) (by go_simp; rfl) (by go_simp; rfl) (by go_simp) ?_
  refine eqf_cons (by rfl) (by go_simp; rfl) (by go_simp; rfl) (by go_simp) ?_
  exact eqf_last (by rfl) (by go_simp) (by go_simp) (Q04b.eqA23 (d + 0) w _ _ _ _ _ _)
attribute [local go_sem high] eqA25
/-- Both readers, one beside the other: the same is left, the same is wrong. -/
def Both (w : World) (ga gb : Nat) (W : World) : Prop := ∃ l e, RD W ga l e ∧ RF W gb l e ∧ Below w.heap.size w W ∧ w.heap.size ≤ ga ∧ w.heap.size ≤ gb ∧ ga ≠ gb

theorem Both.below {w W W' : World} {ga gb : Nat} (h : Both w ga gb W) (k : Below W.heap.size W W') : Both w ga gb W' := by
  obtain ⟨l, e, h1, h2, h3, h4⟩ := h
  exact ⟨l, e, h1.below k, h2.below k, below_step h3 k, h4⟩

/-- Behind a step with both. -/
theorem Both.next {w W W1 W2 : World} {ga gb : Nat} {l' : List Int} {e' : Int} (hB : Below w.heap.size w W) (ha : w.heap.size ≤ ga) (hb : w.heap.size ≤ gb) (hne : ga ≠ gb)
    (h1 : RD W1 ga l' e') (u1 : Upd (· = ga) W W1) (h2 : RF W2 gb l' e') (u2 : Upd (· = gb) W1 W2) : Both w ga gb W2 :=
  ⟨l', e', h1.upd u2 hne, h2, u2.after1 (u1.after1 hB ha) hb, ha, hb, hne⟩

set_option maxRecDepth 100000 in
set_option maxHeartbeats 4000000 in
theorem StampBytes_walk (a : P04.T5) (ca : List Value) (s : ByteArray) (n : Int) (w : World) (ha : P04.kT.K w a ca ∧ P04.okT a) (hs : s.size ≤ 140737488351232) (_hn : -9223372036854775808 ≤ n ∧ n < 9223372036854775808) :
    Calls Try.prog 4 #[.agg ca.toArray, .string s, .int .i64 n] w fun e w' => e = .returned (.bool true) ∧ Below w.heap.size w w' := by
  have HB := Aside0.mk (Below.refl w.heap.size w)
  rw [P04.kT_open ha.1]
  obtain ⟨a0, a1, a2, a3, a4⟩ := a
  obtain ⟨_, h0, _, h2, h3, h4⟩ := ha
  have h0 := P04.u32_of h0
  have h2 := P04.u32_of h2
  have h3 := P04.u32_of h3
  have h4 := P04.u32_of h4
  simp only at h0 h2 h3 h4
  show Calls Try.prog 4 #[.agg #[.int .u32 a0, .int .i64 a1, .int .u32 a2, .int .u32 a3, .int .u32 a4], .string s, .int .i64 n] w fun e w' => e = .returned (.bool true) ∧ Below w.heap.size w w'
  by_cases c : (s.size : Int) > 5000
  · have c0 : decide (5000 < (s.size : Int)) = true := decide_eq_true c
    have c1 : decide (5000 < s.size) = true := decide_eq_true (by omega)
    clear c hs h0 h2 h3 h4
    go_enter Try.func4, Try.ntmps4
    go_wp2
    go_ret
    exact ⟨rfl, (by repeat (first | (with_reducible first | exact HB.out | apply below_alloc | apply pw_below_drewN | apply below_drew1) | exact HB.out))⟩
  · have c0 : decide (5000 < (s.size : Int)) = false := decide_eq_false c
    have c1 : decide (5000 < s.size) = false := decide_eq_false (by omega)
    have HS := Aside0.mk hs
    have C1 := Aside0.mk (fun w1 => Ext.stamp_Write_c a0 a1 a2 a3 a4 w1 h0 h2 h3 h4)
    have hW2 := P04.refWrite_f 988 a0 a1 a2 a3 a4 h0.1 h2.1 h3.1 h4.1
    obtain ⟨⟨S, ev⟩, hwf⟩ : ∃ x, x = Ext.writeF a0 a1 a2 a3 a4 := ⟨_, rfl⟩
    rw [← hwf] at C1 hW2
    simp only at C1
    have C2 := Aside0.mk (fun w1 => Q04b.watershedref04_Write.calls 1000 a0 a1 a2 a3 a4 S ev w1 hW2)
    have hbs : (S.toList != S.toList) = false := by simp
    have hbe : (ev != ev) = false := by simp
    clear c hs h0 h2 h3 h4 hwf hW2
    go_enter Try.func4, Try.ntmps4
    go_wp2_with fail
    have HG := Aside0.mk (blk_new w (.cells #[.int .u32 a0, .int .i64 a1, .int .u32 a2, .int .u32 a3, .int .u32 a4] 25))
    replace HB := Aside0.mk (below_alloc HB.out (.cells #[.int .u32 a0, .int .i64 a1, .int .u32 a2, .int .u32 a3, .int .u32 a4] 25))
    generalize w.alloc _ = w0 at HG HB ⊢
    refine (C1.out _).mono ?_
    rintro e w1 ⟨rfl, hb⟩
    replace HG := Aside0.mk (blk_below HG.out hb)
    replace HB := Aside0.mk (below_step HB.out hb)
    clear hb
    have q0 := blk_cell HG.out 0
    have q1 := blk_cell HG.out 1
    have q2 := blk_cell HG.out 2
    have q3 := blk_cell HG.out 3
    have q4 := blk_cell HG.out 4
    go_wp2_with fail
    refine (C2.out _).mono ?_
    rintro e w2 ⟨rfl, hb⟩
    clear q0 q1 q2 q3 q4
    replace HB := Aside0.mk (below_step HB.out hb)
    clear hb HG
    go_wp2_with fail
    refine (rd_New _ _ (by have := HS.out; omega)).mono ?_
    rintro e w1 ⟨ga, hga, rfl, hR, hb⟩
    have HZ : Aside0 (w.heap.size ≤ w2.heap.size) := ⟨HB.out.size⟩
    replace HB := Aside0.mk (below_step HB.out hb)
    have HBoth : Aside0 (Both w ga w1.heap.size (w1.alloc (.cells #[.string s, .int .i64 0, .int .i64 0] 39))) := ⟨⟨bytesOf s, 0, hR.below (below_alloc (Below.refl _ _) _), ⟨s, 0, blk_new _ _, by omega, by omega, rfl, HS.out⟩, below_alloc HB.out _, by have := HZ.out; omega, HB.out.size, by have := hR.lt; omega⟩⟩
    clear hR hb hga
    go_wp2_with fail
    generalize hgb : w1.heap.size = gb at HBoth ⊢
    generalize hW : w1.alloc _ = W at HBoth ⊢
    clear hgb hW
    obtain ⟨m, hm⟩ : ∃ m, m = wrap64 ((IntKind.u64.wrap n).tmod 5) := ⟨_, rfl⟩
    have hmr := hm.symm
    have HM : Aside0 (0 ≤ m ∧ m ≤ 4) := ⟨by
      rw [hm, IntKind.wrap_u64, Int.tmod_eq_emod_of_nonneg (by omega)]
      unfold wrap64
      omega⟩
    clear hm
    go_loopg [13] 5 (fun kq v13 W' => ∃ x : Int, v13 = .int .i64 x ∧ Aside0 (0 ≤ x ∧ x ≤ m ∧ x + kq = 5) ∧ Aside0 (Both w ga gb W'))
    case atStart => exact ⟨0, rfl, ⟨by have := HM.out; omega⟩, HBoth⟩
    case round =>
      clear HBoth HB
      obtain ⟨x, rfl, HK, HBoth⟩ := hrel
      obtain ⟨l, e, hRD, hRF, hB1, ha, hb, hne⟩ := HBoth.out
      have HRD := Aside0.mk hRD
      have HRF := Aside0.mk hRF
      have HB1 := Aside0.mk hB1
      have HA := Aside0.mk ha
      have HBB := Aside0.mk hb
      have HNE := Aside0.mk hne
      clear hRD hRF hB1 ha hb hne HBoth
      by_cases c : x < m
      · have cb : decide (x < m) = true := decide_eq_true c
        have HC := Aside0.mk c
        clear c
        obtain ⟨⟨⟨t0, t1, t2, t3, t4⟩, l', e'⟩, hT⟩ : ∃ y, y = rdTime l e := ⟨_, rfl⟩
        have HT := Aside0.mk hT.symm
        clear hT
        have eq0 : (t0 == t0) = true := beq_self_eq_true _
        have eq1 : (t1 == t1) = true := beq_self_eq_true _
        have eq2 : (t2 == t2) = true := beq_self_eq_true _
        have eq3 : (t3 == t3) = true := beq_self_eq_true _
        have eq4 : (t4 == t4) = true := beq_self_eq_true _
        have wx : wrap64 (x + 1) = x + 1 := by have := HK.out; have := HM.out; unfold wrap64; omega
        have eqe : (e' != e') = false := by simp
        have eql : ((l'.length : Int) != (l'.length : Int)) = false := by simp
        go_wp2_with fail
        refine Base.start0_ (n := 21) (S := fun w' => w'.cell? ⟨gb, 2, none⟩ = some (.int .i64 e')) (ds := [1, 3]) #[false, false, false, false, false, false, false, false, false, false, false, false, false, false, false, false, false, false, false, false, false] (by kernel_rfl) rfl rfl ?_
        refine pure_ (i := 0) (N := some 48) (v := ?_) (a' := ?_) #[true, false, false, false, false, false, false, false, false, false, false, false, false, false, false, false, false, false, false, false, false] rfl rfl (by kernel_rfl) (fun _ _ _ h => h) (Or.inl ⟨by rfl, ?_⟩) ?_ ?_
        rotate_left
        · intro w'
          go_simp
          with_reducible rfl
        rotate_left
        · simp only [Act.put, List.setIfInBounds_toArray, List.set_cons_zero, List.set_cons_succ, i64_w, i32_w]
          rfl
        refine pure_ (i := 2) (N := some 50) (v := ?_) (a' := ?_) #[true, false, true, false, false, false, false, false, false, false, false, false, false, false, false, false, false, false, false, false, false] rfl rfl (by kernel_rfl) (fun _ _ _ h => h) (Or.inl ⟨by rfl, ?_⟩) ?_ ?_
        rotate_left
        · intro w'
          go_simp
          with_reducible rfl
        rotate_left
        · simp only [Act.put, List.setIfInBounds_toArray, List.set_cons_zero, List.set_cons_succ, i64_w, i32_w]
          rfl
        refine last_ (i := 1) (N := some 49) #[true, true, true, false, false, false, false, false, false, false, false, false, false, false, false, false, false, false, false, false, false] rfl rfl (by kernel_rfl) (by decide) (fun K hK => ?_)
        refine goes_ Try.func17 (by kernel_rfl) rfl #[.pointer (some ⟨ga, 0, none⟩)] (by rfl) rfl rfl (by simp only [List.map_toArray, List.map_cons, List.map_nil]; rfl) ?_
        with_reducible refine (rd_Time _ _ _ _ (HRD.out.below (below_drew (Below.refl _ _)))).mono ?_
        rintro en wa ⟨rfl, hRa, hUa⟩
        refine ⟨_, rfl, ?_⟩
        rw [HT.out] at hRa ⊢
        simp only [tv] at ⊢
        have HRb := Aside0.mk ((HRF.out.below (below_drew (Below.refl _ _))).upd hUa (fun h => HNE.out h.symm))
        have HRa := Aside0.mk hRa
        have HUa := Aside0.mk hUa
        refine hK.out _ _ ?_
        clear hK K
        refine norm_ (a' := ?_) ?_ ?_
        rotate_left
        · show Act.put _ (some 49) _ = _
          simp only [Act.put, List.setIfInBounds_toArray, List.set_cons_zero, List.set_cons_succ, i64_w, i32_w]
          rfl
        refine last_ (i := 3) (N := some 51) #[true, true, true, true, false, false, false, false, false, false, false, false, false, false, false, false, false, false, false, false, false] rfl rfl (by kernel_rfl) (by decide) (fun K hK => ?_)
        refine goes_ Try.func18 (by kernel_rfl) rfl #[.pointer (some ⟨gb, 0, none⟩)] (by rfl) rfl rfl (by simp only [List.map_toArray, List.map_cons, List.map_nil]; rfl) ?_
        with_reducible refine (rf_Time _ _ _ _ HRb.out).mono ?_
        rintro en wb ⟨rfl, hRb, hUb⟩
        refine ⟨_, rfl, ?_⟩
        rw [HT.out] at hRb ⊢
        simp only [tv] at ⊢
        have HN := Aside0.mk (Both.next (below_drew HB1.out) HA.out HBB.out HNE.out HRa.out HUa.out hRb hUb)
        have HRDn := Aside0.mk (HRa.out.upd hUb HNE.out)
        have HRFn := Aside0.mk hRb
        have hce := hRb.err
        refine hK.out _ _ ?_
        clear hK K
        refine norm_ (a' := ?_) ?_ ?_
        rotate_left
        · show Act.put _ (some 51) _ = _
          simp only [Act.put, List.setIfInBounds_toArray, List.set_cons_zero, List.set_cons_succ, i64_w, i32_w]
          rfl
        have hHeld := hce
        refine pure_ (i := 4) (N := some 52) (v := ?_) (a' := ?_) #[true, true, true, true, true, false, false, false, false, false, false, false, false, false, false, false, false, false, false, false, false] rfl rfl (by kernel_rfl) (fun _ _ _ h => h) (Or.inl ⟨by rfl, ?_⟩) ?_ ?_
        rotate_left
        · intro w'
          go_simp
          with_reducible rfl
        rotate_left
        · simp only [Act.put, List.setIfInBounds_toArray, List.set_cons_zero, List.set_cons_succ, i64_w, i32_w]
          rfl
        refine pure_ (i := 5) (N := some 53) (v := ?_) (a' := ?_) #[true, true, true, true, true, true, false, false, false, false, false, false, false, false, false, false, false, false, false, false, false] rfl rfl (by kernel_rfl) (fun _ _ _ h => h) (Or.inl ⟨by rfl, ?_⟩) ?_ ?_
        rotate_left
        · intro w'
          go_simp
          with_reducible rfl
        rotate_left
        · simp only [Act.put, List.setIfInBounds_toArray, List.set_cons_zero, List.set_cons_succ, i64_w, i32_w]
          rfl
        refine pure_ (i := 6) (N := some 54) (v := ?_) (a' := ?_) #[true, true, true, true, true, true, true, false, false, false, false, false, false, false, false, false, false, false, false, false, false] rfl rfl (by kernel_rfl) (fun _ _ _ h => h) (Or.inl ⟨by rfl, ?_⟩) ?_ ?_
        rotate_left
        · intro w'
          go_simp
          with_reducible rfl
        rotate_left
        · simp only [Act.put, List.setIfInBounds_toArray, List.set_cons_zero, List.set_cons_succ, i64_w, i32_w]
          rfl
        refine pure_ (i := 8) (N := some 56) (v := ?_) (a' := ?_) #[true, true, true, true, true, true, true, false, true, false, false, false, false, false, false, false, false, false, false, false, false] rfl rfl (by kernel_rfl) (fun _ _ _ h => h) (Or.inl ⟨by rfl, ?_⟩) ?_ ?_
        rotate_left
        · intro w'
          go_simp
          with_reducible rfl
        rotate_left
        · simp only [Act.put, List.setIfInBounds_toArray, List.set_cons_zero, List.set_cons_succ, i64_w, i32_w]
          rfl
        refine pure_ (i := 9) (N := some 57) (v := ?_) (a' := ?_) #[true, true, true, true, true, true, true, false, true, true, false, false, false, false, false, false, false, false, false, false, false] rfl rfl (by kernel_rfl) (fun _ _ _ h => h) (Or.inl ⟨by rfl, ?_⟩) ?_ ?_
        rotate_left
        · intro w'
          go_simp
          with_reducible rfl
        rotate_left
        · simp only [Act.put, List.setIfInBounds_toArray, List.set_cons_zero, List.set_cons_succ, i64_w, i32_w]
          rfl
        refine pure_ (i := 10) (N := some 58) (v := ?_) (a' := ?_) #[true, true, true, true, true, true, true, false, true, true, true, false, false, false, false, false, false, false, false, false, false] rfl rfl (by kernel_rfl) (fun _ _ _ h => h) (Or.inl ⟨by rfl, ?_⟩) ?_ ?_
        rotate_left
        · intro w'
          go_simp
          with_reducible rfl
        rotate_left
        · simp only [Act.put, List.setIfInBounds_toArray, List.set_cons_zero, List.set_cons_succ, i64_w, i32_w]
          rfl
        refine take_ (i := 11) (N := some 59) (v := ?_) (a' := ?_) #[true, true, true, true, true, true, true, false, true, true, true, true, false, false, false, false, false, false, false, false, false] rfl rfl (by kernel_rfl) (fun _ _ _ h => h) (Or.inl ⟨by rfl, ?_⟩) hHeld ?_ ?_
        rotate_left
        · intro w' s0
          go_simp
          with_reducible rfl
        rotate_left
        · simp only [Act.put, List.setIfInBounds_toArray, List.set_cons_zero, List.set_cons_succ, i64_w, i32_w]
          rfl
        refine one_ (i := 7) (N := some 55) #[true, true, true, true, true, true, true, true, true, true, true, true, false, false, false, false, false, false, false, false, false] rfl rfl (by kernel_rfl) (by decide) (fun K hK => ?_)
        refine goes_ Try.func19 (by kernel_rfl) rfl #[.pointer (some ⟨ga, 0, none⟩)] (by rfl) rfl rfl (by simp only [List.map_toArray, List.map_cons, List.map_nil]; rfl) ?_
        with_reducible refine (rd_Err _ _ _ _ HRDn.out).mono ?_
        rintro en wc ⟨rfl, rfl⟩
        refine ⟨_, rfl, ?_⟩
        refine hK.out _ _ (hce) (fun hHeld => ?_)
        clear hK K
        refine norm_ (a' := ?_) ?_ ?_
        rotate_left
        · show Act.put _ (some 55) _ = _
          simp only [Act.put, List.setIfInBounds_toArray, List.set_cons_zero, List.set_cons_succ, i64_w, i32_w]
          rfl
        refine pure_ (i := 12) (N := some 60) (v := ?_) (a' := ?_) #[true, true, true, true, true, true, true, true, true, true, true, true, true, false, false, false, false, false, false, false, false] rfl rfl (by kernel_rfl) (fun _ _ _ h => h) (Or.inl ⟨by rfl, ?_⟩) ?_ ?_
        rotate_left
        · intro w'
          go_simp
          with_reducible rfl
        rotate_left
        · simp only [Act.put, List.setIfInBounds_toArray, List.set_cons_zero, List.set_cons_succ, i64_w, i32_w]
          rfl
        refine pure_ (i := 13) (N := some 61) (v := ?_) (a' := ?_) #[true, true, true, true, true, true, true, true, true, true, true, true, true, true, false, false, false, false, false, false, false] rfl rfl (by kernel_rfl) (fun _ _ _ h => h) (Or.inl ⟨by rfl, ?_⟩) ?_ ?_
        rotate_left
        · intro w'
          go_simp
          with_reducible rfl
        rotate_left
        · simp only [Act.put, List.setIfInBounds_toArray, List.set_cons_zero, List.set_cons_succ, i64_w, i32_w]
          rfl
        refine pure_ (i := 14) (N := some 62) (v := ?_) (a' := ?_) #[true, true, true, true, true, true, true, true, true, true, true, true, true, true, true, false, false, false, false, false, false] rfl rfl (by kernel_rfl) (fun _ _ _ h => h) (Or.inl ⟨by rfl, ?_⟩) ?_ ?_
        rotate_left
        · intro w'
          go_simp
          with_reducible rfl
        rotate_left
        · simp only [Act.put, List.setIfInBounds_toArray, List.set_cons_zero, List.set_cons_succ, i64_w, i32_w]
          rfl
        refine pure_ (i := 15) (N := some 63) (v := ?_) (a' := ?_) #[true, true, true, true, true, true, true, true, true, true, true, true, true, true, true, true, false, false, false, false, false] rfl rfl (by kernel_rfl) (fun _ _ _ h => h) (Or.inl ⟨by rfl, ?_⟩) ?_ ?_
        rotate_left
        · intro w'
          go_simp
          with_reducible rfl
        rotate_left
        · simp only [Act.put, List.setIfInBounds_toArray, List.set_cons_zero, List.set_cons_succ, i64_w, i32_w]
          rfl
        refine pure_ (i := 17) (N := some 65) (v := ?_) (a' := ?_) #[true, true, true, true, true, true, true, true, true, true, true, true, true, true, true, true, false, true, false, false, false] rfl rfl (by kernel_rfl) (fun _ _ _ h => h) (Or.inl ⟨by rfl, ?_⟩) ?_ ?_
        rotate_left
        · intro w'
          go_simp
          with_reducible rfl
        rotate_left
        · simp only [Act.put, List.setIfInBounds_toArray, List.set_cons_zero, List.set_cons_succ, i64_w, i32_w]
          rfl
        refine one_ (i := 16) (N := some 64) #[true, true, true, true, true, true, true, true, true, true, true, true, true, true, true, true, true, true, false, false, false] rfl rfl (by kernel_rfl) (by decide) (fun K hK => ?_)
        refine goes_ Try.func20 (by kernel_rfl) rfl #[.pointer (some ⟨ga, 0, none⟩)] (by rfl) rfl rfl (by simp only [List.map_toArray, List.map_cons, List.map_nil]; rfl) ?_
        with_reducible refine (rd_Left _ _ _ _ HRDn.out).mono ?_
        rintro en wd ⟨rfl, rfl⟩
        refine ⟨_, rfl, ?_⟩
        refine hK.out _ _ (hce) (fun hHeld => ?_)
        clear hK K
        refine norm_ (a' := ?_) ?_ ?_
        rotate_left
        · show Act.put _ (some 64) _ = _
          simp only [Act.put, List.setIfInBounds_toArray, List.set_cons_zero, List.set_cons_succ, i64_w, i32_w]
          rfl
        refine one_ (i := 18) (N := some 66) #[true, true, true, true, true, true, true, true, true, true, true, true, true, true, true, true, true, true, true, false, false] rfl rfl (by kernel_rfl) (by decide) (fun K hK => ?_)
        refine goes_ Try.func21 (by kernel_rfl) rfl #[.pointer (some ⟨gb, 0, none⟩)] (by rfl) rfl rfl (by simp only [List.map_toArray, List.map_cons, List.map_nil]; rfl) ?_
        with_reducible refine (rf_Left _ _ _ _ HRFn.out).mono ?_
        rintro en we ⟨rfl, nd, rfl⟩
        refine ⟨_, rfl, ?_⟩
        refine hK.out _ _ (hce) (fun hHeld => ?_)
        clear hK K
        refine norm_ (a' := ?_) ?_ ?_
        rotate_left
        · show Act.put _ (some 66) _ = _
          simp only [Act.put, List.setIfInBounds_toArray, List.set_cons_zero, List.set_cons_succ, i64_w, i32_w]
          rfl
        refine pure_ (i := 19) (N := some 67) (v := ?_) (a' := ?_) #[true, true, true, true, true, true, true, true, true, true, true, true, true, true, true, true, true, true, true, true, false] rfl rfl (by kernel_rfl) (fun _ _ _ h => h) (Or.inl ⟨by rfl, ?_⟩) ?_ ?_
        rotate_left
        · intro w'
          go_simp
          with_reducible rfl
        rotate_left
        · simp only [Act.put, List.setIfInBounds_toArray, List.set_cons_zero, List.set_cons_succ, i64_w, i32_w]
          rfl
        refine pure_ (i := 20) (N := some 68) (v := ?_) (a' := ?_) #[true, true, true, true, true, true, true, true, true, true, true, true, true, true, true, true, true, true, true, true, true] rfl rfl (by kernel_rfl) (fun _ _ _ h => h) (Or.inl ⟨by rfl, ?_⟩) ?_ ?_
        rotate_left
        · intro w'
          go_simp
          with_reducible rfl
        rotate_left
        · simp only [Act.put, List.setIfInBounds_toArray, List.set_cons_zero, List.set_cons_succ, i64_w, i32_w]
          rfl
        refine done_ (by kernel_rfl) ?_
        go_wp2
        go_roundg (gk - 1)
        case measure => have := HK.out; have := HM.out; have := HC.out; omega
        case rel =>
          have hk := HK.out
          have hm := HM.out
          have hc := HC.out
          exact ⟨x + 1, by first | rfl | (rw [wx]), ⟨by omega⟩, ⟨HN.out.below (pw_below_drewN (Below.refl _ _) _)⟩⟩
      · have cb : decide (x < m) = false := decide_eq_false c
        clear c
        go_wp2
        go_ret
        exact ⟨rfl, HB1.out⟩

namespace stampBytes
open Go.ChangeShapes Go.WideShapes Go.ChangeAt Go.RowKit
open Go.ChangeMaps (open_string shut_string)
set_option linter.unusedVariables false
theorem laidOut : laidOutB Try.prog = true := by kernel_rfl
theorem own : ownKnob Try.prog.godebug = none := by kernel_rfl
set_option maxRecDepth 100000 in
theorem lifted (os : Os) (started : os.Started) (H : Type) (enc : TypeId × Value → H) :
    ReturnsInHanded {} Try.checked os 4 .any (Rows.stampBytesSpec.pre6 enc Try.prog Try.f4 Rows.stampBytesRow.domain false) (Rows.stampBytesSpec.post enc Try.prog Try.f4 false true false false) := by
  refine returnsInHanded_of_change_sized (C := Try.checked) own started (by kernel_rfl) Try.func4
    (ChangeSpec.witness6 (enc := enc) (C := Try.checked) false ⟨#[], #[.agg #[.int .u32 0, .int .i64 0, .int .u32 0, .int .u32 0, .int .u32 0], .string ByteArray.empty, .int .i64 0], []⟩ 8 (by kernel_rfl) (by kernel_rfl) (by kernel_rfl) (by kernel_rfl)) ?_
  intro W base args ds gs before hval0 hW hcnd hsz0 _
  have hsz : (DataW.weightsEach Try.prog (Try.f4.params.toList ++ Rows.stampBytesSpec.plain.varTypes Try.prog) (ds ++ gs)).all (· ≤ reachBytes) = true := hsz0
  have hval : ∀ (j : Nat) t v, Try.f4.params[j]? = some t → args[j]? = some v → Value.okWide Try.prog W .any base t v := hval0
  have hW' := hW
  obtain ⟨p, q, hA0, hV, rfl, hfz, hnd⟩ := hW
  have hA : DataW.TrodAll enc Try.prog W 0 (fun _ => true) true Try.f4.params.toList args.toList ds p := hA0
  rw [Try.params4] at hA hval hsz
  obtain ⟨v0, vs0, d0, ds0, p0, q0, hargs, rfl, rfl, h0, r0⟩ := trodAll_cons hA
  obtain ⟨v1, vs1, d1, ds1, p1, q1, rfl, rfl, rfl, h1, r1⟩ := trodAll_cons r0
  obtain ⟨v2, vs2, d2, ds2, p2, q2, rfl, rfl, rfl, h2, r2⟩ := trodAll_cons r1
  obtain ⟨rfl, rfl, rfl⟩ := trodAll_nil r2
  obtain rfl : args = #[v0, v1, v2] := by cases args; simp_all
  obtain ⟨rfl, rfl⟩ := trodVars_none hV
  have k0 := h0
  obtain ⟨a0, c0, rfl, w0⟩ := Open.open_struct Try.underlying25 P04.opens_T (hval 0 25 v0 rfl rfl) h0
  obtain ⟨a1, rfl, rfl, rfl, y1⟩ := open_string Try.underlying9 (hval 1 9 v1 rfl rfl) h1
  have w1 : a1.size ≤ 140737488351232 := by
    have z := sized_string hsz (j := 1) (t := 9) rfl rfl
    rw [Array.length_toList] at z
    exact z
  obtain ⟨a2, rfl, rfl, rfl, w2⟩ := open_int Try.underlying3 (hval 2 3 v2 rfl rfl) h2
  have b2 : -9223372036854775808 ≤ a2 ∧ a2 < 9223372036854775808 := by have := bounds_i64 w2; omega
  clear hA0 hval0 hsz0 hsz
  refine (StampBytes_walk a0 c0 a1 a2 W w0 w1 b2).mono fun e W' ⟨he, bel⟩ => ?_
  subst he
  exact ⟨_, rfl, _, _, _, [], _, [], hW', trodAll_mk1 (shut_bool Try.underlying4 _), (trodAll_cons_mk (Open.trod_below laidOut (by kernel_rfl) (of_decide_eq_true (by kernel_rfl)) k0 bel) (trodAll_cons_mk (shut_string Try.underlying9 y1) (trodAll_cons_mk (shut_int Try.underlying3 w2) trodAll_mk0))), rfl, bel.frame _, fun h => by cases h⟩
theorem over : Rows.stampBytesRow.holds Try.pinned (OpenSpec.ofChange Rows.stampBytesSpec) :=
  OpenClaim.holds_of_wide 4 Try.f4 rfl rfl rfl rfl rfl rfl rfl ⟨rfl, rfl, rfl, rfl, rfl⟩ rfl rfl rfl rfl rfl (by kernel_rfl) Try.func4 (by kernel_rfl)
    (of_decide_eq_true (by kernel_rfl)) (by unfold Func.isWrapper; first | (rw [if_pos (by decide +kernel)]; kernel_rfl) | (rw [if_neg (by decide +kernel)]; exact ⟨rfl, rfl⟩))
    (fun os started H enc _ => lifted os started H enc)
theorem proved : Rows.StampBytesSaid := over
#print axioms proved
end stampBytes
/-- The row, under a short name, for the claim. -/
theorem stampBytes_holds : Rows.StampBytesSaid := stampBytes.proved
end Go.Proofs.Ytjkbgcdhhiakmaa
