/- watershedlaw12.OperFolds returns true for every input: what becomes of records together, by any kind, is the document's answer; the list stays as it is (lists of more than 300 records are let go by the law itself). -/
import Derived.Test.YtogainbkidgkhaaRows
import Derived.WalkKit
import Derived.ProofKit
import Derived.OpenShut
import Derived.ShutString
import Derived.ChangeOld
import Derived.Below
import Derived.SizedLaws
import Derived.Test.YtogainbkidgkhaaX12J
import Derived.Deep.CutBlock
import Derived.Deep.DeepCutAuto
namespace Go.Proofs.Ytogainbkidgkhaa
set_option linter.unusedSimpArgs false
set_option linter.unusedVariables false
open Go.RowKit Go.Proofs.YtogainbkidgkhaaW.PrintWords Go.Proofs.YtogainbkidgkhaaW.PrintLast Go.Proofs.YtogainbkidgkhaaW.PrintMore Base Q12f P12F
theorem opens_Rw : Open.Opens Try.prog 25 k25 (fun x => F12.wfR x = true) :=
  Open.Opens.imp (Open.Opens.iso (Open.opens_struct Try.underlying25 (by kernel_rfl)
    (Open.opensF_cons (by kernel_rfl) (by rfl) (Open.opens_int (P := Try.prog) (k := .i64) (by kernel_rfl))
      (Open.opensF_last (by kernel_rfl) (Open.opens_int (P := Try.prog) (k := .i64) (by kernel_rfl))))) (fun x : P12.R => (x.f0, x.f1)) (fun t => ⟨t.1, t.2⟩) (fun _ => rfl)) (fun x h => by unfold F12.wfR; simp only [Bool.and_eq_true]; exact h)
theorem foldsF_length (kd : Int) (l : List P12.R) : (F12.foldsF kd l).length ≤ l.length := by
  unfold F12.foldsF
  rw [List.length_map]
  exact F12.keysOf_length l
theorem goesF_length (kd a b : Int) (l : List P12.R) : (J12.goesF kd a b l).length ≤ l.length := by
  unfold J12.goesF
  split
  · exact foldsF_length kd l
  · exact P12.eachF_length kd a b l
set_option maxRecDepth 100000 in
set_option maxHeartbeats 8000000 in
theorem OperFolds_walk (o : P12.O6) (co : List Value) (l : List P12.R) (A : Option Addr) (c : Nat) (w : World) (ho : P12.kO.K w o co ∧ True)
    (hl : l.length ≤ c ∧ Kd.C k25 w A l.length l ∧ l.length ≤ 9223372036854775807 ∧ ∀ x ∈ l, F12.wfR x = true) :
    Calls Try.prog 4 #[.agg co.toArray, .slice A l.length c] w fun e w' => e = .returned (.bool true) ∧ Below w.heap.size w w' := by
  rw [P12.kO_open ho.1]
  clear ho
  obtain ⟨nm, kd, c0, d0, a0, b0⟩ := o
  simp only
  have HR := Aside0.mk hl.2.1
  have HW : Aside0 (l.length ≤ c ∧ ∀ x ∈ l, F12.wfR x = true) := ⟨hl.1, hl.2.2.2⟩
  clear hl
  go_enter Try.func4, Try.ntmps4
  by_cases c1 : l.length ≤ 300
  · have e1 : decide ((l.length : Int) > 300) = false := decide_eq_false (by omega)
    have p1 : ((300 : Int) < (l.length : Int)) = False := eq_false (by omega)
    have p2 : (300 < l.length) = False := eq_false (by omega)
    have HL : Aside0 (l.length ≤ c ∧ l.length ≤ 300 ∧ l.all F12.wfR = true) := ⟨HW.out.1, c1, List.all_eq_true.2 HW.out.2⟩
    have HLL : Aside0 (l.length < 1000000 ∧ l.length ≤ 1000000000) := ⟨by omega, by omega⟩
    clear HW c1
    go_wp2_with fail
    have hb0 := below_alloc (Below.refl w.heap.size w) (.cells #[.string nm, .int .i64 kd, .int .i64 c0, .int .i64 d0, .int .i64 a0, .int .i64 b0] 23)
    have HT := Aside0.mk hb0
    have HG := Aside0.mk (blk_new w (.cells #[.string nm, .int .i64 kd, .int .i64 c0, .int .i64 d0, .int .i64 a0, .int .i64 b0] 23))
    clear hb0
    generalize w.alloc _ = w1 at HT HG ⊢
    generalize hgE : w.heap.size = g at HG ⊢
    have HGE := Aside0.mk hgE
    clear hgE
    refine (watershedlaw12_own.calls A c l l w1 (Kd.C_below HR.out HT.out) HL.out.1 (P12.own_f l (by have := HL.out; omega))).mono ?_
    rintro e w2 ⟨vx, rfl, hq, hb⟩
    obtain ⟨Ax, cx, rfl⟩ := Kd.R_slice hq
    have HXa := Aside0.mk hq
    have HGa := Aside0.mk (blk_below HG.out hb)
    have HTa := Aside0.mk (below_step HT.out hb)
    have s1 := blk_at (i := 1) HGa.out rfl
    clear hq hb HG HT p1 p2 e1
    go_wp2_with fail
    obtain ⟨FR, hFR⟩ : ∃ FR : List P12.R × Int, FR = if 11 ≤ kd ∧ kd ≤ 14 then (F12.foldsF kd l, 0) else ([], 70) := ⟨_, rfl⟩
    have HFL : Aside0 (FR.1.length < 1000000 ∧ FR.1.length ≤ 1000000000) := ⟨by
      have h1 := foldsF_length kd l
      have h2 := HL.out
      by_cases hk : 11 ≤ kd ∧ kd ≤ 14
      · rw [hFR, if_pos hk]
        show (F12.foldsF kd l).length < _ ∧ (F12.foldsF kd l).length ≤ _
        constructor <;> omega
      · rw [hFR, if_neg hk]
        exact ⟨by simp, by simp⟩⟩
    have HFR := Aside0.mk hFR
    clear hFR
    refine (Ext.oper_Fold.calls kd Ax cx l FR.1 FR.2 w2 (Kd.R_reads' HXa.out).2.2 (Kd.R_reads' HXa.out).2.1 (by rw [Fold_f kd l HL.out.2.1 HL.out.2.2, ← HFR.out])).mono ?_
    rintro e w3 ⟨va, rfl, hq, hb⟩
    obtain ⟨Aa, ca, rfl⟩ := Kd.R_slice hq
    have HAb := Aside0.mk hq
    have HXb := Aside0.mk (Kd.R_below HXa.out hb)
    have HGb := Aside0.mk (blk_below HGa.out hb)
    have HTb := Aside0.mk (below_step HTa.out hb)
    clear hq hb HXa HGa HTa s1
    have s1 := blk_at (i := 1) HGb.out rfl
    go_wp2_with fail
    refine (Ext.watershedref12_Fold.calls kd A c l FR.1 FR.2 w3 (Kd.C_below HR.out HTb.out) HL.out.1 (by rw [refFold_f kd l HL.out.2.1, ← HFR.out])).mono ?_
    rintro e w5 ⟨vb, rfl, hq, hb⟩
    obtain ⟨Ab, cb, rfl⟩ := Kd.R_slice hq
    have HBc := Aside0.mk hq
    have HAc := Aside0.mk (Kd.R_below HAb.out hb)
    have HXc := Aside0.mk (Kd.R_below HXb.out hb)
    have HGc := Aside0.mk (blk_below HGb.out hb)
    have HTc := Aside0.mk (below_step HTb.out hb)
    clear hq hb HXb HGb HTb HAb s1
    have HGL : Aside0 ((J12.goesF kd a0 b0 l).length < 1000000 ∧ (J12.goesF kd a0 b0 l).length ≤ 1000000000) := ⟨by
      have h1 := goesF_length kd a0 b0 l
      have h2 := HL.out
      constructor <;> omega⟩
    have e9 : (FR.2 == FR.2) = true := by simp
    go_upto_region 6 with (fail)
    have hd := below_drew (Below.refl w5.heap.size w5)
    have HB0 := Aside0.mk (Kd.R_below HBc.out hd)
    have HA0 := Aside0.mk (Kd.R_below HAc.out hd)
    have HX0 := Aside0.mk (Kd.R_below HXc.out hd)
    have HG0 : Aside0 (w5.drew.heap[g]? = some (.cells #[.string nm, .int .i64 kd, .int .i64 c0, .int .i64 d0, .int .i64 a0, .int .i64 b0] 23 (0, 0))) := ⟨blk_below HGc.out hd⟩
    have HT0 := Aside0.mk (below_step HTc.out hd)
    clear hd HBc HAc HXc HGc HTc
    have s0 := blk_at (i := 0) HG0.out rfl
    have s1 := blk_at (i := 1) HG0.out rfl
    have s2 := blk_at (i := 2) HG0.out rfl
    have s3 := blk_at (i := 3) HG0.out rfl
    have s4 := blk_at (i := 4) HG0.out rfl
    have s5 := blk_at (i := 5) HG0.out rfl
    refine start_ (n := 24) (S := fun w' => w'.cell? ⟨g, 0, none⟩ = some (.string nm) ∧ w'.cell? ⟨g, 1, none⟩ = some (.int .i64 kd) ∧ w'.cell? ⟨g, 2, none⟩ = some (.int .i64 c0) ∧ w'.cell? ⟨g, 3, none⟩ = some (.int .i64 d0) ∧ w'.cell? ⟨g, 4, none⟩ = some (.int .i64 a0) ∧ w'.cell? ⟨g, 5, none⟩ = some (.int .i64 b0)) (ds := []) #[false, false, false, false, false, false, false, false, false, false, false, false, false, false, false, false, false, false, false, false, false, false, false, false] (by kernel_rfl) rfl rfl ⟨s0, s1, s2, s3, s4, s5⟩ (fun hHeld => ?_)
    refine pure_ (i := 0) (N := some 29) (v := ?_) (a' := ?_) #[true, false, false, false, false, false, false, false, false, false, false, false, false, false, false, false, false, false, false, false, false, false, false, false] rfl rfl (by kernel_rfl) (fun _ _ _ h => h) (Or.inl ⟨by rfl, ?_⟩) ?_ ?_
    rotate_left
    · intro w'
      go_simp
      with_reducible rfl
    rotate_left
    · simp only [Act.put, List.setIfInBounds_toArray, List.set_cons_zero, List.set_cons_succ, i64_w, i32_w]
      rfl
    refine pure_ (i := 1) (N := some 30) (v := ?_) (a' := ?_) #[true, true, false, false, false, false, false, false, false, false, false, false, false, false, false, false, false, false, false, false, false, false, false, false] rfl rfl (by kernel_rfl) (fun _ _ _ h => h) (Or.inl ⟨by rfl, ?_⟩) ?_ ?_
    rotate_left
    · intro w'
      go_simp
      with_reducible rfl
    rotate_left
    · simp only [Act.put, List.setIfInBounds_toArray, List.set_cons_zero, List.set_cons_succ, i64_w, i32_w]
      rfl
    refine one_ (i := 2) (N := some 31) #[true, true, true, false, false, false, false, false, false, false, false, false, false, false, false, false, false, false, false, false, false, false, false, false] rfl rfl (by kernel_rfl) (by decide) (fun K hK => ?_)
    refine goes_ Try.func13 (by kernel_rfl) rfl #[.slice Aa FR.1.length ca, .slice Ab FR.1.length cb] (by rfl) rfl rfl (by simp only [List.map_toArray, List.map_cons, List.map_nil]; rfl) ?_
    with_reducible refine (watershedref11_Alike.calls 1000000 Aa ca FR.1 Ab cb FR.1 true _ (Kd.R_reads' HA0.out).2.2 (Kd.R_reads' HA0.out).2.1 (Kd.R_reads' HB0.out).2.2 (Kd.R_reads' HB0.out).2.1 (P12.Alike_f 1000000 FR.1 HFL.out.1 HFL.out.2)).mono ?_
    rintro e w6 ⟨rfl, nd, rfl⟩
    refine ⟨_, rfl, ?_⟩
    have hb1 := pw_below_drewN (Below.refl w5.drew.heap.size w5.drew) nd
    have HG1 := Aside0.mk (blk_below HG0.out hb1)
    have HT1 := Aside0.mk (below_step HT0.out hb1)
    have HX1 := Aside0.mk (Kd.R_below HX0.out hb1)
    generalize w5.drew.drewN nd = w6 at HG1 HT1 HX1 ⊢
    clear hb1
    refine hK.out _ _ ⟨blk_at (i := 0) HG1.out rfl, blk_at (i := 1) HG1.out rfl, blk_at (i := 2) HG1.out rfl, blk_at (i := 3) HG1.out rfl, blk_at (i := 4) HG1.out rfl, blk_at (i := 5) HG1.out rfl⟩ (fun hHeld => ?_)
    clear hK K
    refine norm_ (a' := ?_) ?_ ?_
    rotate_left
    · show Act.put _ (some 31) _ = _
      simp only [Act.put, List.setIfInBounds_toArray, List.set_cons_zero, List.set_cons_succ, i64_w, i32_w]
      rfl
    refine pure_ (i := 3) (N := some 32) (v := ?_) (a' := ?_) #[true, true, true, true, false, false, false, false, false, false, false, false, false, false, false, false, false, false, false, false, false, false, false, false] rfl rfl (by kernel_rfl) (fun _ _ _ h => h) (Or.inl ⟨by rfl, ?_⟩) ?_ ?_
    rotate_left
    · intro w'
      go_simp
      with_reducible rfl
    rotate_left
    · simp only [Act.put, List.setIfInBounds_toArray, List.set_cons_zero, List.set_cons_succ, i64_w, i32_w]
      rfl
    refine pure_ (i := 4) (N := some 33) (v := ?_) (a' := ?_) #[true, true, true, true, true, false, false, false, false, false, false, false, false, false, false, false, false, false, false, false, false, false, false, false] rfl rfl (by kernel_rfl) (fun _ _ _ h => h) (Or.inl ⟨by rfl, ?_⟩) ?_ ?_
    rotate_left
    · intro w'
      go_simp
      with_reducible rfl
    rotate_left
    · simp only [Act.put, List.setIfInBounds_toArray, List.set_cons_zero, List.set_cons_succ, i64_w, i32_w]
      rfl
    refine pure_ (i := 5) (N := some 34) (v := ?_) (a' := ?_) #[true, true, true, true, true, true, false, false, false, false, false, false, false, false, false, false, false, false, false, false, false, false, false, false] rfl rfl (by kernel_rfl) (fun _ _ _ h => h) (Or.inl ⟨by rfl, ?_⟩) ?_ ?_
    rotate_left
    · intro w'
      go_simp
      with_reducible rfl
    rotate_left
    · simp only [Act.put, List.setIfInBounds_toArray, List.set_cons_zero, List.set_cons_succ, i64_w, i32_w]
      rfl
    refine pure_ (i := 6) (N := some 35) (v := ?_) (a' := ?_) #[true, true, true, true, true, true, true, false, false, false, false, false, false, false, false, false, false, false, false, false, false, false, false, false] rfl rfl (by kernel_rfl) (fun _ _ _ h => h) (Or.inl ⟨by rfl, ?_⟩) ?_ ?_
    rotate_left
    · intro w'
      go_simp
      with_reducible rfl
    rotate_left
    · simp only [Act.put, List.setIfInBounds_toArray, List.set_cons_zero, List.set_cons_succ, i64_w, i32_w]
      rfl
    refine pure_ (i := 7) (N := some 36) (v := ?_) (a' := ?_) #[true, true, true, true, true, true, true, true, false, false, false, false, false, false, false, false, false, false, false, false, false, false, false, false] rfl rfl (by kernel_rfl) (fun _ _ _ h => h) (Or.inl ⟨by rfl, ?_⟩) ?_ ?_
    rotate_left
    · intro w'
      go_simp
      with_reducible rfl
    rotate_left
    · simp only [Act.put, List.setIfInBounds_toArray, List.set_cons_zero, List.set_cons_succ, i64_w, i32_w]
      rfl
    refine pure_ (i := 8) (N := some 37) (v := ?_) (a' := ?_) #[true, true, true, true, true, true, true, true, true, false, false, false, false, false, false, false, false, false, false, false, false, false, false, false] rfl rfl (by kernel_rfl) (fun _ _ _ h => h) (Or.inl ⟨by rfl, ?_⟩) ?_ ?_
    rotate_left
    · intro w'
      go_simp
      with_reducible rfl
    rotate_left
    · simp only [Act.put, List.setIfInBounds_toArray, List.set_cons_zero, List.set_cons_succ, i64_w, i32_w]
      rfl
    refine pure_ (i := 11) (N := some 40) (v := ?_) (a' := ?_) #[true, true, true, true, true, true, true, true, true, false, false, true, false, false, false, false, false, false, false, false, false, false, false, false] rfl rfl (by kernel_rfl) (fun _ _ _ h => h) (Or.inl ⟨by rfl, ?_⟩) ?_ ?_
    rotate_left
    · intro w'
      go_simp
      with_reducible rfl
    rotate_left
    · simp only [Act.put, List.setIfInBounds_toArray, List.set_cons_zero, List.set_cons_succ, i64_w, i32_w]
      rfl
    refine pure_ (i := 14) (N := some 43) (v := ?_) (a' := ?_) #[true, true, true, true, true, true, true, true, true, false, false, true, false, false, true, false, false, false, false, false, false, false, false, false] rfl rfl (by kernel_rfl) (fun _ _ _ h => h) (Or.inl ⟨by rfl, ?_⟩) ?_ ?_
    rotate_left
    · intro w'
      go_simp
      with_reducible rfl
    rotate_left
    · simp only [Act.put, List.setIfInBounds_toArray, List.set_cons_zero, List.set_cons_succ, i64_w, i32_w]
      rfl
    refine take_ (i := 9) (N := some 38) (v := ?_) (a' := ?_) #[true, true, true, true, true, true, true, true, true, true, false, true, false, false, true, false, false, false, false, false, false, false, false, false] rfl rfl (by kernel_rfl) (fun _ _ _ h => h) (Or.inl ⟨by rfl, ?_⟩) hHeld ?_ ?_
    rotate_left
    · rintro w' ⟨s0, s1, s2, s3, s4, s5⟩
      go_simp
      with_reducible rfl
    rotate_left
    · simp only [Act.put, List.setIfInBounds_toArray, List.set_cons_zero, List.set_cons_succ, i64_w, i32_w]
      rfl
    refine take_ (i := 13) (N := some 42) (v := ?_) (a' := ?_) #[true, true, true, true, true, true, true, true, true, true, false, true, false, true, true, false, false, false, false, false, false, false, false, false] rfl rfl (by kernel_rfl) (fun _ _ _ h => h) (Or.inl ⟨by rfl, ?_⟩) hHeld ?_ ?_
    rotate_left
    · rintro w' ⟨s0, s1, s2, s3, s4, s5⟩
      go_simp
      with_reducible rfl
    rotate_left
    · simp only [Act.put, List.setIfInBounds_toArray, List.set_cons_zero, List.set_cons_succ, i64_w, i32_w]
      rfl
    refine one_ (i := 10) (N := some 39) #[true, true, true, true, true, true, true, true, true, true, true, true, false, true, true, false, false, false, false, false, false, false, false, false] rfl rfl (by kernel_rfl) (by decide) (fun K hK => ?_)
    refine goes_ Try.func9 (by kernel_rfl) rfl #[.agg #[.string nm, .int .i64 kd, .int .i64 c0, .int .i64 d0, .int .i64 a0, .int .i64 b0]] (by rfl) rfl rfl (by simp only [List.map_toArray, List.map_cons, List.map_nil]; rfl) ?_
    with_reducible refine (watershedlaw12_To.calls nm kd c0 d0 a0 b0 nm kd c0 d0 a0 b0 _ (P12.To_f nm kd c0 d0 a0 b0)).mono ?_
    rintro e w7 ⟨rfl, hb2⟩
    refine ⟨_, rfl, ?_⟩
    have HG2 := Aside0.mk (blk_below HG1.out hb2)
    have HT2 := Aside0.mk (below_step HT1.out hb2)
    have HX2 := Aside0.mk (Kd.R_below HX1.out hb2)
    clear hb2
    refine hK.out _ _ ⟨blk_at (i := 0) HG2.out rfl, blk_at (i := 1) HG2.out rfl, blk_at (i := 2) HG2.out rfl, blk_at (i := 3) HG2.out rfl, blk_at (i := 4) HG2.out rfl, blk_at (i := 5) HG2.out rfl⟩ (fun hHeld => ?_)
    clear hK K
    refine norm_ (a' := ?_) ?_ ?_
    rotate_left
    · show Act.put _ (some 39) _ = _
      simp only [Act.put, List.setIfInBounds_toArray, List.set_cons_zero, List.set_cons_succ, i64_w, i32_w]
      rfl
    refine one_ (i := 12) (N := some 41) #[true, true, true, true, true, true, true, true, true, true, true, true, true, true, true, false, false, false, false, false, false, false, false, false] rfl rfl (by kernel_rfl) (by decide) (fun K hK => ?_)
    refine goes_ Try.func19 (by kernel_rfl) rfl #[.agg #[.string nm, .int .i64 kd, .int .i64 c0, .int .i64 d0, .int .i64 a0, .int .i64 b0], .slice Ax l.length cx] (by rfl) rfl rfl (by simp only [List.map_toArray, List.map_cons, List.map_nil]; rfl) ?_
    with_reducible refine (J12.Goes_calls nm kd c0 d0 a0 b0 Ax cx l _ (Kd.R_reads' HX2.out).2.2 (Kd.R_reads' HX2.out).2.1 HL.out.2.1 HL.out.2.2).mono ?_
    rintro e w8 ⟨v7, rfl, hq7, hb3⟩
    refine ⟨_, rfl, ?_⟩
    have HG3 := Aside0.mk (blk_below HG2.out hb3)
    have HT3 := Aside0.mk (below_step HT2.out hb3)
    have HX3 := Aside0.mk (Kd.R_below HX2.out hb3)
    have HP3 := Aside0.mk hq7
    clear hb3 hq7
    obtain ⟨Ap, cp, rfl⟩ := Kd.R_slice HP3.out
    refine hK.out _ _ ⟨blk_at (i := 0) HG3.out rfl, blk_at (i := 1) HG3.out rfl, blk_at (i := 2) HG3.out rfl, blk_at (i := 3) HG3.out rfl, blk_at (i := 4) HG3.out rfl, blk_at (i := 5) HG3.out rfl⟩ (fun hHeld => ?_)
    clear hK K
    refine norm_ (a' := ?_) ?_ ?_
    rotate_left
    · show Act.put _ (some 41) _ = _
      simp only [Act.put, List.setIfInBounds_toArray, List.set_cons_zero, List.set_cons_succ, i64_w, i32_w]
      rfl
    refine one_ (i := 15) (N := some 44) #[true, true, true, true, true, true, true, true, true, true, true, true, true, true, true, true, false, false, false, false, false, false, false, false] rfl rfl (by kernel_rfl) (by decide) (fun K hK => ?_)
    refine goes_ Try.func20 (by kernel_rfl) rfl #[.agg #[.string nm, .int .i64 kd, .int .i64 c0, .int .i64 d0, .int .i64 a0, .int .i64 b0], .slice A l.length c] (by rfl) rfl rfl (by simp only [List.map_toArray, List.map_cons, List.map_nil]; rfl) ?_
    with_reducible refine (J12.refGoes_calls nm kd c0 d0 a0 b0 A c l _ (Kd.C_below HR.out HT3.out) HL.out.1 HL.out.2.1).mono ?_
    rintro e w9 ⟨v8, rfl, hq8, hb4⟩
    refine ⟨_, rfl, ?_⟩
    have HG4 := Aside0.mk (blk_below HG3.out hb4)
    have HT4 := Aside0.mk (below_step HT3.out hb4)
    have HX4 := Aside0.mk (Kd.R_below HX3.out hb4)
    have HP4 := Aside0.mk (Kd.R_below HP3.out hb4)
    have HQ4 := Aside0.mk hq8
    clear hb4 hq8
    obtain ⟨Aq, cq, rfl⟩ := Kd.R_slice HQ4.out
    refine hK.out _ _ ⟨blk_at (i := 0) HG4.out rfl, blk_at (i := 1) HG4.out rfl, blk_at (i := 2) HG4.out rfl, blk_at (i := 3) HG4.out rfl, blk_at (i := 4) HG4.out rfl, blk_at (i := 5) HG4.out rfl⟩ (fun hHeld => ?_)
    clear hK K
    refine norm_ (a' := ?_) ?_ ?_
    rotate_left
    · show Act.put _ (some 44) _ = _
      simp only [Act.put, List.setIfInBounds_toArray, List.set_cons_zero, List.set_cons_succ, i64_w, i32_w]
      rfl
    refine one_ (i := 16) (N := some 45) #[true, true, true, true, true, true, true, true, true, true, true, true, true, true, true, true, true, false, false, false, false, false, false, false] rfl rfl (by kernel_rfl) (by decide) (fun K hK => ?_)
    refine goes_ Try.func13 (by kernel_rfl) rfl #[.slice Ap (J12.goesF kd a0 b0 l).length cp, .slice Aq (J12.goesF kd a0 b0 l).length cq] (by rfl) rfl rfl (by simp only [List.map_toArray, List.map_cons, List.map_nil]; rfl) ?_
    with_reducible refine (watershedref11_Alike.calls 1000000 Ap cp (J12.goesF kd a0 b0 l) Aq cq (J12.goesF kd a0 b0 l) true _ (Kd.R_reads' HP4.out).2.2 (Kd.R_reads' HP4.out).2.1 (Kd.R_reads' HQ4.out).2.2 (Kd.R_reads' HQ4.out).2.1 (P12.Alike_f 1000000 _ HGL.out.1 HGL.out.2)).mono ?_
    rintro e w10 ⟨rfl, nd2, rfl⟩
    refine ⟨_, rfl, ?_⟩
    have hb5 := pw_below_drewN (Below.refl w9.heap.size w9) nd2
    have HG5 := Aside0.mk (blk_below HG4.out hb5)
    have HT5 := Aside0.mk (below_step HT4.out hb5)
    have HX5 := Aside0.mk (Kd.R_below HX4.out hb5)
    generalize w9.drewN nd2 = w10 at HG5 HT5 HX5 ⊢
    clear hb5
    refine hK.out _ _ ⟨blk_at (i := 0) HG5.out rfl, blk_at (i := 1) HG5.out rfl, blk_at (i := 2) HG5.out rfl, blk_at (i := 3) HG5.out rfl, blk_at (i := 4) HG5.out rfl, blk_at (i := 5) HG5.out rfl⟩ (fun hHeld => ?_)
    clear hK K
    refine norm_ (a' := ?_) ?_ ?_
    rotate_left
    · show Act.put _ (some 45) _ = _
      simp only [Act.put, List.setIfInBounds_toArray, List.set_cons_zero, List.set_cons_succ, i64_w, i32_w]
      rfl
    refine pure_ (i := 17) (N := some 46) (v := ?_) (a' := ?_) #[true, true, true, true, true, true, true, true, true, true, true, true, true, true, true, true, true, true, false, false, false, false, false, false] rfl rfl (by kernel_rfl) (fun _ _ _ h => h) (Or.inl ⟨by rfl, ?_⟩) ?_ ?_
    rotate_left
    · intro w'
      go_simp
      with_reducible rfl
    rotate_left
    · simp only [Act.put, List.setIfInBounds_toArray, List.set_cons_zero, List.set_cons_succ, i64_w, i32_w]
      rfl
    refine pure_ (i := 18) (N := some 47) (v := ?_) (a' := ?_) #[true, true, true, true, true, true, true, true, true, true, true, true, true, true, true, true, true, true, true, false, false, false, false, false] rfl rfl (by kernel_rfl) (fun _ _ _ h => h) (Or.inl ⟨by rfl, ?_⟩) ?_ ?_
    rotate_left
    · intro w'
      go_simp
      with_reducible rfl
    rotate_left
    · simp only [Act.put, List.setIfInBounds_toArray, List.set_cons_zero, List.set_cons_succ, i64_w, i32_w]
      rfl
    refine pure_ (i := 19) (N := some 48) (v := ?_) (a' := ?_) #[true, true, true, true, true, true, true, true, true, true, true, true, true, true, true, true, true, true, true, true, false, false, false, false] rfl rfl (by kernel_rfl) (fun _ _ _ h => h) (Or.inl ⟨by rfl, ?_⟩) ?_ ?_
    rotate_left
    · intro w'
      go_simp
      with_reducible rfl
    rotate_left
    · simp only [Act.put, List.setIfInBounds_toArray, List.set_cons_zero, List.set_cons_succ, i64_w, i32_w]
      rfl
    refine pure_ (i := 20) (N := some 49) (v := ?_) (a' := ?_) #[true, true, true, true, true, true, true, true, true, true, true, true, true, true, true, true, true, true, true, true, true, false, false, false] rfl rfl (by kernel_rfl) (fun _ _ _ h => h) (Or.inl ⟨by rfl, ?_⟩) ?_ ?_
    rotate_left
    · intro w'
      go_simp
      with_reducible rfl
    rotate_left
    · simp only [Act.put, List.setIfInBounds_toArray, List.set_cons_zero, List.set_cons_succ, i64_w, i32_w]
      rfl
    refine one_ (i := 21) (N := some 50) #[true, true, true, true, true, true, true, true, true, true, true, true, true, true, true, true, true, true, true, true, true, true, false, false] rfl rfl (by kernel_rfl) (by decide) (fun K hK => ?_)
    refine goes_ Try.func13 (by kernel_rfl) rfl #[.slice Ax l.length cx, .slice A l.length c] (by rfl) rfl rfl (by simp only [List.map_toArray, List.map_cons, List.map_nil]; rfl) ?_
    with_reducible refine (watershedref11_Alike.calls 1000000 Ax cx l A c l true _ (Kd.R_reads' HX5.out).2.2 (Kd.R_reads' HX5.out).2.1 (Kd.C_below HR.out HT5.out) HL.out.1 (P12.Alike_f 1000000 l HLL.out.1 HLL.out.2)).mono ?_
    rintro e w11 ⟨rfl, nd3, rfl⟩
    refine ⟨_, rfl, ?_⟩
    have hb6 := pw_below_drewN (Below.refl w10.heap.size w10) nd3
    have HG6 := Aside0.mk (blk_below HG5.out hb6)
    have HT6 := Aside0.mk (below_step HT5.out hb6)
    generalize w10.drewN nd3 = w11 at HG6 HT6 ⊢
    clear hb6
    refine hK.out _ _ ⟨blk_at (i := 0) HG6.out rfl, blk_at (i := 1) HG6.out rfl, blk_at (i := 2) HG6.out rfl, blk_at (i := 3) HG6.out rfl, blk_at (i := 4) HG6.out rfl, blk_at (i := 5) HG6.out rfl⟩ (fun hHeld => ?_)
    clear hK K
    refine norm_ (a' := ?_) ?_ ?_
    rotate_left
    · show Act.put _ (some 50) _ = _
      simp only [Act.put, List.setIfInBounds_toArray, List.set_cons_zero, List.set_cons_succ, i64_w, i32_w]
      rfl
    refine pure_ (i := 22) (N := some 51) (v := ?_) (a' := ?_) #[true, true, true, true, true, true, true, true, true, true, true, true, true, true, true, true, true, true, true, true, true, true, true, false] rfl rfl (by kernel_rfl) (fun _ _ _ h => h) (Or.inl ⟨by rfl, ?_⟩) ?_ ?_
    rotate_left
    · intro w'
      go_simp
      with_reducible rfl
    rotate_left
    · simp only [Act.put, List.setIfInBounds_toArray, List.set_cons_zero, List.set_cons_succ, i64_w, i32_w]
      rfl
    refine pure_ (i := 23) (N := some 4) (v := ?_) (a' := ?_) #[true, true, true, true, true, true, true, true, true, true, true, true, true, true, true, true, true, true, true, true, true, true, true, true] rfl rfl (by kernel_rfl) (fun _ _ _ h => h) (Or.inl ⟨by rfl, ?_⟩) ?_ ?_
    rotate_left
    · intro w'
      go_simp
      with_reducible rfl
    rotate_left
    · simp only [Act.put, List.setIfInBounds_toArray, List.set_cons_zero, List.set_cons_succ, i64_w, i32_w]
      rfl
    refine done_ (by kernel_rfl) ?_
    go_wp2
    go_ret
    exact ⟨rfl, HT6.out⟩
  · have e1 : decide ((l.length : Int) > 300) = true := decide_eq_true (by omega)
    have p1 : ((300 : Int) < (l.length : Int)) = True := eq_true (by omega)
    have p2 : (300 < l.length) = True := eq_true (by omega)
    clear c1
    go_wp2
    go_ret
    exact ⟨rfl, below_alloc (Below.refl _ _) _⟩
namespace operFolds
open Go.ChangeShapes Go.WideShapes Go.ChangeAt Go.RowKit
open Go.ChangeMaps (open_string shut_string)
set_option linter.unusedVariables false
theorem laidOut : laidOutB Try.prog = true := by kernel_rfl
theorem own : ownKnob Try.prog.godebug = none := by kernel_rfl
set_option maxRecDepth 100000 in
theorem lifted (os : Os) (started : os.Started) (H : Type) (enc : TypeId × Value → H) :
    ReturnsInHanded {} Try.checked os 4 .any (Rows.operFoldsSpec.pre6 enc Try.prog Try.f4 Rows.operFoldsRow.domain false) (Rows.operFoldsSpec.post enc Try.prog Try.f4 false true false false) := by
  refine returnsInHanded_of_change_sized (C := Try.checked) own started (by kernel_rfl) Try.func4
    (ChangeSpec.witness6 (enc := enc) (C := Try.checked) false ⟨#[], #[.agg #[.string ByteArray.empty, .int .i64 0, .int .i64 0, .int .i64 0, .int .i64 0, .int .i64 0], .slice none 0 0], []⟩ 8 (by kernel_rfl) (by kernel_rfl) (by kernel_rfl) (by kernel_rfl)) ?_
  intro W base args ds gs before hval0 hW hcnd hsz0 _
  have hsz : (DataW.weightsEach Try.prog (Try.f4.params.toList ++ Rows.operFoldsSpec.plain.varTypes Try.prog) (ds ++ gs)).all (· ≤ reachBytes) = true := hsz0
  have hval : ∀ (j : Nat) t v, Try.f4.params[j]? = some t → args[j]? = some v → Value.okWide Try.prog W .any base t v := hval0
  have hW' := hW
  obtain ⟨p, q, hA0, hV, rfl, hfz, hnd⟩ := hW
  have hA : DataW.TrodAll enc Try.prog W 0 (fun _ => true) true Try.f4.params.toList args.toList ds p := hA0
  rw [Try.params4] at hA hval hsz
  obtain ⟨v0, vs0, d0, ds0, p0, q0, hargs, rfl, rfl, h0, r0⟩ := trodAll_cons hA
  obtain ⟨v1, vs1, d1, ds1, p1, q1, rfl, rfl, rfl, h1, r1⟩ := trodAll_cons r0
  obtain ⟨rfl, rfl, rfl⟩ := trodAll_nil r1
  obtain rfl : args = #[v0, v1] := by cases args; simp_all
  obtain ⟨rfl, rfl⟩ := trodVars_none hV
  have k0 := h0
  obtain ⟨a0, c0, rfl, w0⟩ := Open.open_struct Try.underlying23 P12.opens_O (hval 0 23 v0 rfl rfl) h0
  have k1 := h1
  obtain ⟨a1, A1, c1, rfl, w1⟩ := Open.open_slice Try.underlying26 (Open.opens_slice Try.underlying26 (by kernel_rfl) opens_Rw) (hval 1 26 v1 rfl rfl) h1
  clear hA0 hval0 hsz0 hsz
  refine (OperFolds_walk a0 c0 a1 A1 c1 W w0 w1).mono fun e W' ⟨he, bel⟩ => ?_
  subst he
  exact ⟨_, rfl, _, _, _, [], _, [], hW', trodAll_mk1 (shut_bool Try.underlying4 _), (trodAll_cons_mk (Open.trod_below laidOut (by kernel_rfl) (of_decide_eq_true (by kernel_rfl)) k0 bel) (trodAll_cons_mk (Open.trod_below laidOut (by kernel_rfl) (of_decide_eq_true (by kernel_rfl)) k1 bel) trodAll_mk0)), rfl, bel.frame _, fun h => by cases h⟩
theorem over : Rows.operFoldsRow.holds Try.pinned (OpenSpec.ofChange Rows.operFoldsSpec) :=
  OpenClaim.holds_of_wide 4 Try.f4 rfl rfl rfl rfl rfl rfl rfl ⟨rfl, rfl, rfl, rfl, rfl⟩ rfl rfl rfl rfl rfl (by kernel_rfl) Try.func4 (by kernel_rfl)
    (of_decide_eq_true (by kernel_rfl)) (by unfold Func.isWrapper; first | (rw [if_pos (by decide +kernel)]; kernel_rfl) | (rw [if_neg (by decide +kernel)]; exact ⟨rfl, rfl⟩))
    (fun os started H enc _ => lifted os started H enc)
theorem proved : Rows.OperFoldsSaid := over
#print axioms proved
end operFolds
/-- The row, under a short name, for the claim. -/
theorem operFolds_holds : Rows.OperFoldsSaid := operFolds.proved
end Go.Proofs.Ytogainbkidgkhaa
