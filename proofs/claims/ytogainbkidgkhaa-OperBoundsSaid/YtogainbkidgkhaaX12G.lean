import Derived.Test.YtogainbkidgkhaaX12F
import Derived.Deep.CutBlock
import Derived.Deep.DeepCutAuto
/- The walk of oper.Fold. -/
namespace Go.Proofs.Ytogainbkidgkhaa.F12
set_option linter.unusedSimpArgs false
set_option linter.unusedVariables false
open Go.RowKit Go.Maps Go.ChangeShapes Go.Proofs.YtogainbkidgkhaaW.PrintWords Go.Proofs.YtogainbkidgkhaaW.PrintLast Go.Proofs.YtogainbkidgkhaaW.PrintMore Go.Proofs.Ytogainbkidgkhaa.Base Go.Proofs.Ytogainbkidgkhaa.Q12f
abbrev TM := 52
theorem infoI : (Try.prog.info? 2).map (fun i => (i.zero, i.size, i.bytes)) = some (some (.int .i64 0), 1, 8) := by kernel_rfl
theorem infoR : (Try.prog.info? 25).map (fun i => (i.zero, i.size, i.bytes)) = some (some (.agg #[.int .i64 0, .int .i64 0]), 2, 16) := by kernel_rfl
theorem zeroS (w : World) : (zeroValue 53).run Try.prog w = .ok (.slice none 0 0) w := by kernel_rfl
theorem lawK : Keyed Try.prog 2 := int_keyed Try.underlying2
theorem own_of_groups {H : Type} {P : Program} {k e : TypeId} {q : IntKind} {w : World} {base b n : Nat} {D : DataW H} (h : w.ownsGroups P k base e q b n D) : w.ownsMap P k (rowElem w base e q) b n D := by
  obtain ⟨es, clock, hb, F, hs, hD, _⟩ := h
  exact ⟨es, clock, hb, F, hs, hD⟩
theorem encs_int (xs : List Int) : encs (Value.int .i64) xs = xs.map (Value.int .i64) := by
  induction xs with
  | nil => rfl
  | cons x xs ih => simp_all [encs]
theorem R_of_ints {w : World} {base : Nat} {v : Value} {zs : List Int} (h : w.ownsInts base 2 .i64 v zs) : (Kd.int .i64).R 2 w base (fun _ => True) v zs :=
  Kd.R_of_own (by rw [encs_int]; exact h.1) (fun _ _ => trivial)
theorem ints_of_R {w : World} {base : Nat} {ok : Nat → Prop} {v : Value} {zs : List Int} (h : (Kd.int .i64).R 2 w base ok v zs) : w.ownsRow base 2 1 v zs.length (zs.map (Value.int .i64)) := by
  have := Kd.own_of_R (enc := Value.int .i64) (h1 := fun _ => rfl) h
  rwa [encs_int] at this
theorem sort_keys {w : World} {base : Nat} {v : Value} {ks : List Int} (h : (Kd.int .i64).R 2 w base (fun _ => True) v ks) (hl : ks.length ≤ 1000000) :
    ∃ A c, v = .slice A ks.length c ∧ Calls Try.prog 26 #[.slice A ks.length c] w fun e w' => e = .returned (.tuple #[]) ∧ (Kd.int .i64).R 2 w' base (fun _ => True) (.slice A ks.length c) (ks.mergeSort fun x y => decide (x ≤ y)) ∧ Below base w w' := by
  have hrow := ints_of_R h
  rcases hrow.2 with ⟨rfl, hn⟩ | ⟨g, cap, cur, rfl, hbase, hb, h1, h2, h3, h4⟩
  · obtain rfl : ks = [] := List.eq_nil_of_length_eq_zero hn
    refine ⟨none, 0, rfl, (AnyG.slices_Sort_int_none Sh.sort none 0 w).mono ?_⟩
    rintro e w' ⟨rfl, rfl⟩
    exact ⟨rfl, by simpa using h, Below.refl _ _⟩
  · refine ⟨some ⟨g, 0, none⟩, cap, rfl, (AnyG.slices_Sort_int Sh.sort g 0 cap ks w (holds_of_blockI hb (by simpa using h4)) (Array.getElem?_eq_some_iff.1 hb).1 (by omega)).mono ?_⟩
    rintro e w' ⟨rfl, n, os, rfl⟩
    have hg := grownBy_sortedI (w := w) (g := g) (n := n) (os := os) (ks.mergeSort fun x y => decide (x ≤ y)).toArray
    refine ⟨rfl, Kd.R_of_own ?_ (fun _ _ => trivial), ⟨hg.os, hg.tape, hg.output, hg.size, fun i hi => hg.block i (Nat.lt_of_lt_of_le hi (Nat.le_trans hbase (Nat.le_of_lt (Array.getElem?_eq_some_iff.1 hb).1))) (fun e => by cases e; omega)⟩⟩
    have := ownsRow_sortedI (n := n) (os := os) (ts := ks.mergeSort fun x y => decide (x ≤ y)) (by simp) hbase hb h1 h2 h3
    rw [encs_int]
    simpa using this
set_option maxRecDepth 100000 in
set_option maxHeartbeats 4000000 in
theorem Fold_walk (kind : Int) (A : Option Addr) (c : Nat) (l : List R) (w : World) (hr : Kd.C k25 w A l.length l) (hc : l.length ≤ c) (hl : l.length ≤ 100000) (hwf : ∀ r ∈ l, wfR r = true) (hk : 11 ≤ kind ∧ kind ≤ 14) :
    Calls Try.prog 17 #[.int .i64 kind, .slice A l.length c] w fun e w' => ∃ v0_ : Value, e = .returned (.tuple #[v0_, .int .i64 0]) ∧ Kd.R k25 25 w' w.heap.size (fun _ => True) v0_ (foldsF kind l) ∧ Below w.heap.size w w' := by
  have hmm := @run_makeMap Try.prog
  have HR := Aside0.mk hr
  have HL : Aside0 (l.length ≤ c ∧ l.length ≤ 100000) := ⟨hc, hl⟩
  have HWF := Aside0.mk hwf
  have HK := Aside0.mk hk
  clear hr hc hl hwf hk
  go_enter Try.func17, Try.ntmps17
  go_wp2_with fail
  refine (oper_Keeps.calls kind true _ (by unfold oper_Keeps.f; have := HK.out; by_cases q : kind = 11 ∨ kind = 12 ∨ kind = 13 ∨ kind = 14 <;> first | (rcases q with rfl | rfl | rfl | rfl <;> simp; done) | omega)).mono ?_
  rintro e w1 ⟨rfl, nd, rfl⟩
  have HB : Aside0 (Below w.heap.size w (w.drewN nd)) := ⟨pw_below_drewN (Below.refl _ _) nd⟩
  have HW1 : Aside0 (w.heap.size ≤ (w.drewN nd).heap.size) := ⟨HB.out.size⟩
  generalize w.drewN nd = w1 at HB HW1 ⊢
  go_upto_block 0 with (fail)
  have HG0 := Aside0.mk (World.ownsGroups_made (H := Unit) w1 Try.prog 2 2 .i64)
  have HB2 := Aside0.mk (HB.out.alloc HW1.out (.map #[] 0))
  have HS0 : Aside0 (w1.heap.size + 1 ≤ (w1.alloc (.map #[] 0)).heap.size) := ⟨by simp⟩
  have HBB := Aside0.mk HW1.out
  clear HB HW1 hmm
  generalize w1.alloc (.map #[] 0) = w2 at HG0 HB2 HS0 ⊢
  generalize w1.heap.size = B at HG0 HS0 HBB ⊢
  go_wp2
  go_loopg [20] (l.length + 1) (fun kq v20 W' => ∃ (k : Nat) (D : DataW Unit), v20 = .int .i64 k ∧ Aside0 (k ≤ l.length ∧ k + kq = l.length + 1) ∧ Aside0 (W'.ownsGroups Try.prog 2 (B + 1) 2 .i64 B k D) ∧ Aside0 (GInv D (l.take k)) ∧ Aside0 (Below w.heap.size w W') ∧ Aside0 (B + 1 ≤ W'.heap.size))
  case atStart => exact ⟨0, _, rfl, ⟨by omega, by omega⟩, HG0, ⟨GInv.start⟩, HB2, HS0⟩
  case round =>
    clear HG0 HB2 HS0
    obtain ⟨k, D, rfl, HKQ, HG, HI, HB, HS⟩ := hrel
    by_cases c1 : k < l.length
    · have e1 : decide ((k : Int) < (l.length : Int)) = true := decide_eq_true (by omega)
      have p1 : (k < l.length) = True := eq_true c1
      have p2 : ((k : Int) < (l.length : Int)) = True := eq_true (by omega)
      have HLT := Aside0.mk c1
      obtain ⟨ad, hA, q0, q1⟩ := at_T25 (Kd.C_below HR.out HB.out) (k : Int) (by omega) (by omega)
      subst hA
      rw [Int.toNat_natCast] at q0 q1
      have hx : rd_T25 l (k : Int) = l[k] := by simp [rd_T25, List.getD_eq_getElem?_getD, c1]
      have hmem : l[k] ∈ l := List.getElem_mem c1
      have htake : l.take (k + 1) = l.take k ++ [l[k]] := by rw [List.take_succ_eq_append_getElem c1]
      rw [hx] at q0 q1
      have hxw := HWF.out _ hmem
      have HTK := Aside0.mk htake
      clear hx hmem htake
      generalize l[k] = x at q0 q1 hxw HTK
      have HXW := Aside0.mk hxw
      clear hxw c1
      go_upto_region 7 with (fail)
      have hb8 := below_alloc (Below.refl wr.heap.size wr) (.cells #[.int .i64 x.f0, .int .i64 x.f1] 25)
      have HG8 := Aside0.mk (blk_new wr (.cells #[.int .i64 x.f0, .int .i64 x.f1] 25))
      have HGa := Aside0.mk (groups_below HG.out hb8)
      have HBa := Aside0.mk (below_step HB.out hb8)
      have HSa : Aside0 (B + 1 ≤ (wr.alloc (.cells #[.int .i64 x.f0, .int .i64 x.f1] 25)).heap.size) := ⟨Nat.le_trans HS.out hb8.size⟩
      clear hb8 q0 q1 HG HB HS
      generalize wr.alloc _ = wa at HG8 HGa HBa HSa ⊢
      generalize wr.heap.size = g8 at HG8 ⊢
      have hkey : keyOf Try.prog 2 (.int .i64 x.f0) = some (kI x.f0) := keyOf_int_mk Try.underlying2 (by have := HXW.out; unfold wfR at this; simp only [Bool.and_eq_true] at this; exact this.1)
      obtain ⟨v0, zs, hrun, hat, hoi, hzl, hback⟩ := World.ownsGroups.at (w := wa.drew) HGa.out lawK Try.underlying52 (zeroS _) (by have := HLT.out; have := HL.out; unfold maxLen; omega) hkey
      have hzs := HI.out.vals hat hoi
      have hz1 : (Lit.int .i64 x.f1).wf = true := by have := HXW.out; unfold wfR at this; simp only [Bool.and_eq_true] at this; exact this.2
      have r0 := blk_at (i := 0) HG8.out rfl
      have r1 := blk_at (i := 1) HG8.out rfl
      have HOI := Aside0.mk hoi
      have HBK := Aside0.mk hback
      have HZL := Aside0.mk hzl
      have HZS := Aside0.mk hzs
      have HZ1 := Aside0.mk hz1
      have HKY := Aside0.mk hkey
      clear hat hoi hzl hback hzs hz1 hkey
      have hc8 : ∀ (w2 : World), wa.drew.grownBy w2 v0.ownBlock → w2.cell? ⟨g8, 0, none⟩ = some (.int .i64 x.f0) ∧ w2.cell? ⟨g8, 1, none⟩ = some (.int .i64 x.f1) := fun w2 hg => by
        have hlt := (Array.getElem?_eq_some_iff.1 HG8.out).1
        have := hg.block g8 hlt (own_ne HOI.out.1 HG8.out (by decide))
        have h8 : w2.heap[g8]? = some (.cells #[.int .i64 x.f0, .int .i64 x.f1] 25 (0, 0)) := this.trans HG8.out
        exact ⟨blk_at (i := 0) h8 rfl, blk_at (i := 1) h8 rfl⟩
      have HC8 := Aside0.mk hc8
      have hlB : ∀ (w2 : World), w2.heap[B]? = wa.drew.heap[B]? → (Instr.lookup 52 (.map (some B)) (.int .i64 x.f0) false).run Try.prog w2 = .ok v0 w2 := fun w2 hb => look_move (w := wa.drew) HGa.out lawK Try.underlying52 zeroS HKY.out hb hrun
      have HLB := Aside0.mk hlB
      have hB : B < wa.drew.heap.size := HSa.out
      have hBv : some B ≠ v0.ownBlock := fun h => by have := own_base HOI.out.1 B h.symm; omega
      have HBl : Aside0 (B < wa.drew.heap.size ∧ some B ≠ v0.ownBlock) := ⟨hB, hBv⟩
      clear hc8 hlB hB hBv
      refine start_ (n := 12) (S := fun w' => w'.cell? ⟨g8, 0, none⟩ = some (.int .i64 x.f0) ∧ w'.cell? ⟨g8, 1, none⟩ = some (.int .i64 x.f1) ∧ (Instr.lookup 52 (.map (some B)) (.int .i64 x.f0) false).run Try.prog w' = .ok v0 w') (ds := [11]) #[false, false, false, false, false, false, false, false, false, false, false, false] (by kernel_rfl) rfl rfl ⟨r0, r1, hrun⟩ (fun hHeld => ?_)
      refine pure_ (i := 0) (N := some 24) (v := ?_) (a' := ?_) #[true, false, false, false, false, false, false, false, false, false, false, false] rfl rfl (by kernel_rfl) (fun _ _ _ h => h) (Or.inl ⟨by rfl, ?_⟩) ?_ ?_
      rotate_left
      · intro w'
        go_simp
        with_reducible rfl
      rotate_left
      · simp only [Act.put, List.setIfInBounds_toArray, List.set_cons_zero, List.set_cons_succ, i64_w, i32_w]
        rfl
      refine pure_ (i := 1) (N := some 25) (v := ?_) (a' := ?_) #[true, true, false, false, false, false, false, false, false, false, false, false] rfl rfl (by kernel_rfl) (fun _ _ _ h => h) (Or.inl ⟨by rfl, ?_⟩) ?_ ?_
      rotate_left
      · intro w'
        go_simp
        with_reducible rfl
      rotate_left
      · simp only [Act.put, List.setIfInBounds_toArray, List.set_cons_zero, List.set_cons_succ, i64_w, i32_w]
        rfl
      refine pure_ (i := 3) (N := some 27) (v := ?_) (a' := ?_) #[true, true, false, true, false, false, false, false, false, false, false, false] rfl rfl (by kernel_rfl) (fun _ _ _ h => h) (Or.inl ⟨by rfl, ?_⟩) ?_ ?_
      rotate_left
      · intro w'
        go_simp
        with_reducible rfl
      rotate_left
      · simp only [Act.put, List.setIfInBounds_toArray, List.set_cons_zero, List.set_cons_succ, i64_w, i32_w]
        rfl
      refine pure_ (i := 4) (N := some 28) (v := ?_) (a' := ?_) #[true, true, false, true, true, false, false, false, false, false, false, false] rfl rfl (by kernel_rfl) (fun _ _ _ h => h) (Or.inl ⟨by rfl, ?_⟩) ?_ ?_
      rotate_left
      · intro w'
        go_simp
        with_reducible rfl
      rotate_left
      · simp only [Act.put, List.setIfInBounds_toArray, List.set_cons_zero, List.set_cons_succ, i64_w, i32_w]
        rfl
      refine pure_ (i := 7) (N := some 31) (v := ?_) (a' := ?_) #[true, true, false, true, true, false, false, true, false, false, false, false] rfl rfl (by kernel_rfl) (fun _ _ _ h => h) (Or.inl ⟨by rfl, ?_⟩) ?_ ?_
      rotate_left
      · intro w'
        go_simp
        with_reducible rfl
      rotate_left
      · simp only [Act.put, List.setIfInBounds_toArray, List.set_cons_zero, List.set_cons_succ, i64_w, i32_w]
        rfl
      refine take_ (i := 2) (N := some 26) (v := ?_) (a' := ?_) #[true, true, true, true, true, false, false, true, false, false, false, false] rfl rfl (by kernel_rfl) (fun _ _ _ h => h) (Or.inl ⟨by rfl, ?_⟩) hHeld ?_ ?_
      rotate_left
      · rintro w' ⟨s0, s1, s2⟩
        go_simp
        with_reducible rfl
      rotate_left
      · simp only [Act.put, List.setIfInBounds_toArray, List.set_cons_zero, List.set_cons_succ, i64_w, i32_w]
        rfl
      refine take_ (i := 5) (N := some 29) (v := ?_) (a' := ?_) #[true, true, true, true, true, true, false, true, false, false, false, false] rfl rfl (by kernel_rfl) (fun _ _ _ h => h) (Or.inl ⟨by rfl, ?_⟩) hHeld ?_ ?_
      rotate_left
      · rintro w' ⟨s0, s1, s2⟩
        go_simp
        with_reducible rfl
      rotate_left
      · simp only [Act.put, List.setIfInBounds_toArray, List.set_cons_zero, List.set_cons_succ, i64_w, i32_w]
        rfl
      refine take_ (i := 6) (N := some 30) (v := ?_) (a' := ?_) #[true, true, true, true, true, true, true, true, false, false, false, false] rfl rfl (by kernel_rfl) (fun _ _ _ h => h) (Or.inl ⟨by rfl, ?_⟩) hHeld ?_ ?_
      rotate_left
      · rintro w' ⟨s0, s1, s2⟩
        go_simp
        with_reducible rfl
      rotate_left
      · simp only [Act.put, List.setIfInBounds_toArray, List.set_cons_zero, List.set_cons_succ, i64_w, i32_w]
        rfl
      refine take_ (i := 8) (N := some 32) (v := ?_) (a' := ?_) #[true, true, true, true, true, true, true, true, true, false, false, false] rfl rfl (by kernel_rfl) (fun _ _ _ h => h) (Or.inl ⟨by rfl, ?_⟩) hHeld ?_ ?_
      rotate_left
      · rintro w' ⟨s0, s1, s2⟩
        go_simp
        with_reducible rfl
      rotate_left
      · simp only [Act.put, List.setIfInBounds_toArray, List.set_cons_zero, List.set_cons_succ, i64_w, i32_w]
        rfl
      refine one_ (i := 9) (N := some 33) #[true, true, true, true, true, true, true, true, true, true, false, false] rfl rfl (by kernel_rfl) (by decide) (fun K hK => ?_)
      refine value_ (w1 := wa.drew.alloc (.cells #[.int .i64 x.f1] 2)) (v := .slice (some ⟨wa.drew.heap.size, 0, none⟩) 1 1) (by rfl) rfl ?_ ?_
      · (go_simp; try rfl)
      refine hK.out _ _ ⟨(World.cell?_alloc_lt _ _ _ (World.block_lt_of_cell? _ _ r0)).trans r0, (World.cell?_alloc_lt _ _ _ (World.block_lt_of_cell? _ _ r1)).trans r1, HLB.out _ ((below_alloc (Below.refl wa.drew.heap.size wa.drew) _).block B HBl.out.1)⟩ (fun hHeld => ?_)
      clear hK K
      refine norm_ (a' := ?_) ?_ ?_
      rotate_left
      · show Act.put _ (some 33) _ = _
        simp only [Act.put, List.setIfInBounds_toArray, List.set_cons_zero, List.set_cons_succ, i64_w, i32_w]
        rfl
      refine one_ (i := 10) (N := some 34) #[true, true, true, true, true, true, true, true, true, true, true, false] rfl rfl (by kernel_rfl) (by decide) (fun K hK => ?_)
      refine Kd.R_append_step (Kd.int .i64) (w0 := wa.drew) (B + 1) (by rfl) (.tmp 30) (.tmp 33) 53 2 (.int .i64 0) 8 rfl Try.underlying53 infoI rfl (by decide) (by omega) v0 zs x.f1 [.int .i64 x.f1] (fun _ => True) (fun _ => False) rfl rfl rfl (fun _ h => h.elim) (fun _ _ => trivial) (R_of_ints HOI.out) (Below.refl _ _) HSa.out (by have := HZL.out; have := HLT.out; have := HL.out; omega) ?_
      intro v1 w3 ho hb hg hat
      have HO := Aside0.mk (HOI.out.appended (x := x.f1) (by have := ints_of_R ho; rw [List.length_append, List.map_append] at this; exact this) HZ1.out)
      have HG3 := Aside0.mk hg
      have HAT := Aside0.mk hat
      clear ho hb hg hat
      refine hK.out _ _ ⟨(HC8.out _ HG3.out).1, (HC8.out _ HG3.out).2, HLB.out _ (HG3.out.block B HBl.out.1 HBl.out.2)⟩ (fun hHeld => ?_)
      clear hK K
      refine norm_ (a' := ?_) ?_ ?_
      rotate_left
      · show Act.put _ (some 34) _ = _
        simp only [Act.put, List.setIfInBounds_toArray, List.set_cons_zero, List.set_cons_succ, i64_w, i32_w]
        rfl
      refine last_ (i := 11) (N := none) #[true, true, true, true, true, true, true, true, true, true, true, true] rfl rfl (by kernel_rfl) (by decide) (fun K hK => ?_)
      obtain ⟨w4, hrun4, hg4, hgr4⟩ := HBK.out w3 v1 (zs ++ [x.f1]) HG3.out HO.out (by have := HZL.out; simp; omega) HAT.out
      refine skip_ (w1 := w4) (by rfl) rfl ?_ ?_
      · go_simp
      refine hK.out _ _ ?_
      clear hK K
      refine done_ (by kernel_rfl) ?_
      have HG4 := Aside0.mk hg4
      have HI4 : Aside0 (GInv (D.put (kI x.f0) (rowDatum .i64 v1 (zs ++ [x.f1]))) (l.take (k + 1))) := ⟨by
        rw [HTK.out]
        have := HI.out.step (r := x) (v' := v1) (w1 := w3) (base := B + 1) (e := 2) (by rw [← HZS.out]; exact HO.out)
        rwa [← HZS.out] at this⟩
      have HB4 : Aside0 (Below w.heap.size w w4) := ⟨((below_drew HBa.out).grown HG3.out (Nat.le_trans HBB.out (Nat.le_of_lt HBl.out.1)) (fun j hj => Nat.le_trans HBB.out (Nat.le_trans (Nat.le_succ _) (own_base HOI.out.1 j hj)))).grown hgr4 (Nat.le_trans HBB.out (Nat.le_trans (Nat.le_of_lt HBl.out.1) HG3.out.size)) (fun j hj => by cases hj; exact HBB.out)⟩
      have HS4 : Aside0 (B + 1 ≤ w4.heap.size) := ⟨Nat.le_trans HSa.out (Nat.le_trans HG3.out.size hgr4.size)⟩
      clear hg4 hgr4 hrun4 HG3 HO HAT HBK HOI HZL HZS HZ1 HC8 HLB HBl HSa HBa HGa HG8 HI hrun r0 r1 HTK HXW HKY
      go_wp2
      go_roundg (gk - 1)
      case measure => have := HKQ.out; omega
      case rel => exact ⟨k + 1, _, by first | rfl | (rw [Pl.w64 (by omega) (by have := HLT.out; have := HL.out; omega)]; rfl), ⟨by have := HKQ.out; have := HLT.out; omega⟩, HG4, HI4, HB4, HS4⟩
    · have e1 : decide ((k : Int) < (l.length : Int)) = false := decide_eq_false (by omega)
      have p1 : (k < l.length) = False := eq_false c1
      have p2 : ((k : Int) < (l.length : Int)) = False := eq_false (by omega)
      obtain rfl : k = l.length := by have := HKQ.out; omega
      have hI := HI.out
      rw [List.take_length] at hI
      have HI2 := Aside0.mk hI
      clear hI HI c1 HKQ
      have HI := HI2
      clear HI2
      go_upto_block 2 with ((at_range; refine wpList_range_own _ rfl _ _ rfl 2 53 lawK Try.underlying52 (rowElem wr (B + 1) 2 .i64) B l.length D rfl (own_of_groups HG.out) ?_; intro w5 hrg hgr hsz; go_frame))
      have HSZ : Aside0 (Maps.size D ≤ l.length) := ⟨World.ownsMap.size_le (own_of_groups HG.out)⟩
      have HBm : Aside0 (Below wr.heap.size wr w5) := ⟨⟨hgr.os, hgr.tape, hgr.output, hgr.size, fun i hi => hgr.block i hi (by simp)⟩⟩
      have HS5 : Aside0 (wr.heap.size + 1 ≤ w5.heap.size) := ⟨by omega⟩
      have HRG := Aside0.mk hrg
      clear hrg hgr hsz HBB
      generalize wr = wm at HG HB HS HSZ HBm HS5 HRG ⊢
      generalize hrE : wm.heap.size = r at HBm HS5 HRG ⊢
      have HRE := Aside0.mk hrE
      clear hrE
      go_wp2
      go_loopg [9] (l.length + 2) (fun kq v9 W' => ∃ (left : Lit → Bool) (cnt : Nat) (ks : List Int), Aside0 (cnt + 1 ≤ kq ∧ ks.length + cnt ≤ l.length) ∧ Aside0 (W'.ranges Try.prog 2 (rowElem wm (B + 1) 2 .i64) B r l.length D left cnt) ∧ Aside0 (CollI D left ks) ∧ Aside0 ((Kd.int .i64).R 2 W' (r + 1) (fun _ => True) v9 ks) ∧ Aside0 (Below r wm W') ∧ Aside0 (r + 1 ≤ W'.heap.size))
      case atStart => exact ⟨_, _, [], ⟨by have := HSZ.out; omega, by have := HSZ.out; simp; omega⟩, HRG, ⟨CollI.start D⟩, ⟨Kd.R_nil _ _ _ _ _⟩, HBm, HS5⟩
      case round =>
        clear HRG HBm HS5
        obtain ⟨left, cnt, ks, HKQ, HRG, HCO, HRK, HBm, HS5⟩ := hrel
        go_wp2_with (first
          | (at_next; refine wpList_next_ranges _ rfl _ rfl 2 lawK (rowElem wm (B + 1) 2 .i64) (Value.int .i64) (id : Value → Value) (fun key kl hk => by obtain ⟨x, rfl, _⟩ := Maps.keyOf_int_inv Try.underlying2 hk; exact ⟨x, rfl⟩) (fun v y _ => ⟨v, rfl⟩) B r l.length D left cnt rfl HRG.out ?_ ?_)
          | go_in)
        · intro hc0 hl0
          have hsrt := HCO.out.sorted HI.out hl0
          obtain ⟨A9, c9, hv9, hcall⟩ := sort_keys HRK.out (by have := HKQ.out; have := HL.out; omega)
          have hlen : ks.length = (keysOf l).length := by rw [← hsrt, List.length_mergeSort]
          rw [hsrt] at hcall
          rw [hlen] at hcall hv9
          have HKL : Aside0 ((keysOf l).length ≤ l.length) := ⟨keysOf_length l⟩
          have HKW : Aside0 (∀ x ∈ keysOf l, valsOf x l ≠ [] ∧ (Lit.int .i64 x).wf = true) := ⟨fun x hx => ⟨valsOf_ne hx, by
            obtain ⟨y, hy, rfl⟩ := List.mem_map.1 ((mem_keysOf l x).1 hx)
            have := HWF.out y hy
            unfold wfR at this
            simp only [Bool.and_eq_true] at this
            exact this.1⟩⟩
          have hF : foldsF kind l = (keysOf l).map fun x => (⟨x, foldV kind (valsOf x l)⟩ : R) := rfl
          have HF := Aside0.mk hF
          have HCALL := Aside0.mk hcall
          clear hsrt hlen hF hcall HCO HRK HKQ hl0 hc0 HRG
          subst hv9
          obtain ⟨FS, hFS⟩ : ∃ FS, FS = foldsF kind l := ⟨_, rfl⟩
          rw [← hFS] at HF
          have HFS := Aside0.mk hFS
          clear hFS
          generalize keysOf l = KS at HF HKL HKW HCALL ⊢
          go_wp2_with fail
          refine HCALL.out.mono ?_
          rintro e w6 ⟨rfl, hr9, hb6⟩
          have HC9 := Aside0.mk (Kd.R_reads' hr9).2.2
          have hbm6 : Below wm.heap.size wm w6 := by
            rw [HRE.out]
            exact HBm.out.trans ⟨hb6.os, hb6.tape, hb6.output, hb6.size, fun i hi => hb6.block i (by omega)⟩
          have HG6 := Aside0.mk (groups_below HG.out hbm6)
          have HB6 := Aside0.mk (below_step HB.out hbm6)
          clear hr9 hb6 hbm6 HCALL HG HB HBm HS5 HRE HS HSZ
          go_upto_block 4 with (fail)
          go_wp2
          go_loopg [11, 50] (KS.length + 1) (fun kq v11 v50 W' => ∃ (j : Nat), v50 = .int .i64 j ∧ Aside0 (j ≤ KS.length ∧ j + kq = KS.length + 1) ∧ Aside0 (Kd.R k25 25 W' w6.heap.size (fun _ => True) v11 (FS.take j)) ∧ Aside0 (Below w6.heap.size w6 W'))
          case atStart => exact ⟨0, rfl, ⟨by omega, by omega⟩, ⟨by rw [List.take_zero]; exact Kd.R_nil _ _ _ _ _⟩, ⟨Below.refl _ _⟩⟩
          case round =>
            obtain ⟨j, rfl, HJ, HO, HBo⟩ := hrel
            by_cases c1 : j < KS.length
            · have e1 : decide ((j : Int) < (KS.length : Int)) = true := decide_eq_true (by omega)
              have p1 : (j < KS.length) = True := eq_true c1
              have p2 : ((j : Int) < (KS.length : Int)) = True := eq_true (by omega)
              have HLT := Aside0.mk c1
              obtain ⟨ad9, hA, q0⟩ := Kd.at_int (Kd.C_below HC9.out HBo.out) (j : Int) (by omega) (by omega)
              rw [Int.toNat_natCast] at q0
              have hx : rd KS (j : Int) = KS[j] := by simp [rd, c1]
              have hKx := HKW.out KS[j] (List.getElem_mem c1)
              have hFj : FS.take (j + 1) = FS.take j ++ [⟨KS[j], foldV kind (valsOf KS[j] l)⟩] := by
                rw [HF.out, ← List.map_take, ← List.map_take, List.take_succ_eq_append_getElem c1, List.map_append]
                rfl
              have HFJ := Aside0.mk hFj
              rw [hx] at q0
              subst hA
              clear hx hFj
              generalize KS[j] = x at q0 hKx HFJ
              clear c1
              have HKX := Aside0.mk hKx
              clear hKx
              have HGr := Aside0.mk (groups_below HG6.out HBo.out)
              have hkey : keyOf Try.prog 2 (.int .i64 x) = some (kI x) := keyOf_int_mk Try.underlying2 HKX.out.2
              go_wp2_with (first
                | (at_lookup; refine wpList_lookup_groups _ rfl _ _ 52 rfl 2 53 2 .i64 lawK Try.underlying52 (zeroS _) (B + 1) B l.length D rfl HGr.out (by have := HL.out; unfold maxLen; omega) _ _ rfl hkey ?_; intro vv zs hat hoi hzl hback; obtain ⟨Av, cv, rfl⟩ := Kd.R_slice (R_of_ints hoi); go_frame)
                | fail)
              have hzs := HI.out.vals hat hoi
              have hzne : zs ≠ [] := by rw [hzs]; exact HKX.out.1
              have hC := Kd.R_reads' (R_of_ints hoi)
              refine (oper_fold.calls 1000001 kind Av cv zs (foldV kind zs) _ hC.2.2 hC.2.1 (fold_f kind zs hzne (by have := HL.out; omega))).mono ?_
              rintro e w7 ⟨rfl, nd2, rfl⟩
              have HO7 : Aside0 (Kd.R k25 25 (wr.drewN nd2) w6.heap.size (fun _ => True) u11 (FS.take j)) := ⟨Kd.R_below HO.out (pw_below_drewN (Below.refl _ _) nd2)⟩
              have HB7 : Aside0 (Below w6.heap.size w6 (wr.drewN nd2)) := ⟨pw_below_drewN HBo.out nd2⟩
              rw [← hzs] at HFJ
              clear hzs hzne hC hat hoi hzl hback q0 hkey HGr HO HBo HKX
              generalize wr.drewN nd2 = w7 at HO7 HB7 ⊢
              have hs7 := HB7.out.size
              have HS7 := Aside0.mk hs7
              clear hs7
              go_wp2_with (first
                | ((with_reducible refine gate_builtin (b := .append) (xs := #[.tmp 54, .tmp 62]) rfl ?_); at_builtin; refine Kd.R_append k25 (w0 := w6) w6.heap.size rfl (.tmp 54) (.tmp 62) 26 25 (.agg #[.int .i64 0, .int .i64 0]) 16 rfl Try.underlying26 infoR rfl (by decide) (by omega) u11 (FS.take j) ⟨x, foldV kind zs⟩ [.int .i64 x, .int .i64 (foldV kind zs)] (fun _ => True) (fun _ => False) rfl rfl ?aP (fun _ hk => hk.elim) ?aF ?aO ?aB ?aS ?aL ?_; (case aP => exact k25_mkM _ _ _ _); (case aB => exact HB7.out); (case aF => exact (fun _ _ => trivial)); (case aO => exact HO7.out); (case aS => exact HS7.out); (case aL => (have := HLT.out; have := HKL.out; have := HL.out; simp only [List.length_take]; omega)); intro va w8 hq hb hg hat7)
                | go_in)
              have HO8 : Aside0 (Kd.R k25 25 w8 w6.heap.size (fun _ => True) va (FS.take (j + 1))) := ⟨by rw [HFJ.out]; exact hq⟩
              have HB8 := Aside0.mk hb
              clear hq hb hg hat7 HO7 HB7 HS7 HFJ
              go_wp2
              go_roundg (gk - 1)
              case measure => have := HJ.out; omega
              case rel => exact ⟨j + 1, by first | rfl | (rw [Pl.w64 (by omega) (by have := HLT.out; have := HKL.out; have := HL.out; omega)]; rfl), ⟨by have := HJ.out; have := HLT.out; omega⟩, HO8, HB8⟩
            · have e1 : decide ((j : Int) < (KS.length : Int)) = false := decide_eq_false (by omega)
              have p1 : (j < KS.length) = False := eq_false c1
              have p2 : ((j : Int) < (KS.length : Int)) = False := eq_false (by omega)
              have hT : FS.take j = FS := List.take_of_length_le (by rw [HF.out, List.length_map]; omega)
              have hO := HO.out
              rw [hT] at hO
              have HO2 := Aside0.mk hO
              clear hO HO hT c1 HF
              go_wp2
              go_ret2
              exact ⟨u11, rfl, by rw [← HFS.out]; exact Kd.R_lower HO2.out HB6.out.size, below_step HB6.out HBo.out⟩
        · intro x cv kl yd yp w6 cnt2 hkey hlk hv hat hrg2 hlt hg2 hs2 hen
          obtain ⟨x', ex, rfl, _⟩ := Maps.keyOf_int_inv Try.underlying2 hkey
          obtain rfl : x = x' := by injection ex
          have HRK2 : Aside0 ((Kd.int .i64).R 2 w6 (r + 1) (fun _ => True) u9 ks) := ⟨Kd.R_of_own (by
            rw [encs_int]
            exact (ints_of_R HRK.out).kept hg2 (by
              cases hv9 : u9.ownBlock with
              | none => exact .inl rfl
              | some q => exact .inr (fun e => by have := own_base (ints_of_R HRK.out) q hv9; injection e with e; omega))) (fun _ _ => trivial)⟩
          have HCO2 := Aside0.mk (HCO.out.step hlk hat)
          have HRG2 := Aside0.mk hrg2
          have HB6 : Aside0 (Below r wm w6) := ⟨HBm.out.grown hg2 (by have := HS5.out; omega) (fun j hj => by cases hj; exact Nat.le_refl _)⟩
          have HS6 : Aside0 (r + 1 ≤ w6.heap.size) := ⟨Nat.le_trans HS5.out hg2.size⟩
          have HCN := Aside0.mk hlt
          clear hrg2 hlt hg2 hs2 HRG HRK HCO HBm HS5 hkey hlk hv hat ex
          go_wp2_with (first
            | ((with_reducible refine gate_builtin (b := .append) (xs := #[.tmp 42, .tmp 44]) rfl ?_); at_builtin; refine Kd.R_append (Kd.int .i64) (w0 := w6) (r + 1) rfl (.tmp 42) (.tmp 44) 53 2 (.int .i64 0) 8 rfl Try.underlying53 infoI rfl (by decide) (by omega) u9 ks x [.int .i64 x] (fun _ => True) (fun _ => False) rfl rfl ?aP (fun _ hk => hk.elim) ?aF ?aO ?aB ?aS ?aL ?_; (case aP => rfl); (case aB => exact Below.refl _ _); (case aF => exact (fun _ _ => trivial)); (case aO => exact HRK2.out); (case aS => exact HS6.out); (case aL => (have := HKQ.out; have := HCN.out; have := HL.out; omega)); intro va w7 hq hb hg hat7)
            | go_in)
          have HBr : Aside0 (B < r) := ⟨by have := HS.out; have := HRE.out; omega⟩
          have hown9 := own_base (ints_of_R HRK2.out)
          have HRG7 := Aside0.mk (HRG2.out.kept hg (fun e => by have := hown9 B e.symm; have := HBr.out; omega) (fun e => by have := hown9 r e.symm; omega))
          have HB7 : Aside0 (Below r wm w7) := ⟨HB6.out.trans ⟨hb.os, hb.tape, hb.output, hb.size, fun i hi => hb.block i (by omega)⟩⟩
          have HS7 : Aside0 (r + 1 ≤ w7.heap.size) := ⟨Nat.le_trans HS6.out hb.size⟩
          have HRK7 := Aside0.mk hq
          clear hb hg hat7 hq hown9 HRG2 HRK2 HB6 HS6 hen
          go_wp2
          go_roundg (cnt2 + 1)
          case measure => have := HKQ.out; have := HCN.out; omega
          case rel => exact ⟨_, cnt2, ks ++ [x], ⟨Nat.le_refl _, by have := HKQ.out; have := HCN.out; simp; omega⟩, HRG7, HCO2, HRK7, HB7, HS7⟩
theorem Fold_not (kind : Int) (A : Option Addr) (c : Nat) (n : Nat) (w : World) (hk : ¬ (11 ≤ kind ∧ kind ≤ 14)) :
    Calls Try.prog 17 #[.int .i64 kind, .slice A n c] w fun e w' => e = .returned (.tuple #[.slice none 0 0, .int .i64 70]) ∧ Below w.heap.size w w' := by
  go_enter Try.func17, Try.ntmps17
  go_wp2_with fail
  refine (oper_Keeps.calls kind false _ (by unfold oper_Keeps.f; rw [if_neg (by omega), if_neg (by omega), if_neg (by omega), if_neg (by omega)])).mono ?_
  rintro e w1 ⟨rfl, nd, rfl⟩
  go_wp2
  go_ret2
  exact ⟨rfl, pw_below_drewN (Below.refl _ _) nd⟩
end Go.Proofs.Ytogainbkidgkhaa.F12
namespace Go.Proofs.Ytogainbkidgkhaa.Ext
open Go.RowKit Go.Proofs.YtogainbkidgkhaaW.PrintWords Go.Proofs.YtogainbkidgkhaaW.PrintLast Go.Proofs.YtogainbkidgkhaaW.PrintMore Go.Proofs.Ytogainbkidgkhaa.Base Go.Proofs.Ytogainbkidgkhaa.Q12f F12
def oper_Fold.f (kind : Int) (l : List F12.R) : Option (List F12.R × Int) :=
  if l.length ≤ 100000 ∧ l.all wfR = true then (if 11 ≤ kind ∧ kind ≤ 14 then some (foldsF kind l, 0) else some ([], 70)) else none
theorem oper_Fold.calls (a0 : Int) (A1 : Option Addr) (c1 : Nat) (l1 : List F12.R) (r1 : List F12.R) (r2 : Int) (w : World) (hr1 : Kd.C k25 w A1 l1.length l1) (hc1 : l1.length ≤ c1) (h : oper_Fold.f a0 l1 = some (r1, r2)) :
    Calls Try.prog 17 #[.int .i64 a0, .slice A1 l1.length c1] w fun e w' => ∃ v0_ : Value, e = .returned (.tuple #[v0_, .int .i64 r2]) ∧ Kd.R k25 25 w' w.heap.size (fun _ => True) v0_ r1 ∧ Below w.heap.size w w' := by
  unfold oper_Fold.f at h
  split at h
  · rename_i hc
    split at h
    · rename_i hk
      injection h with h
      injection h with h1 h2
      subst h1 h2
      exact Fold_walk a0 A1 c1 l1 w hr1 hc1 hc.1 (fun r hr => List.all_eq_true.1 hc.2 r hr) hk
    · rename_i hk
      injection h with h
      injection h with h1 h2
      subst h1 h2
      refine (Fold_not a0 A1 c1 l1.length w hk).mono ?_
      rintro e w' ⟨rfl, hb⟩
      exact ⟨_, rfl, Kd.R_nil _ _ _ _ _, hb⟩
  · cases h
end Go.Proofs.Ytogainbkidgkhaa.Ext
