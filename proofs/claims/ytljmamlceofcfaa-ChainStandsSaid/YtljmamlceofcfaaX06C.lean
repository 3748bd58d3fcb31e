import Derived.Test.YtljmamlceofcfaaQ06cx
import Derived.Test.YtljmamlceofcfaaQ06tx1
import Derived.Test.YtljmamlceofcfaaM06
import Derived.Test.YtljmamlceofcfaaXO06
import Derived.Deep.CutBlock
import Derived.Deep.DeepCutAuto
/- The contract of stamp.Compare, as the library's sort asks it: what it hands back, and that it lays blocks alone. -/
namespace Go.Proofs.Ytljmamlceofcfaa.V06
set_option linter.unusedSimpArgs false
set_option linter.unusedVariables false
open Go Go.Proofs Go.RowKit Go.Sort Go.Proofs.YtljmamlceofcfaaW.PrintWords Go.Proofs.YtljmamlceofcfaaW.PrintLast Go.Proofs.YtljmamlceofcfaaW.PrintMore Go.Proofs.Ytljmamlceofcfaa.Base Go.Proofs.Ytljmamlceofcfaa.Q06t Q06c
open M06 (sgc orZ cmpT cmpR sgc_zero)
theorem Compare_f (a b : Int) : cmp_Compare_int.f a b = some (sgc a b) := by
  unfold cmp_Compare_int.f cmp_isNaN_int.f sgc
  simp
  split
  · rfl
  · split <;> rfl
theorem CmpU_f (a b : Int) : cmp_Compare_uint32.f a b = some (sgc a b) := by
  unfold cmp_Compare_uint32.f cmp_isNaN_uint32.f sgc
  simp
  split
  · rfl
  · split <;> rfl
theorem Or_f (a b : Int) : cmp_Or_int.f 10 [a, b] = some (orZ a b) := by
  unfold cmp_Or_int.f orZ
  simp only [cmp_Or_int.l0, List.length_cons, List.length_nil]
  by_cases h : a = 0
  · subst h
    by_cases h2 : b = 0
    · subst h2
      simp [Go.Proofs.YtljmamlceofcfaaW.PrintWords.rd, wrap64]
    · simp [Go.Proofs.YtljmamlceofcfaaW.PrintWords.rd, wrap64, h2]
  · simp [Go.Proofs.YtljmamlceofcfaaW.PrintWords.rd, h]
theorem lit2 (w : World) (a b : Int) (t : TypeId) : Kd.C (Kd.int .i64) (w.alloc (.cells #[.int .i64 a, .int .i64 b] t)) (some ⟨w.heap.size, 0, none⟩) 2 [a, b] := by
  have hb := blk_new w (.cells #[.int .i64 a, .int .i64 b] t)
  refine ⟨rfl, by decide, fun _ => ⟨_, rfl, fun j p hj => ?_⟩⟩
  refine ⟨[.int .i64 p], rfl, rfl, fun i u hu => ?_⟩
  match i, hu with
  | 0, hu =>
    simp at hu
    subst hu
    rw [show (Kd.int .i64).sz = 1 from rfl, Nat.mul_one, Nat.add_zero, add_plain]
    match j, hj with
    | 0, hj => simp at hj; subst hj; exact blk_at (i := 0) hb rfl
    | 1, hj => simp at hj; subst hj; exact blk_at (i := 1) hb rfl
attribute [local go_sem high] eqA26
set_option maxRecDepth 100000 in
set_option maxHeartbeats 4000000 in
theorem compare_c (x0 x1 x2 x3 x4 y0 y1 y2 y3 y4 : Int) (w : World) : Calls Try.prog 69 #[.agg #[.int .u32 x0, .int .i64 x1, .int .u32 x2, .int .u32 x3, .int .u32 x4], .agg #[.int .u32 y0, .int .i64 y1, .int .u32 y2, .int .u32 y3, .int .u32 y4]] w fun e w' => e = .returned (.int .i64 (cmpT x0 x1 x2 x3 x4 y0 y1 y2 y3 y4)) ∧ lays w w' := by
  by_cases h : (x0 == y0 && (x1 == y1 && ((x2 == y2 && (x3 == y3 && (x4 == y4)))))) = true
  · have HX : Aside0 (cmpT x0 x1 x2 x3 x4 y0 y1 y2 y3 y4 = 0) := ⟨by
      simp at h
      obtain ⟨rfl, rfl, rfl, rfl, rfl⟩ := h
      have hz : ∀ x, sgc x x = 0 := fun x => sgc_zero.2 rfl
      simp [cmpT, orZ, hz]⟩
    go_enter Try.func69, Try.ntmps69
    go_wp2
    go_ret
    rw [HX.out]
    exact ⟨rfl, by repeat (first | exact lays_refl _ | apply lays.alloc | apply lays.drewN | apply lays.drew)⟩
  · have h := eq_false_of_ne_true h
    go_enter Try.func69, Try.ntmps69
    go_upto_region 3 with (fail)
    have hL := ((lays_refl w).alloc (.cells #[.int .u32 x0, .int .i64 x1, .int .u32 x2, .int .u32 x3, .int .u32 x4] 26)).alloc (.cells #[.int .u32 y0, .int .i64 y1, .int .u32 y2, .int .u32 y3, .int .u32 y4] 26)
    have HG1 := blk_new w (.cells #[.int .u32 x0, .int .i64 x1, .int .u32 x2, .int .u32 x3, .int .u32 x4] 26)
    have HG2 := blk_new (w.alloc (.cells #[.int .u32 x0, .int .i64 x1, .int .u32 x2, .int .u32 x3, .int .u32 x4] 26)) (.cells #[.int .u32 y0, .int .i64 y1, .int .u32 y2, .int .u32 y3, .int .u32 y4] 26)
    have HG3 := Aside0.mk (blk_below HG1 (below_alloc (Below.refl _ _) (.cells #[.int .u32 y0, .int .i64 y1, .int .u32 y2, .int .u32 y3, .int .u32 y4] 26)))
    have HG4 := Aside0.mk HG2
    have HL0 := Aside0.mk hL
    clear hL HG1 HG2 h
    have hgg : (w.alloc (.cells #[.int .u32 x0, .int .i64 x1, .int .u32 x2, .int .u32 x3, .int .u32 x4] 26)).heap.size = w.heap.size + 1 := by simp
    rw [hgg] at HG4
    clear hgg
    generalize (w.alloc (.cells #[.int .u32 x0, .int .i64 x1, .int .u32 x2, .int .u32 x3, .int .u32 x4] 26)).alloc (.cells #[.int .u32 y0, .int .i64 y1, .int .u32 y2, .int .u32 y3, .int .u32 y4] 26) = w1 at HG3 HG4 HL0 ⊢
    generalize w.heap.size + 1 = g2 at HG4 ⊢
    generalize hg1 : w.heap.size = g1 at HG3 ⊢
    clear hg1
    have r0 := blk_at (i := 0) HG3.out rfl
    have r1 := blk_at (i := 1) HG3.out rfl
    have r2 := blk_at (i := 0) HG4.out rfl
    have r3 := blk_at (i := 1) HG4.out rfl
    refine start_ (n := 13) (S := fun w' => w'.cell? ⟨g1, 0, none⟩ = some (.int .u32 x0) ∧ w'.cell? ⟨g1, 1, none⟩ = some (.int .i64 x1) ∧ w'.cell? ⟨g2, 0, none⟩ = some (.int .u32 y0) ∧ w'.cell? ⟨g2, 1, none⟩ = some (.int .i64 y1)) (ds := [11]) #[false, false, false, false, false, false, false, false, false, false, false, false, false] (by kernel_rfl) rfl rfl ⟨r0, r1, r2, r3⟩ (fun hHeld => ?_)
    refine pure_ (i := 0) (N := some 11) (v := ?_) (a' := ?_) #[true, false, false, false, false, false, false, false, false, false, false, false, false] rfl rfl (by kernel_rfl) (fun _ _ _ h => h) (Or.inl ⟨by rfl, ?_⟩) ?_ ?_
    rotate_left
    · intro w'
      go_simp
      with_reducible rfl
    rotate_left
    · simp only [Act.put, List.setIfInBounds_toArray, List.set_cons_zero, List.set_cons_succ, i64_w, i32_w]
      rfl
    refine pure_ (i := 2) (N := some 13) (v := ?_) (a' := ?_) #[true, false, true, false, false, false, false, false, false, false, false, false, false] rfl rfl (by kernel_rfl) (fun _ _ _ h => h) (Or.inl ⟨by rfl, ?_⟩) ?_ ?_
    rotate_left
    · intro w'
      go_simp
      with_reducible rfl
    rotate_left
    · simp only [Act.put, List.setIfInBounds_toArray, List.set_cons_zero, List.set_cons_succ, i64_w, i32_w]
      rfl
    refine pure_ (i := 5) (N := some 16) (v := ?_) (a' := ?_) #[true, false, true, false, false, true, false, false, false, false, false, false, false] rfl rfl (by kernel_rfl) (fun _ _ _ h => h) (Or.inl ⟨by rfl, ?_⟩) ?_ ?_
    rotate_left
    · intro w'
      go_simp
      with_reducible rfl
    rotate_left
    · simp only [Act.put, List.setIfInBounds_toArray, List.set_cons_zero, List.set_cons_succ, i64_w, i32_w]
      rfl
    refine pure_ (i := 7) (N := some 18) (v := ?_) (a' := ?_) #[true, false, true, false, false, true, false, true, false, false, false, false, false] rfl rfl (by kernel_rfl) (fun _ _ _ h => h) (Or.inl ⟨by rfl, ?_⟩) ?_ ?_
    rotate_left
    · intro w'
      go_simp
      with_reducible rfl
    rotate_left
    · simp only [Act.put, List.setIfInBounds_toArray, List.set_cons_zero, List.set_cons_succ, i64_w, i32_w]
      rfl
    refine take_ (i := 1) (N := some 12) (v := ?_) (a' := ?_) #[true, true, true, false, false, true, false, true, false, false, false, false, false] rfl rfl (by kernel_rfl) (fun _ _ _ h => h) (Or.inl ⟨by rfl, ?_⟩) hHeld ?_ ?_
    rotate_left
    · rintro w' ⟨s0, s1, s2, s3⟩
      go_simp
      with_reducible rfl
    rotate_left
    · simp only [Act.put, List.setIfInBounds_toArray, List.set_cons_zero, List.set_cons_succ, i64_w, i32_w]
      rfl
    refine take_ (i := 3) (N := some 14) (v := ?_) (a' := ?_) #[true, true, true, true, false, true, false, true, false, false, false, false, false] rfl rfl (by kernel_rfl) (fun _ _ _ h => h) (Or.inl ⟨by rfl, ?_⟩) hHeld ?_ ?_
    rotate_left
    · rintro w' ⟨s0, s1, s2, s3⟩
      go_simp
      with_reducible rfl
    rotate_left
    · simp only [Act.put, List.setIfInBounds_toArray, List.set_cons_zero, List.set_cons_succ, i64_w, i32_w]
      rfl
    refine take_ (i := 6) (N := some 17) (v := ?_) (a' := ?_) #[true, true, true, true, false, true, true, true, false, false, false, false, false] rfl rfl (by kernel_rfl) (fun _ _ _ h => h) (Or.inl ⟨by rfl, ?_⟩) hHeld ?_ ?_
    rotate_left
    · rintro w' ⟨s0, s1, s2, s3⟩
      go_simp
      with_reducible rfl
    rotate_left
    · simp only [Act.put, List.setIfInBounds_toArray, List.set_cons_zero, List.set_cons_succ, i64_w, i32_w]
      rfl
    refine take_ (i := 8) (N := some 19) (v := ?_) (a' := ?_) #[true, true, true, true, false, true, true, true, true, false, false, false, false] rfl rfl (by kernel_rfl) (fun _ _ _ h => h) (Or.inl ⟨by rfl, ?_⟩) hHeld ?_ ?_
    rotate_left
    · rintro w' ⟨s0, s1, s2, s3⟩
      go_simp
      with_reducible rfl
    rotate_left
    · simp only [Act.put, List.setIfInBounds_toArray, List.set_cons_zero, List.set_cons_succ, i64_w, i32_w]
      rfl
    refine one_ (i := 4) (N := some 15) #[true, true, true, true, true, true, true, true, true, false, false, false, false] rfl rfl (by kernel_rfl) (by decide) (fun K hK => ?_)
    refine goes_ Try.func111 (by kernel_rfl) rfl #[.int .i64 x1, .int .i64 y1] (by rfl) rfl rfl (by simp only [List.map_toArray, List.map_cons, List.map_nil]; rfl) ?_
    with_reducible refine (cmp_Compare_int.calls x1 y1 (sgc x1 y1) _ (Compare_f _ _)).mono ?_
    rintro e w2 ⟨rfl, n1, rfl⟩
    refine ⟨_, rfl, ?_⟩
    have HL1 := Aside0.mk ((HL0.out.drew).drewN n1)
    have HA1 := Aside0.mk (Base.blk_drewN (Base.blk_drew HG3.out) n1)
    have HB1 := Aside0.mk (Base.blk_drewN (Base.blk_drew HG4.out) n1)
    refine hK.out _ _ ⟨r0, r1, r2, r3⟩ (fun hHeld => ?_)
    clear hK K
    refine norm_ (a' := ?_) ?_ ?_
    rotate_left
    · show Act.put _ (some 15) _ = _
      simp only [Act.put, List.setIfInBounds_toArray, List.set_cons_zero, List.set_cons_succ, i64_w, i32_w]
      rfl
    refine one_ (i := 9) (N := some 20) #[true, true, true, true, true, true, true, true, true, true, false, false, false] rfl rfl (by kernel_rfl) (by decide) (fun K hK => ?_)
    refine goes_ Try.func112 (by kernel_rfl) rfl #[.int .u32 x0, .int .u32 y0] (by rfl) rfl rfl (by simp only [List.map_toArray, List.map_cons, List.map_nil]; rfl) ?_
    with_reducible refine (cmp_Compare_uint32.calls x0 y0 (sgc x0 y0) _ (CmpU_f _ _)).mono ?_
    rintro e w3 ⟨rfl, n2, rfl⟩
    refine ⟨_, rfl, ?_⟩
    have HL2 := Aside0.mk (HL1.out.drewN n2)
    have HA2 := Aside0.mk (Base.blk_drewN HA1.out n2)
    have HB2 := Aside0.mk (Base.blk_drewN HB1.out n2)
    generalize hw3 : (w1.drew.drewN n1).drewN n2 = w3 at HL2 HA2 HB2 ⊢
    have r0 : w3.cell? ⟨g1, 0, none⟩ = some (.int .u32 x0) := by rw [← hw3]; exact r0
    have r1 : w3.cell? ⟨g1, 1, none⟩ = some (.int .i64 x1) := by rw [← hw3]; exact r1
    have r2 : w3.cell? ⟨g2, 0, none⟩ = some (.int .u32 y0) := by rw [← hw3]; exact r2
    have r3 : w3.cell? ⟨g2, 1, none⟩ = some (.int .i64 y1) := by rw [← hw3]; exact r3
    refine hK.out _ _ ⟨r0, r1, r2, r3⟩ (fun hHeld => ?_)
    clear hK K
    refine norm_ (a' := ?_) ?_ ?_
    rotate_left
    · show Act.put _ (some 20) _ = _
      simp only [Act.put, List.setIfInBounds_toArray, List.set_cons_zero, List.set_cons_succ, i64_w, i32_w]
      rfl
    refine one_ (i := 10) (N := some 21) #[true, true, true, true, true, true, true, true, true, true, true, false, false] rfl rfl (by kernel_rfl) (by decide) (fun K hK => ?_)
    refine value_ (w1 := w3.alloc (.cells #[.int .i64 (sgc x1 y1), .int .i64 (sgc x0 y0)] 3)) (v := .slice (some ⟨w3.heap.size, 0, none⟩) 2 2) (by rfl) rfl ?_ ?_
    · (go_simp; try rfl)
    have HL3 := Aside0.mk (HL2.out.alloc (.cells #[.int .i64 (sgc x1 y1), .int .i64 (sgc x0 y0)] 3))
    have HA3 := Aside0.mk (Base.blk_alloc HA2.out (.cells #[.int .i64 (sgc x1 y1), .int .i64 (sgc x0 y0)] 3))
    have HB3 := Aside0.mk (Base.blk_alloc HB2.out (.cells #[.int .i64 (sgc x1 y1), .int .i64 (sgc x0 y0)] 3))
    have HK := Aside0.mk (lit2 w3 (sgc x1 y1) (sgc x0 y0) 3)
    refine hK.out _ _ ⟨(World.cell?_alloc_lt _ _ _ (World.block_lt_of_cell? _ _ r0)).trans r0, (World.cell?_alloc_lt _ _ _ (World.block_lt_of_cell? _ _ r1)).trans r1, (World.cell?_alloc_lt _ _ _ (World.block_lt_of_cell? _ _ r2)).trans r2, (World.cell?_alloc_lt _ _ _ (World.block_lt_of_cell? _ _ r3)).trans r3⟩ (fun hHeld => ?_)
    clear hK K
    refine norm_ (a' := ?_) ?_ ?_
    rotate_left
    · show Act.put _ (some 21) _ = _
      simp only [Act.put, List.setIfInBounds_toArray, List.set_cons_zero, List.set_cons_succ, i64_w, i32_w]
      rfl
    refine last_ (i := 11) (N := some 22) #[true, true, true, true, true, true, true, true, true, true, true, true, false] rfl rfl (by kernel_rfl) (by decide) (fun K hK => ?_)
    refine goes_ Try.func110 (by kernel_rfl) rfl #[.slice (some ⟨w3.heap.size, 0, none⟩) [sgc x1 y1, sgc x0 y0].length 2] (by rfl) rfl rfl (by simp only [List.map_toArray, List.map_cons, List.map_nil]; rfl) ?_
    with_reducible refine (cmp_Or_int.calls 10 (some ⟨w3.heap.size, 0, none⟩) 2 [sgc x1 y1, sgc x0 y0] (orZ (sgc x1 y1) (sgc x0 y0)) _ HK.out (Nat.le_refl _) (Or_f _ _)).mono ?_
    rintro e w4 ⟨rfl, n3, rfl⟩
    refine ⟨_, rfl, ?_⟩
    have HL4 := Aside0.mk (HL3.out.drewN n3)
    have HA4 := Aside0.mk (Base.blk_drewN HA3.out n3)
    have HB4 := Aside0.mk (Base.blk_drewN HB3.out n3)
    refine hK.out _ _ ?_
    clear hK K
    refine norm_ (a' := ?_) ?_ ?_
    rotate_left
    · show Act.put _ (some 22) _ = _
      simp only [Act.put, List.setIfInBounds_toArray, List.set_cons_zero, List.set_cons_succ, i64_w, i32_w]
      rfl
    refine pure_ (i := 12) (N := some 5) (v := ?_) (a' := ?_) #[true, true, true, true, true, true, true, true, true, true, true, true, true] rfl rfl (by kernel_rfl) (fun _ _ _ h => h) (Or.inl ⟨by rfl, ?_⟩) ?_ ?_
    rotate_left
    · intro w'
      go_simp
      with_reducible rfl
    rotate_left
    · simp only [Act.put, List.setIfInBounds_toArray, List.set_cons_zero, List.set_cons_succ, i64_w, i32_w]
      rfl
    refine done_ (by kernel_rfl) ?_
    clear r0 r1 r2 r3
    generalize (w3.alloc (.cells #[.int .i64 (sgc x1 y1), .int .i64 (sgc x0 y0)] 3)).drewN n3 = w5 at HL4 HA4 HB4 ⊢
    have a2 := blk_at (i := 2) HA4.out rfl
    have a3 := blk_at (i := 3) HA4.out rfl
    have a4 := blk_at (i := 4) HA4.out rfl
    have b2 := blk_at (i := 2) HB4.out rfl
    have b3 := blk_at (i := 3) HB4.out rfl
    have b4 := blk_at (i := 4) HB4.out rfl
    have il0 : ∀ W : World, (Instr.index 24 (.agg #[.int .u32 x2, .int .u32 x3, .int .u32 x4]) (.int .i64 0)).run Try.prog W = .ok (.int .u32 x2) W := fun _ => by first | kernel_rfl | rfl | (simp [go_sem]; done)
    have il1 : ∀ W : World, (Instr.index 24 (.agg #[.int .u32 x2, .int .u32 x3, .int .u32 x4]) (.int .i64 1)).run Try.prog W = .ok (.int .u32 x3) W := fun _ => by first | kernel_rfl | rfl | (simp [go_sem]; done)
    have il2 : ∀ W : World, (Instr.index 24 (.agg #[.int .u32 x2, .int .u32 x3, .int .u32 x4]) (.int .i64 2)).run Try.prog W = .ok (.int .u32 x4) W := fun _ => by first | kernel_rfl | rfl | (simp [go_sem]; done)
    go_wp2
    refine wp_loop_rounds 4 ?_
    rw [rounds_succ]
    go_wp2_with (first | (go_at_call 112; refine (cmp_Compare_uint32.calls _ _ _ _ (CmpU_f _ _)).mono ?_; rintro e w2 ⟨rfl, n2, rfl⟩) | (go_at_call 111; refine (cmp_Compare_int.calls _ _ _ _ (Compare_f _ _)).mono ?_; rintro e w2 ⟨rfl, n2, rfl⟩) | (go_at_call 110; refine (cmp_Or_int.calls 10 _ 2 [_, _] _ _ (lit2 _ _ _ _) (Nat.le_refl _) (Or_f _ _)).mono ?_; rintro e w3 ⟨rfl, n3, rfl⟩))
    have HL5 := Aside0.mk (((HL4.out.drewN n2).alloc (.cells #[.int .i64 (orZ (sgc x1 y1) (sgc x0 y0)), .int .i64 (sgc x2 y2)] 3)).drewN n3)
    have HB5 := Aside0.mk (Base.blk_drewN (Base.blk_alloc (Base.blk_drewN HB4.out n2) (.cells #[.int .i64 (orZ (sgc x1 y1) (sgc x0 y0)), .int .i64 (sgc x2 y2)] 3)) n3)
    generalize ((w5.drewN n2).alloc (.cells #[.int .i64 (orZ (sgc x1 y1) (sgc x0 y0)), .int .i64 (sgc x2 y2)] 3)).drewN n3 = w6 at HL5 HB5 ⊢
    have q3 := blk_at (i := 3) HB5.out rfl
    rw [rounds_succ]
    go_wp2_with (first | (go_at_call 112; refine (cmp_Compare_uint32.calls _ _ _ _ (CmpU_f _ _)).mono ?_; rintro e w2 ⟨rfl, n2, rfl⟩) | (go_at_call 111; refine (cmp_Compare_int.calls _ _ _ _ (Compare_f _ _)).mono ?_; rintro e w2 ⟨rfl, n2, rfl⟩) | (go_at_call 110; refine (cmp_Or_int.calls 10 _ 2 [_, _] _ _ (lit2 _ _ _ _) (Nat.le_refl _) (Or_f _ _)).mono ?_; rintro e w3 ⟨rfl, n3, rfl⟩))
    have HL6 := Aside0.mk (((HL5.out.drewN n2).alloc (.cells #[.int .i64 (orZ (orZ (sgc x1 y1) (sgc x0 y0)) (sgc x2 y2)), .int .i64 (sgc x3 y3)] 3)).drewN n3)
    have HB6 := Aside0.mk (Base.blk_drewN (Base.blk_alloc (Base.blk_drewN HB5.out n2) (.cells #[.int .i64 (orZ (orZ (sgc x1 y1) (sgc x0 y0)) (sgc x2 y2)), .int .i64 (sgc x3 y3)] 3)) n3)
    generalize ((w6.drewN n2).alloc (.cells #[.int .i64 (orZ (orZ (sgc x1 y1) (sgc x0 y0)) (sgc x2 y2)), .int .i64 (sgc x3 y3)] 3)).drewN n3 = w7 at HL6 HB6 ⊢
    have q4 := blk_at (i := 4) HB6.out rfl
    rw [rounds_succ]
    go_wp2_with (first | (go_at_call 112; refine (cmp_Compare_uint32.calls _ _ _ _ (CmpU_f _ _)).mono ?_; rintro e w2 ⟨rfl, n2, rfl⟩) | (go_at_call 111; refine (cmp_Compare_int.calls _ _ _ _ (Compare_f _ _)).mono ?_; rintro e w2 ⟨rfl, n2, rfl⟩) | (go_at_call 110; refine (cmp_Or_int.calls 10 _ 2 [_, _] _ _ (lit2 _ _ _ _) (Nat.le_refl _) (Or_f _ _)).mono ?_; rintro e w3 ⟨rfl, n3, rfl⟩))
    have HL7 := Aside0.mk (((HL6.out.drewN n2).alloc (.cells #[.int .i64 (orZ (orZ (orZ (sgc x1 y1) (sgc x0 y0)) (sgc x2 y2)) (sgc x3 y3)), .int .i64 (sgc x4 y4)] 3)).drewN n3)
    have HB7 := Aside0.mk (Base.blk_drewN (Base.blk_alloc (Base.blk_drewN HB6.out n2) (.cells #[.int .i64 (orZ (orZ (orZ (sgc x1 y1) (sgc x0 y0)) (sgc x2 y2)) (sgc x3 y3)), .int .i64 (sgc x4 y4)] 3)) n3)
    generalize ((w7.drewN n2).alloc (.cells #[.int .i64 (orZ (orZ (orZ (sgc x1 y1) (sgc x0 y0)) (sgc x2 y2)) (sgc x3 y3)), .int .i64 (sgc x4 y4)] 3)).drewN n3 = w8 at HL7 HB7 ⊢
    rw [rounds_succ]
    go_wp2_with (first | (go_at_call 112; refine (cmp_Compare_uint32.calls _ _ _ _ (CmpU_f _ _)).mono ?_; rintro e w2 ⟨rfl, n2, rfl⟩) | (go_at_call 111; refine (cmp_Compare_int.calls _ _ _ _ (Compare_f _ _)).mono ?_; rintro e w2 ⟨rfl, n2, rfl⟩) | (go_at_call 110; refine (cmp_Or_int.calls 10 _ 2 [_, _] _ _ (lit2 _ _ _ _) (Nat.le_refl _) (Or_f _ _)).mono ?_; rintro e w3 ⟨rfl, n3, rfl⟩))
    go_ret
    exact ⟨rfl, by repeat (first | exact HL7.out | apply lays.alloc | apply lays.drewN | apply lays.drew)⟩
end Go.Proofs.Ytljmamlceofcfaa.V06
