import Derived.Test.YtljmamlceofcfaaProg
import Derived.Test.YtljmamlceofcfaaBase
import Derived.Test.YtljmamlceofcfaaPl
import Derived.Test.YtljmamlceofcfaaAr
import Derived.Laws.CopyRow
import Derived.Deep.CutBlock
import Derived.Deep.DeepCutAuto
import Derived.Outline
/- Contracts of package stamp: the rounds within a time's depth, and how two times stand. -/
namespace Go.Proofs.Ytljmamlceofcfaa.Ext
set_option linter.unusedSimpArgs false
open Go.RowKit Go.Proofs.YtljmamlceofcfaaW.PrintWords Go.Proofs.YtljmamlceofcfaaW.PrintLast Go.Proofs.YtljmamlceofcfaaW.PrintMore Go.Proofs.Ytljmamlceofcfaa.Base Go.Proofs.Ytljmamlceofcfaa.Ar

theorem infou32 : (Try.prog.info? 23).map (fun i => (i.zero, i.size, i.bytes)) = some (some (.int .u32 0), 1, 4) := by kernel_rfl
theorem infou32s : (Try.prog.info? 23).map (·.size) = some 1 := by kernel_rfl
def stamp_rounds.f (_e d a b c : Int) : Option (Int × Int × Int) := if 0 ≤ d ∧ d ≤ 3 then some (if 0 < d then a else 0, if 1 < d then b else 0, if 2 < d then c else 0) else none
set_option maxHeartbeats 1000000 in
theorem stamp_rounds.calls (a0_0 a0_1 a0_2 a0_3 a0_4 r1 r2 r3 : Int) (w : World) (h : stamp_rounds.f a0_0 a0_1 a0_2 a0_3 a0_4 = some (r1, r2, r3)) :
    Calls Try.prog 130 #[.agg #[.int .u32 a0_0, .int .i64 a0_1, .int .u32 a0_2, .int .u32 a0_3, .int .u32 a0_4]] w fun e w' => e = .returned (.agg #[.int .u32 r1, .int .u32 r2, .int .u32 r3]) ∧ Below w.heap.size w w' := by
  have HB := Aside0.mk (Below.refl w.heap.size w)
  unfold stamp_rounds.f at h
  split at h
  case isFalse => cases h
  rename_i hc
  obtain rfl | rfl | rfl | rfl : a0_1 = 0 ∨ a0_1 = 1 ∨ a0_1 = 2 ∨ a0_1 = 3 := by omega
  · simp at h
    obtain ⟨rfl, rfl, rfl⟩ := h
    have hs1 : ∀ W : World, (Instr.sliceAt 24 (.pointer (some ⟨w.heap.size + 1, 0, none⟩)) none (some (.int .i64 0)) none).run Try.prog W = .ok (.slice (some ⟨w.heap.size + 1, 0, none⟩) 0 3) W := fun W => sliceAt_to (P := Try.prog) Try.underlying24 infou32 (by decide) (w.heap.size + 1) 0 .i64 0 (by decide) W
    have hs2 := fun W : World => sliceAt_all (P := Try.prog) Try.underlying24 infou32 (by decide) w.heap.size 2 W
    have hcp : (Builtin.copy_ #[121, 121] 3 #[.slice (some ⟨w.heap.size + 1, 0, none⟩) 0 3, .slice (some ⟨w.heap.size, 2, none⟩) 3 3]).run Try.prog ((w.alloc (.cells #[.int .u32 a0_0, .int .i64 0, .int .u32 a0_2, .int .u32 a0_3, .int .u32 a0_4] 26)).alloc (.cells #[.int .u32 0, .int .u32 0, .int .u32 0] 24)).drew = .ok (.int .i64 0) ((w.alloc (.cells #[.int .u32 a0_0, .int .i64 0, .int .u32 a0_2, .int .u32 a0_3, .int .u32 a0_4] 26)).alloc (.cells #[.int .u32 0, .int .u32 0, .int .u32 0] 24)).drew := by
      have hb := blk_new (w.alloc (.cells #[.int .u32 a0_0, .int .i64 0, .int .u32 a0_2, .int .u32 a0_3, .int .u32 a0_4] 26)) (.cells #[.int .u32 0, .int .u32 0, .int .u32 0] 24)
      rw [World.size_alloc] at hb
      have := run_copy_row (P := Try.prog) ((w.alloc (.cells #[.int .u32 a0_0, .int .i64 0, .int .u32 a0_2, .int .u32 a0_3, .int .u32 a0_4] 26)).alloc (.cells #[.int .u32 0, .int .u32 0, .int .u32 0] 24)).drew 121 121 3 23 (w.heap.size + 1) 0 0 3 ⟨w.heap.size, 2, none⟩ 3 3 #[.int .u32 0, .int .u32 0, .int .u32 0] 24 [] Try.underlying121 infou32s hb rfl (fun j v hj => by
        have hc := Base.blk_alloc (blk_new w (.cells #[.int .u32 a0_0, .int .i64 0, .int .u32 a0_2, .int .u32 a0_3, .int .u32 a0_4] 26)) (.cells #[.int .u32 0, .int .u32 0, .int .u32 0] 24)
        rw [add_at]
        have hjl := (List.getElem?_eq_some_iff.1 hj).1
        refine (blk_cell (Base.blk_drew hc) _).trans ?_
        match j, hjl with
        | j, h => exact absurd h (by simp)) (by simp) (fun v hv => by simp at hv; skip)
      have e := setRow_alloc (w.alloc (.cells #[.int .u32 a0_0, .int .i64 0, .int .u32 a0_2, .int .u32 a0_3, .int .u32 a0_4] 26)) #[.int .u32 0, .int .u32 0, .int .u32 0] #[.int .u32 0, .int .u32 0, .int .u32 0] 24
      rw [World.size_alloc] at e
      exact this.trans (congrArg _ e)
    go_enter Try.func130, Try.ntmps130
    go_wp2
    refine start_ (n := 6) (S := fun w' => w'.cell? ⟨w.heap.size, 1, none⟩ = some (.int .i64 0)) (ds := []) #[false, false, false, false, false, false] (by kernel_rfl) rfl rfl ((by go_simp)) (fun hHeld => ?_)
    refine pure_ (i := 0) (N := some 3) (v := ?_) (a' := ?_) #[true, false, false, false, false, false] rfl rfl (by kernel_rfl) (fun _ _ _ h => h) (Or.inl ⟨by rfl, ?_⟩) ?_ ?_
    rotate_left
    · intro w'
      go_simp
      with_reducible rfl
    rotate_left
    · simp only [Act.put, List.setIfInBounds_toArray, List.set_cons_zero, List.set_cons_succ, i64_w, i32_w]
      rfl
    refine pure_ (i := 3) (N := some 6) (v := ?_) (a' := ?_) #[true, false, false, true, false, false] rfl rfl (by kernel_rfl) (fun _ _ _ h => h) (Or.inl ⟨by rfl, ?_⟩) ?_ ?_
    rotate_left
    · intro w'
      go_simp
      with_reducible rfl
    rotate_left
    · simp only [Act.put, List.setIfInBounds_toArray, List.set_cons_zero, List.set_cons_succ, i64_w, i32_w]
      rfl
    refine pure_ (i := 4) (N := some 7) (v := ?_) (a' := ?_) #[true, false, false, true, true, false] rfl rfl (by kernel_rfl) (fun _ _ _ h => h) (Or.inl ⟨by rfl, ?_⟩) ?_ ?_
    rotate_left
    · intro w'
      go_simp
      with_reducible rfl
    rotate_left
    · simp only [Act.put, List.setIfInBounds_toArray, List.set_cons_zero, List.set_cons_succ, i64_w, i32_w]
      rfl
    refine take_ (i := 1) (N := some 4) (v := ?_) (a' := ?_) #[true, true, false, true, true, false] rfl rfl (by kernel_rfl) (fun _ _ _ h => h) (Or.inl ⟨by rfl, ?_⟩) hHeld ?_ ?_
    rotate_left
    · intro w' s0
      go_simp
      with_reducible rfl
    rotate_left
    · simp only [Act.put, List.setIfInBounds_toArray, List.set_cons_zero, List.set_cons_succ, i64_w, i32_w]
      rfl
    refine pure_ (i := 2) (N := some 5) (v := ?_) (a' := ?_) #[true, true, true, true, true, false] rfl rfl (by kernel_rfl) (fun _ _ _ h => h) (Or.inl ⟨by rfl, ?_⟩) ?_ ?_
    rotate_left
    · intro w'
      go_simp
      with_reducible rfl
    rotate_left
    · simp only [Act.put, List.setIfInBounds_toArray, List.set_cons_zero, List.set_cons_succ, i64_w, i32_w]
      rfl
    refine one_ (i := 5) (N := some 8) #[true, true, true, true, true, true] rfl rfl (by kernel_rfl) (by decide) (fun K hK => ?_)
    refine value_ (w1 := ?_) (v := ?_) (by rfl) rfl ?_ ?_
    rotate_left 2
    · go_simp
      constructor
      · rfl
      · rfl
    refine hK.out _ _ ((by go_simp)) (fun hHeld => ?_)
    clear hK K
    refine norm_ (a' := ?_) ?_ ?_
    rotate_left
    · show Act.put _ (some 8) _ = _
      simp only [Act.put, List.setIfInBounds_toArray, List.set_cons_zero, List.set_cons_succ, i64_w, i32_w]
      rfl
    refine done_ (by kernel_rfl) ?_
    go_wp2
    exact bodyPost_ret (v := .agg #[.int .u32 0, .int .u32 0, .int .u32 0]) (by simp [results, Try.results130, go_sem]) rfl ⟨rfl, (by repeat (first | (with_reducible first | exact HB.out | apply below_alloc | apply pw_below_drewN | apply below_drew1) | exact HB.out))⟩
  · simp at h
    obtain ⟨rfl, rfl, rfl⟩ := h
    have hs1 : ∀ W : World, (Instr.sliceAt 24 (.pointer (some ⟨w.heap.size + 1, 0, none⟩)) none (some (.int .i64 1)) none).run Try.prog W = .ok (.slice (some ⟨w.heap.size + 1, 0, none⟩) 1 3) W := fun W => sliceAt_to (P := Try.prog) Try.underlying24 infou32 (by decide) (w.heap.size + 1) 0 .i64 1 (by decide) W
    have hs2 := fun W : World => sliceAt_all (P := Try.prog) Try.underlying24 infou32 (by decide) w.heap.size 2 W
    have hcp : (Builtin.copy_ #[121, 121] 3 #[.slice (some ⟨w.heap.size + 1, 0, none⟩) 1 3, .slice (some ⟨w.heap.size, 2, none⟩) 3 3]).run Try.prog ((w.alloc (.cells #[.int .u32 a0_0, .int .i64 1, .int .u32 a0_2, .int .u32 a0_3, .int .u32 a0_4] 26)).alloc (.cells #[.int .u32 0, .int .u32 0, .int .u32 0] 24)).drew = .ok (.int .i64 1) ((w.alloc (.cells #[.int .u32 a0_0, .int .i64 1, .int .u32 a0_2, .int .u32 a0_3, .int .u32 a0_4] 26)).alloc (.cells #[.int .u32 a0_2, .int .u32 0, .int .u32 0] 24)).drew := by
      have hb := blk_new (w.alloc (.cells #[.int .u32 a0_0, .int .i64 1, .int .u32 a0_2, .int .u32 a0_3, .int .u32 a0_4] 26)) (.cells #[.int .u32 0, .int .u32 0, .int .u32 0] 24)
      rw [World.size_alloc] at hb
      have := run_copy_row (P := Try.prog) ((w.alloc (.cells #[.int .u32 a0_0, .int .i64 1, .int .u32 a0_2, .int .u32 a0_3, .int .u32 a0_4] 26)).alloc (.cells #[.int .u32 0, .int .u32 0, .int .u32 0] 24)).drew 121 121 3 23 (w.heap.size + 1) 0 1 3 ⟨w.heap.size, 2, none⟩ 3 3 #[.int .u32 0, .int .u32 0, .int .u32 0] 24 [.int .u32 a0_2] Try.underlying121 infou32s hb rfl (fun j v hj => by
        have hc := Base.blk_alloc (blk_new w (.cells #[.int .u32 a0_0, .int .i64 1, .int .u32 a0_2, .int .u32 a0_3, .int .u32 a0_4] 26)) (.cells #[.int .u32 0, .int .u32 0, .int .u32 0] 24)
        rw [add_at]
        have hjl := (List.getElem?_eq_some_iff.1 hj).1
        refine (blk_cell (Base.blk_drew hc) _).trans ?_
        match j, hjl with
        | 0, _ => exact hj) (by simp) (fun v hv => by simp at hv; subst hv; rfl)
      have e := setRow_alloc (w.alloc (.cells #[.int .u32 a0_0, .int .i64 1, .int .u32 a0_2, .int .u32 a0_3, .int .u32 a0_4] 26)) #[.int .u32 0, .int .u32 0, .int .u32 0] #[.int .u32 a0_2, .int .u32 0, .int .u32 0] 24
      rw [World.size_alloc] at e
      exact this.trans (congrArg _ e)
    go_enter Try.func130, Try.ntmps130
    go_wp2
    refine start_ (n := 6) (S := fun w' => w'.cell? ⟨w.heap.size, 1, none⟩ = some (.int .i64 1)) (ds := []) #[false, false, false, false, false, false] (by kernel_rfl) rfl rfl ((by go_simp)) (fun hHeld => ?_)
    refine pure_ (i := 0) (N := some 3) (v := ?_) (a' := ?_) #[true, false, false, false, false, false] rfl rfl (by kernel_rfl) (fun _ _ _ h => h) (Or.inl ⟨by rfl, ?_⟩) ?_ ?_
    rotate_left
    · intro w'
      go_simp
      with_reducible rfl
    rotate_left
    · simp only [Act.put, List.setIfInBounds_toArray, List.set_cons_zero, List.set_cons_succ, i64_w, i32_w]
      rfl
    refine pure_ (i := 3) (N := some 6) (v := ?_) (a' := ?_) #[true, false, false, true, false, false] rfl rfl (by kernel_rfl) (fun _ _ _ h => h) (Or.inl ⟨by rfl, ?_⟩) ?_ ?_
    rotate_left
    · intro w'
      go_simp
      with_reducible rfl
    rotate_left
    · simp only [Act.put, List.setIfInBounds_toArray, List.set_cons_zero, List.set_cons_succ, i64_w, i32_w]
      rfl
    refine pure_ (i := 4) (N := some 7) (v := ?_) (a' := ?_) #[true, false, false, true, true, false] rfl rfl (by kernel_rfl) (fun _ _ _ h => h) (Or.inl ⟨by rfl, ?_⟩) ?_ ?_
    rotate_left
    · intro w'
      go_simp
      with_reducible rfl
    rotate_left
    · simp only [Act.put, List.setIfInBounds_toArray, List.set_cons_zero, List.set_cons_succ, i64_w, i32_w]
      rfl
    refine take_ (i := 1) (N := some 4) (v := ?_) (a' := ?_) #[true, true, false, true, true, false] rfl rfl (by kernel_rfl) (fun _ _ _ h => h) (Or.inl ⟨by rfl, ?_⟩) hHeld ?_ ?_
    rotate_left
    · intro w' s0
      go_simp
      with_reducible rfl
    rotate_left
    · simp only [Act.put, List.setIfInBounds_toArray, List.set_cons_zero, List.set_cons_succ, i64_w, i32_w]
      rfl
    refine pure_ (i := 2) (N := some 5) (v := ?_) (a' := ?_) #[true, true, true, true, true, false] rfl rfl (by kernel_rfl) (fun _ _ _ h => h) (Or.inl ⟨by rfl, ?_⟩) ?_ ?_
    rotate_left
    · intro w'
      go_simp
      with_reducible rfl
    rotate_left
    · simp only [Act.put, List.setIfInBounds_toArray, List.set_cons_zero, List.set_cons_succ, i64_w, i32_w]
      rfl
    refine one_ (i := 5) (N := some 8) #[true, true, true, true, true, true] rfl rfl (by kernel_rfl) (by decide) (fun K hK => ?_)
    refine value_ (w1 := ?_) (v := ?_) (by rfl) rfl ?_ ?_
    rotate_left 2
    · go_simp
      constructor
      · rfl
      · rfl
    refine hK.out _ _ ((by go_simp)) (fun hHeld => ?_)
    clear hK K
    refine norm_ (a' := ?_) ?_ ?_
    rotate_left
    · show Act.put _ (some 8) _ = _
      simp only [Act.put, List.setIfInBounds_toArray, List.set_cons_zero, List.set_cons_succ, i64_w, i32_w]
      rfl
    refine done_ (by kernel_rfl) ?_
    go_wp2
    exact bodyPost_ret (v := .agg #[.int .u32 a0_2, .int .u32 0, .int .u32 0]) (by simp [results, Try.results130, go_sem]) rfl ⟨rfl, (by repeat (first | (with_reducible first | exact HB.out | apply below_alloc | apply pw_below_drewN | apply below_drew1) | exact HB.out))⟩
  · simp at h
    obtain ⟨rfl, rfl, rfl⟩ := h
    have hs1 : ∀ W : World, (Instr.sliceAt 24 (.pointer (some ⟨w.heap.size + 1, 0, none⟩)) none (some (.int .i64 2)) none).run Try.prog W = .ok (.slice (some ⟨w.heap.size + 1, 0, none⟩) 2 3) W := fun W => sliceAt_to (P := Try.prog) Try.underlying24 infou32 (by decide) (w.heap.size + 1) 0 .i64 2 (by decide) W
    have hs2 := fun W : World => sliceAt_all (P := Try.prog) Try.underlying24 infou32 (by decide) w.heap.size 2 W
    have hcp : (Builtin.copy_ #[121, 121] 3 #[.slice (some ⟨w.heap.size + 1, 0, none⟩) 2 3, .slice (some ⟨w.heap.size, 2, none⟩) 3 3]).run Try.prog ((w.alloc (.cells #[.int .u32 a0_0, .int .i64 2, .int .u32 a0_2, .int .u32 a0_3, .int .u32 a0_4] 26)).alloc (.cells #[.int .u32 0, .int .u32 0, .int .u32 0] 24)).drew = .ok (.int .i64 2) ((w.alloc (.cells #[.int .u32 a0_0, .int .i64 2, .int .u32 a0_2, .int .u32 a0_3, .int .u32 a0_4] 26)).alloc (.cells #[.int .u32 a0_2, .int .u32 a0_3, .int .u32 0] 24)).drew := by
      have hb := blk_new (w.alloc (.cells #[.int .u32 a0_0, .int .i64 2, .int .u32 a0_2, .int .u32 a0_3, .int .u32 a0_4] 26)) (.cells #[.int .u32 0, .int .u32 0, .int .u32 0] 24)
      rw [World.size_alloc] at hb
      have := run_copy_row (P := Try.prog) ((w.alloc (.cells #[.int .u32 a0_0, .int .i64 2, .int .u32 a0_2, .int .u32 a0_3, .int .u32 a0_4] 26)).alloc (.cells #[.int .u32 0, .int .u32 0, .int .u32 0] 24)).drew 121 121 3 23 (w.heap.size + 1) 0 2 3 ⟨w.heap.size, 2, none⟩ 3 3 #[.int .u32 0, .int .u32 0, .int .u32 0] 24 [.int .u32 a0_2, .int .u32 a0_3] Try.underlying121 infou32s hb rfl (fun j v hj => by
        have hc := Base.blk_alloc (blk_new w (.cells #[.int .u32 a0_0, .int .i64 2, .int .u32 a0_2, .int .u32 a0_3, .int .u32 a0_4] 26)) (.cells #[.int .u32 0, .int .u32 0, .int .u32 0] 24)
        rw [add_at]
        have hjl := (List.getElem?_eq_some_iff.1 hj).1
        refine (blk_cell (Base.blk_drew hc) _).trans ?_
        match j, hjl with
        | 0, _ => exact hj | 1, _ => exact hj) (by simp) (fun v hv => by simp at hv; rcases hv with rfl | rfl <;> rfl)
      have e := setRow_alloc (w.alloc (.cells #[.int .u32 a0_0, .int .i64 2, .int .u32 a0_2, .int .u32 a0_3, .int .u32 a0_4] 26)) #[.int .u32 0, .int .u32 0, .int .u32 0] #[.int .u32 a0_2, .int .u32 a0_3, .int .u32 0] 24
      rw [World.size_alloc] at e
      exact this.trans (congrArg _ e)
    go_enter Try.func130, Try.ntmps130
    go_wp2
    refine start_ (n := 6) (S := fun w' => w'.cell? ⟨w.heap.size, 1, none⟩ = some (.int .i64 2)) (ds := []) #[false, false, false, false, false, false] (by kernel_rfl) rfl rfl ((by go_simp)) (fun hHeld => ?_)
    refine pure_ (i := 0) (N := some 3) (v := ?_) (a' := ?_) #[true, false, false, false, false, false] rfl rfl (by kernel_rfl) (fun _ _ _ h => h) (Or.inl ⟨by rfl, ?_⟩) ?_ ?_
    rotate_left
    · intro w'
      go_simp
      with_reducible rfl
    rotate_left
    · simp only [Act.put, List.setIfInBounds_toArray, List.set_cons_zero, List.set_cons_succ, i64_w, i32_w]
      rfl
    refine pure_ (i := 3) (N := some 6) (v := ?_) (a' := ?_) #[true, false, false, true, false, false] rfl rfl (by kernel_rfl) (fun _ _ _ h => h) (Or.inl ⟨by rfl, ?_⟩) ?_ ?_
    rotate_left
    · intro w'
      go_simp
      with_reducible rfl
    rotate_left
    · simp only [Act.put, List.setIfInBounds_toArray, List.set_cons_zero, List.set_cons_succ, i64_w, i32_w]
      rfl
    refine pure_ (i := 4) (N := some 7) (v := ?_) (a' := ?_) #[true, false, false, true, true, false] rfl rfl (by kernel_rfl) (fun _ _ _ h => h) (Or.inl ⟨by rfl, ?_⟩) ?_ ?_
    rotate_left
    · intro w'
      go_simp
      with_reducible rfl
    rotate_left
    · simp only [Act.put, List.setIfInBounds_toArray, List.set_cons_zero, List.set_cons_succ, i64_w, i32_w]
      rfl
    refine take_ (i := 1) (N := some 4) (v := ?_) (a' := ?_) #[true, true, false, true, true, false] rfl rfl (by kernel_rfl) (fun _ _ _ h => h) (Or.inl ⟨by rfl, ?_⟩) hHeld ?_ ?_
    rotate_left
    · intro w' s0
      go_simp
      with_reducible rfl
    rotate_left
    · simp only [Act.put, List.setIfInBounds_toArray, List.set_cons_zero, List.set_cons_succ, i64_w, i32_w]
      rfl
    refine pure_ (i := 2) (N := some 5) (v := ?_) (a' := ?_) #[true, true, true, true, true, false] rfl rfl (by kernel_rfl) (fun _ _ _ h => h) (Or.inl ⟨by rfl, ?_⟩) ?_ ?_
    rotate_left
    · intro w'
      go_simp
      with_reducible rfl
    rotate_left
    · simp only [Act.put, List.setIfInBounds_toArray, List.set_cons_zero, List.set_cons_succ, i64_w, i32_w]
      rfl
    refine one_ (i := 5) (N := some 8) #[true, true, true, true, true, true] rfl rfl (by kernel_rfl) (by decide) (fun K hK => ?_)
    refine value_ (w1 := ?_) (v := ?_) (by rfl) rfl ?_ ?_
    rotate_left 2
    · go_simp
      constructor
      · rfl
      · rfl
    refine hK.out _ _ ((by go_simp)) (fun hHeld => ?_)
    clear hK K
    refine norm_ (a' := ?_) ?_ ?_
    rotate_left
    · show Act.put _ (some 8) _ = _
      simp only [Act.put, List.setIfInBounds_toArray, List.set_cons_zero, List.set_cons_succ, i64_w, i32_w]
      rfl
    refine done_ (by kernel_rfl) ?_
    go_wp2
    exact bodyPost_ret (v := .agg #[.int .u32 a0_2, .int .u32 a0_3, .int .u32 0]) (by simp [results, Try.results130, go_sem]) rfl ⟨rfl, (by repeat (first | (with_reducible first | exact HB.out | apply below_alloc | apply pw_below_drewN | apply below_drew1) | exact HB.out))⟩
  · simp at h
    obtain ⟨rfl, rfl, rfl⟩ := h
    have hs1 : ∀ W : World, (Instr.sliceAt 24 (.pointer (some ⟨w.heap.size + 1, 0, none⟩)) none (some (.int .i64 3)) none).run Try.prog W = .ok (.slice (some ⟨w.heap.size + 1, 0, none⟩) 3 3) W := fun W => sliceAt_to (P := Try.prog) Try.underlying24 infou32 (by decide) (w.heap.size + 1) 0 .i64 3 (by decide) W
    have hs2 := fun W : World => sliceAt_all (P := Try.prog) Try.underlying24 infou32 (by decide) w.heap.size 2 W
    have hcp : (Builtin.copy_ #[121, 121] 3 #[.slice (some ⟨w.heap.size + 1, 0, none⟩) 3 3, .slice (some ⟨w.heap.size, 2, none⟩) 3 3]).run Try.prog ((w.alloc (.cells #[.int .u32 a0_0, .int .i64 3, .int .u32 a0_2, .int .u32 a0_3, .int .u32 a0_4] 26)).alloc (.cells #[.int .u32 0, .int .u32 0, .int .u32 0] 24)).drew = .ok (.int .i64 3) ((w.alloc (.cells #[.int .u32 a0_0, .int .i64 3, .int .u32 a0_2, .int .u32 a0_3, .int .u32 a0_4] 26)).alloc (.cells #[.int .u32 a0_2, .int .u32 a0_3, .int .u32 a0_4] 24)).drew := by
      have hb := blk_new (w.alloc (.cells #[.int .u32 a0_0, .int .i64 3, .int .u32 a0_2, .int .u32 a0_3, .int .u32 a0_4] 26)) (.cells #[.int .u32 0, .int .u32 0, .int .u32 0] 24)
      rw [World.size_alloc] at hb
      have := run_copy_row (P := Try.prog) ((w.alloc (.cells #[.int .u32 a0_0, .int .i64 3, .int .u32 a0_2, .int .u32 a0_3, .int .u32 a0_4] 26)).alloc (.cells #[.int .u32 0, .int .u32 0, .int .u32 0] 24)).drew 121 121 3 23 (w.heap.size + 1) 0 3 3 ⟨w.heap.size, 2, none⟩ 3 3 #[.int .u32 0, .int .u32 0, .int .u32 0] 24 [.int .u32 a0_2, .int .u32 a0_3, .int .u32 a0_4] Try.underlying121 infou32s hb rfl (fun j v hj => by
        have hc := Base.blk_alloc (blk_new w (.cells #[.int .u32 a0_0, .int .i64 3, .int .u32 a0_2, .int .u32 a0_3, .int .u32 a0_4] 26)) (.cells #[.int .u32 0, .int .u32 0, .int .u32 0] 24)
        rw [add_at]
        have hjl := (List.getElem?_eq_some_iff.1 hj).1
        refine (blk_cell (Base.blk_drew hc) _).trans ?_
        match j, hjl with
        | 0, _ => exact hj | 1, _ => exact hj | 2, _ => exact hj) (by simp) (fun v hv => by simp at hv; rcases hv with rfl | rfl | rfl <;> rfl)
      have e := setRow_alloc (w.alloc (.cells #[.int .u32 a0_0, .int .i64 3, .int .u32 a0_2, .int .u32 a0_3, .int .u32 a0_4] 26)) #[.int .u32 0, .int .u32 0, .int .u32 0] #[.int .u32 a0_2, .int .u32 a0_3, .int .u32 a0_4] 24
      rw [World.size_alloc] at e
      exact this.trans (congrArg _ e)
    go_enter Try.func130, Try.ntmps130
    go_wp2
    refine start_ (n := 6) (S := fun w' => w'.cell? ⟨w.heap.size, 1, none⟩ = some (.int .i64 3)) (ds := []) #[false, false, false, false, false, false] (by kernel_rfl) rfl rfl ((by go_simp)) (fun hHeld => ?_)
    refine pure_ (i := 0) (N := some 3) (v := ?_) (a' := ?_) #[true, false, false, false, false, false] rfl rfl (by kernel_rfl) (fun _ _ _ h => h) (Or.inl ⟨by rfl, ?_⟩) ?_ ?_
    rotate_left
    · intro w'
      go_simp
      with_reducible rfl
    rotate_left
    · simp only [Act.put, List.setIfInBounds_toArray, List.set_cons_zero, List.set_cons_succ, i64_w, i32_w]
      rfl
    refine pure_ (i := 3) (N := some 6) (v := ?_) (a' := ?_) #[true, false, false, true, false, false] rfl rfl (by kernel_rfl) (fun _ _ _ h => h) (Or.inl ⟨by rfl, ?_⟩) ?_ ?_
    rotate_left
    · intro w'
      go_simp
      with_reducible rfl
    rotate_left
    · simp only [Act.put, List.setIfInBounds_toArray, List.set_cons_zero, List.set_cons_succ, i64_w, i32_w]
      rfl
    refine pure_ (i := 4) (N := some 7) (v := ?_) (a' := ?_) #[true, false, false, true, true, false] rfl rfl (by kernel_rfl) (fun _ _ _ h => h) (Or.inl ⟨by rfl, ?_⟩) ?_ ?_
    rotate_left
    · intro w'
      go_simp
      with_reducible rfl
    rotate_left
    · simp only [Act.put, List.setIfInBounds_toArray, List.set_cons_zero, List.set_cons_succ, i64_w, i32_w]
      rfl
    refine take_ (i := 1) (N := some 4) (v := ?_) (a' := ?_) #[true, true, false, true, true, false] rfl rfl (by kernel_rfl) (fun _ _ _ h => h) (Or.inl ⟨by rfl, ?_⟩) hHeld ?_ ?_
    rotate_left
    · intro w' s0
      go_simp
      with_reducible rfl
    rotate_left
    · simp only [Act.put, List.setIfInBounds_toArray, List.set_cons_zero, List.set_cons_succ, i64_w, i32_w]
      rfl
    refine pure_ (i := 2) (N := some 5) (v := ?_) (a' := ?_) #[true, true, true, true, true, false] rfl rfl (by kernel_rfl) (fun _ _ _ h => h) (Or.inl ⟨by rfl, ?_⟩) ?_ ?_
    rotate_left
    · intro w'
      go_simp
      with_reducible rfl
    rotate_left
    · simp only [Act.put, List.setIfInBounds_toArray, List.set_cons_zero, List.set_cons_succ, i64_w, i32_w]
      rfl
    refine one_ (i := 5) (N := some 8) #[true, true, true, true, true, true] rfl rfl (by kernel_rfl) (by decide) (fun K hK => ?_)
    refine value_ (w1 := ?_) (v := ?_) (by rfl) rfl ?_ ?_
    rotate_left 2
    · go_simp
      constructor
      · rfl
      · rfl
    refine hK.out _ _ ((by go_simp)) (fun hHeld => ?_)
    clear hK K
    refine norm_ (a' := ?_) ?_ ?_
    rotate_left
    · show Act.put _ (some 8) _ = _
      simp only [Act.put, List.setIfInBounds_toArray, List.set_cons_zero, List.set_cons_succ, i64_w, i32_w]
      rfl
    refine done_ (by kernel_rfl) ?_
    go_wp2
    exact bodyPost_ret (v := .agg #[.int .u32 a0_2, .int .u32 a0_3, .int .u32 a0_4]) (by simp [results, Try.results130, go_sem]) rfl ⟨rfl, (by repeat (first | (with_reducible first | exact HB.out | apply below_alloc | apply pw_below_drewN | apply below_drew1) | exact HB.out))⟩
set_option maxHeartbeats 1000000 in
theorem stamp_there_c (d : Int) (w : World) : Calls Try.prog 115 #[.int .i64 d] w fun e w' => e = .returned (.bool (decide (0 ≤ d ∧ d ≤ 3))) ∧ w = w' := by
  by_cases c : 0 ≤ d
  · have c0 : decide (0 ≤ d) = true := decide_eq_true c
    have HX : Aside0 (decide (0 ≤ d ∧ d ≤ 3) = decide (d ≤ 3)) := ⟨by simp [c]⟩
    clear c
    go_enter Try.func115, Try.ntmps115
    go_wp2
    go_ret
    rw [HX.out]
    exact ⟨rfl, rfl⟩
  · have c0 : decide (0 ≤ d) = false := decide_eq_false c
    have HX : Aside0 (decide (0 ≤ d ∧ d ≤ 3) = false) := ⟨by simp [c]⟩
    clear c
    go_enter Try.func115, Try.ntmps115
    go_wp2
    go_ret
    rw [HX.out]
    exact ⟨rfl, rfl⟩
/-- Is a time not behind another one? -/
def leB (a0 a1 a2 a3 a4 b0 b1 b2 b3 b4 : Int) : Bool := decide (a1 = b1 ∧ 0 ≤ a1 ∧ a1 ≤ 3 ∧ a0 ≤ b0 ∧ (0 < a1 → a2 ≤ b2) ∧ (1 < a1 → a3 ≤ b3) ∧ (2 < a1 → a4 ≤ b4))
def stamp_LE.f (a0 a1 a2 a3 a4 b0 b1 b2 b3 b4 : Int) : Option Bool := some (leB a0 a1 a2 a3 a4 b0 b1 b2 b3 b4)
set_option maxRecDepth 100000 in
set_option maxHeartbeats 4000000 in
theorem stamp_LE_c (a0 a1 a2 a3 a4 b0 b1 b2 b3 b4 : Int) (w : World) :
    Calls Try.prog 75 #[.agg #[.int .u32 a0, .int .i64 a1, .int .u32 a2, .int .u32 a3, .int .u32 a4], .agg #[.int .u32 b0, .int .i64 b1, .int .u32 b2, .int .u32 b3, .int .u32 b4]] w fun e w' => e = .returned (.bool (leB a0 a1 a2 a3 a4 b0 b1 b2 b3 b4)) ∧ Below w.heap.size w w' := by
  have HB := Aside0.mk (Below.refl w.heap.size w)
  by_cases c1 : a1 = b1
  · subst c1
    have c1b : (a1 != a1) = false := by simp
    by_cases c2 : 0 ≤ a1 ∧ a1 ≤ 3
    · by_cases c3 : a0 ≤ b0
      · have c3b : decide (b0 < a0) = false := decide_eq_false (by omega)
        obtain rfl | rfl | rfl | rfl : a1 = 0 ∨ a1 = 1 ∨ a1 = 2 ∨ a1 = 3 := by omega
        · have hs : ∀ W : World, (Instr.sliceAt 24 (.pointer (some ⟨w.heap.size, 2, none⟩)) none (some (.int .i64 0)) none).run Try.prog W = .ok (.slice (some ⟨w.heap.size, 2, none⟩) 0 3) W := fun W => sliceAt_to (P := Try.prog) Try.underlying24 infou32 (by decide) w.heap.size 2 .i64 0 (by decide) W
          have HX : Aside0 (leB a0 0 a2 a3 a4 b0 0 b2 b3 b4 = true) := ⟨by unfold leB; simp; omega⟩
          clear c2 c3 
          go_enter Try.func75, Try.ntmps75
          go_wp2_with (first | (go_at_call 115; refine (stamp_there_c _ _).mono ?_; rintro e w1 ⟨rfl, rfl⟩))
          refine wp_loop_rounds 1 ?_
          rw [rounds_succ]
          go_wp2
          go_ret
          rw [HX.out]
          exact ⟨rfl, (by repeat (first | (with_reducible first | exact HB.out | apply below_alloc | apply pw_below_drewN | apply below_drew1) | exact HB.out))⟩
        · have hs : ∀ W : World, (Instr.sliceAt 24 (.pointer (some ⟨w.heap.size, 2, none⟩)) none (some (.int .i64 1)) none).run Try.prog W = .ok (.slice (some ⟨w.heap.size, 2, none⟩) 1 3) W := fun W => sliceAt_to (P := Try.prog) Try.underlying24 infou32 (by decide) w.heap.size 2 .i64 1 (by decide) W
          by_cases k0 : a2 ≤ b2
          · have k0b : decide (b2 < a2) = false := decide_eq_false (by omega)
            have HX : Aside0 (leB a0 1 a2 a3 a4 b0 1 b2 b3 b4 = true) := ⟨by unfold leB; simp; omega⟩
            clear c2 c3 k0
            go_enter Try.func75, Try.ntmps75
            go_wp2_with (first | (go_at_call 115; refine (stamp_there_c _ _).mono ?_; rintro e w1 ⟨rfl, rfl⟩))
            refine wp_loop_rounds 2 ?_
            rw [rounds_succ]
            go_wp2
            rw [rounds_succ]
            go_wp2
            go_ret
            rw [HX.out]
            exact ⟨rfl, (by repeat (first | (with_reducible first | exact HB.out | apply below_alloc | apply pw_below_drewN | apply below_drew1) | exact HB.out))⟩
          · have k0b : decide (b2 < a2) = true := decide_eq_true (by omega)
            have HX : Aside0 (leB a0 1 a2 a3 a4 b0 1 b2 b3 b4 = false) := ⟨by unfold leB; simp; omega⟩
            clear c2 c3 k0
            go_enter Try.func75, Try.ntmps75
            go_wp2_with (first | (go_at_call 115; refine (stamp_there_c _ _).mono ?_; rintro e w1 ⟨rfl, rfl⟩))
            refine wp_loop_rounds 2 ?_
            rw [rounds_succ]
            go_wp2
            go_ret
            rw [HX.out]
            exact ⟨rfl, (by repeat (first | (with_reducible first | exact HB.out | apply below_alloc | apply pw_below_drewN | apply below_drew1) | exact HB.out))⟩
        · have hs : ∀ W : World, (Instr.sliceAt 24 (.pointer (some ⟨w.heap.size, 2, none⟩)) none (some (.int .i64 2)) none).run Try.prog W = .ok (.slice (some ⟨w.heap.size, 2, none⟩) 2 3) W := fun W => sliceAt_to (P := Try.prog) Try.underlying24 infou32 (by decide) w.heap.size 2 .i64 2 (by decide) W
          by_cases k0 : a2 ≤ b2
          · have k0b : decide (b2 < a2) = false := decide_eq_false (by omega)
            by_cases k1 : a3 ≤ b3
            · have k1b : decide (b3 < a3) = false := decide_eq_false (by omega)
              have HX : Aside0 (leB a0 2 a2 a3 a4 b0 2 b2 b3 b4 = true) := ⟨by unfold leB; simp; omega⟩
              clear c2 c3 k0 k1
              go_enter Try.func75, Try.ntmps75
              go_wp2_with (first | (go_at_call 115; refine (stamp_there_c _ _).mono ?_; rintro e w1 ⟨rfl, rfl⟩))
              refine wp_loop_rounds 3 ?_
              rw [rounds_succ]
              go_wp2
              rw [rounds_succ]
              go_wp2
              rw [rounds_succ]
              go_wp2
              go_ret
              rw [HX.out]
              exact ⟨rfl, (by repeat (first | (with_reducible first | exact HB.out | apply below_alloc | apply pw_below_drewN | apply below_drew1) | exact HB.out))⟩
            · have k1b : decide (b3 < a3) = true := decide_eq_true (by omega)
              have HX : Aside0 (leB a0 2 a2 a3 a4 b0 2 b2 b3 b4 = false) := ⟨by unfold leB; simp; omega⟩
              clear c2 c3 k0 k1
              go_enter Try.func75, Try.ntmps75
              go_wp2_with (first | (go_at_call 115; refine (stamp_there_c _ _).mono ?_; rintro e w1 ⟨rfl, rfl⟩))
              refine wp_loop_rounds 3 ?_
              rw [rounds_succ]
              go_wp2
              rw [rounds_succ]
              go_wp2
              go_ret
              rw [HX.out]
              exact ⟨rfl, (by repeat (first | (with_reducible first | exact HB.out | apply below_alloc | apply pw_below_drewN | apply below_drew1) | exact HB.out))⟩
          · have k0b : decide (b2 < a2) = true := decide_eq_true (by omega)
            have HX : Aside0 (leB a0 2 a2 a3 a4 b0 2 b2 b3 b4 = false) := ⟨by unfold leB; simp; omega⟩
            clear c2 c3 k0
            go_enter Try.func75, Try.ntmps75
            go_wp2_with (first | (go_at_call 115; refine (stamp_there_c _ _).mono ?_; rintro e w1 ⟨rfl, rfl⟩))
            refine wp_loop_rounds 3 ?_
            rw [rounds_succ]
            go_wp2
            go_ret
            rw [HX.out]
            exact ⟨rfl, (by repeat (first | (with_reducible first | exact HB.out | apply below_alloc | apply pw_below_drewN | apply below_drew1) | exact HB.out))⟩
        · have hs : ∀ W : World, (Instr.sliceAt 24 (.pointer (some ⟨w.heap.size, 2, none⟩)) none (some (.int .i64 3)) none).run Try.prog W = .ok (.slice (some ⟨w.heap.size, 2, none⟩) 3 3) W := fun W => sliceAt_to (P := Try.prog) Try.underlying24 infou32 (by decide) w.heap.size 2 .i64 3 (by decide) W
          by_cases k0 : a2 ≤ b2
          · have k0b : decide (b2 < a2) = false := decide_eq_false (by omega)
            by_cases k1 : a3 ≤ b3
            · have k1b : decide (b3 < a3) = false := decide_eq_false (by omega)
              by_cases k2 : a4 ≤ b4
              · have k2b : decide (b4 < a4) = false := decide_eq_false (by omega)
                have HX : Aside0 (leB a0 3 a2 a3 a4 b0 3 b2 b3 b4 = true) := ⟨by unfold leB; simp; omega⟩
                clear c2 c3 k0 k1 k2
                go_enter Try.func75, Try.ntmps75
                go_wp2_with (first | (go_at_call 115; refine (stamp_there_c _ _).mono ?_; rintro e w1 ⟨rfl, rfl⟩))
                refine wp_loop_rounds 4 ?_
                rw [rounds_succ]
                go_wp2
                rw [rounds_succ]
                go_wp2
                rw [rounds_succ]
                go_wp2
                rw [rounds_succ]
                go_wp2
                go_ret
                rw [HX.out]
                exact ⟨rfl, (by repeat (first | (with_reducible first | exact HB.out | apply below_alloc | apply pw_below_drewN | apply below_drew1) | exact HB.out))⟩
              · have k2b : decide (b4 < a4) = true := decide_eq_true (by omega)
                have HX : Aside0 (leB a0 3 a2 a3 a4 b0 3 b2 b3 b4 = false) := ⟨by unfold leB; simp; omega⟩
                clear c2 c3 k0 k1 k2
                go_enter Try.func75, Try.ntmps75
                go_wp2_with (first | (go_at_call 115; refine (stamp_there_c _ _).mono ?_; rintro e w1 ⟨rfl, rfl⟩))
                refine wp_loop_rounds 4 ?_
                rw [rounds_succ]
                go_wp2
                rw [rounds_succ]
                go_wp2
                rw [rounds_succ]
                go_wp2
                go_ret
                rw [HX.out]
                exact ⟨rfl, (by repeat (first | (with_reducible first | exact HB.out | apply below_alloc | apply pw_below_drewN | apply below_drew1) | exact HB.out))⟩
            · have k1b : decide (b3 < a3) = true := decide_eq_true (by omega)
              have HX : Aside0 (leB a0 3 a2 a3 a4 b0 3 b2 b3 b4 = false) := ⟨by unfold leB; simp; omega⟩
              clear c2 c3 k0 k1
              go_enter Try.func75, Try.ntmps75
              go_wp2_with (first | (go_at_call 115; refine (stamp_there_c _ _).mono ?_; rintro e w1 ⟨rfl, rfl⟩))
              refine wp_loop_rounds 4 ?_
              rw [rounds_succ]
              go_wp2
              rw [rounds_succ]
              go_wp2
              go_ret
              rw [HX.out]
              exact ⟨rfl, (by repeat (first | (with_reducible first | exact HB.out | apply below_alloc | apply pw_below_drewN | apply below_drew1) | exact HB.out))⟩
          · have k0b : decide (b2 < a2) = true := decide_eq_true (by omega)
            have HX : Aside0 (leB a0 3 a2 a3 a4 b0 3 b2 b3 b4 = false) := ⟨by unfold leB; simp; omega⟩
            clear c2 c3 k0
            go_enter Try.func75, Try.ntmps75
            go_wp2_with (first | (go_at_call 115; refine (stamp_there_c _ _).mono ?_; rintro e w1 ⟨rfl, rfl⟩))
            refine wp_loop_rounds 4 ?_
            rw [rounds_succ]
            go_wp2
            go_ret
            rw [HX.out]
            exact ⟨rfl, (by repeat (first | (with_reducible first | exact HB.out | apply below_alloc | apply pw_below_drewN | apply below_drew1) | exact HB.out))⟩
      · have c3b : decide (b0 < a0) = true := decide_eq_true (by omega)
        have HX : Aside0 (leB a0 a1 a2 a3 a4 b0 a1 b2 b3 b4 = false) := ⟨by unfold leB; simp; omega⟩
        have hth := decide_eq_true c2
        clear c2 c3
        go_enter Try.func75, Try.ntmps75
        go_wp2_with (first | (go_at_call 115; refine (stamp_there_c _ _).mono ?_; rintro e w1 ⟨rfl, rfl⟩))
        go_ret
        rw [HX.out]
        exact ⟨rfl, (by repeat (first | (with_reducible first | exact HB.out | apply below_alloc | apply pw_below_drewN | apply below_drew1) | exact HB.out))⟩
    · have hth := decide_eq_false c2
      have HX : Aside0 (leB a0 a1 a2 a3 a4 b0 a1 b2 b3 b4 = false) := ⟨by unfold leB; simp; omega⟩
      clear c2
      go_enter Try.func75, Try.ntmps75
      go_wp2_with (first | (go_at_call 115; refine (stamp_there_c _ _).mono ?_; rintro e w1 ⟨rfl, rfl⟩; rw [hth]))
      go_ret
      rw [HX.out]
      exact ⟨rfl, (by repeat (first | (with_reducible first | exact HB.out | apply below_alloc | apply pw_below_drewN | apply below_drew1) | exact HB.out))⟩
  · have c1b : (a1 != b1) = true := by simpa using c1
    have HX : Aside0 (leB a0 a1 a2 a3 a4 b0 b1 b2 b3 b4 = false) := ⟨by unfold leB; simp [c1]⟩
    clear c1
    go_enter Try.func75, Try.ntmps75
    go_wp2
    go_ret
    rw [HX.out]
    exact ⟨rfl, (by repeat (first | (with_reducible first | exact HB.out | apply below_alloc | apply pw_below_drewN | apply below_drew1) | exact HB.out))⟩
theorem stamp_LE.calls (a0_0 a0_1 a0_2 a0_3 a0_4 a1_0 a1_1 a1_2 a1_3 a1_4 : Int) (r : Bool) (w : World) (h : stamp_LE.f a0_0 a0_1 a0_2 a0_3 a0_4 a1_0 a1_1 a1_2 a1_3 a1_4 = some r) :
    Calls Try.prog 75 #[.agg #[.int .u32 a0_0, .int .i64 a0_1, .int .u32 a0_2, .int .u32 a0_3, .int .u32 a0_4], .agg #[.int .u32 a1_0, .int .i64 a1_1, .int .u32 a1_2, .int .u32 a1_3, .int .u32 a1_4]] w fun e w' => e = .returned (.bool r) ∧ Below w.heap.size w w' := by
  obtain rfl := Option.some.inj h
  exact stamp_LE_c _ _ _ _ _ _ _ _ _ _ _
end Go.Proofs.Ytljmamlceofcfaa.Ext
