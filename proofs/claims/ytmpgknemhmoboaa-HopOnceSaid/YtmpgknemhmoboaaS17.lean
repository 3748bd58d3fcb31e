import Derived.Test.YtmpgknemhmoboaaQ17hx2
import Derived.Test.YtmpgknemhmoboaaQ17hx3
import Derived.Test.YtmpgknemhmoboaaBase
import Derived.Test.YtmpgknemhmoboaaPl
/- Contracts of package hop and of the document's answer for it, by hand: Sender, whose items are a slice of its own that is cut and grows (printed by wip/senders.py). -/
namespace Go.Proofs.Ytmpgknemhmoboaa.S17
set_option linter.unusedSimpArgs false
set_option linter.unusedVariables false
open Go.RowKit Go.Proofs.YtmpgknemhmoboaaW.PrintWords Go.Proofs.YtmpgknemhmoboaaW.PrintLast Go.Proofs.YtmpgknemhmoboaaW.PrintMore Go.Proofs.Ytmpgknemhmoboaa.Base Go.Proofs.Ytmpgknemhmoboaa.Q17h Go.Proofs.Ytmpgknemhmoboaa.Pl
theorem below_le {a b : Nat} {w w' : World} (h : a ≤ b) (hb : Below b w w') : Below a w w' := ⟨hb.os, hb.tape, hb.output, hb.size, fun k hk => hb.block k (Nat.lt_of_lt_of_le hk h)⟩
def tickF (f1 f2 f4 f6 : Int) : Int × Int := if f2 = f1 then (f2, f4) else if f4 + 1 ≥ f6 then (f1, 0) else (f2, f4 + 1)
def IsA (w : World) (g : Nat) (f0 f1 f2 : Int) (A : Option Addr) (n c : Nat) (f4 f5 f6 : Int) : Prop := w.heap[g]? = some (.cells #[.int .i64 f0, .int .i64 f1, .int .i64 f2, .slice A n c, .int .i64 f4, .int .i64 f5, .int .i64 f6] 96 (0, 0))
theorem A_grown {w w' : World} {g n c : Nat} {f0 f1 f2 f4 f5 f6 : Int} {A : Option Addr} {row : Option Nat} (h : IsA w g f0 f1 f2 A n c f4 f5 f6) (hg : w.grownBy w' row) (hne : some g ≠ row) : IsA w' g f0 f1 f2 A n c f4 f5 f6 := blk_grown h hg hne
theorem A_drew {w : World} {g n c : Nat} {f0 f1 f2 f4 f5 f6 : Int} {A : Option Addr} (h : IsA w g f0 f1 f2 A n c f4 f5 f6) : IsA w.drew g f0 f1 f2 A n c f4 f5 f6 := h
theorem A_below {w w' : World} {g n c : Nat} {f0 f1 f2 f4 f5 f6 : Int} {A : Option Addr} (h : IsA w g f0 f1 f2 A n c f4 f5 f6) (hb : Below w.heap.size w w') : IsA w' g f0 f1 f2 A n c f4 f5 f6 := blk_below h hb
set_option maxHeartbeats 1000000 in
theorem A_next {w : World} {g n c : Nat} {f0 f1 f2 f4 f5 f6 : Int} {A : Option Addr} (h : IsA w g f0 f1 f2 A n c f4 f5 f6) (hb : 0 ≤ f1 ∧ f1 ≤ 1099511627776 ∧ n ≤ 64) :
    Calls Try.prog 46 #[.pointer (some ⟨g, 0, none⟩)] w fun e w' => e = .returned (.int .i64 (f1 + n + 1)) ∧ Below w.heap.size w w' := by
  have HI := Aside0.mk h
  have HB := Aside0.mk (Below.refl w.heap.size w)
  have HX : Aside0 (wrap64 (wrap64 (f1 + n) + 1) = f1 + n + 1) := ⟨by rw [w64 (x := f1 + n) (by omega) (by omega), w64 (by omega) (by omega)]⟩
  clear h hb
  go_enter Try.func46, Try.ntmps46
  go_wp2
  refine start_ (n := 12) (S := fun w' => w'.cell? ⟨g, 1, none⟩ = some (.int .i64 f1) ∧ w'.cell? ⟨g, 3, none⟩ = some (.slice A n c)) (ds := []) #[false, false, false, false, false, false, false, false, false, false, false, false] (by kernel_rfl) rfl rfl ⟨blk_at (i := 1) (HI.out) rfl, blk_at (i := 3) (HI.out) rfl⟩ (fun hHeld => ?_)
  refine pure_ (i := 0) (N := some 3) (v := ?_) (a' := ?_) #[true, false, false, false, false, false, false, false, false, false, false, false] rfl rfl (by kernel_rfl) (fun _ _ _ h => h) (Or.inl ⟨by rfl, ?_⟩) ?_ ?_
  rotate_left
  · intro w'
    go_simp
    with_reducible rfl
  rotate_left
  · simp only [Act.put, List.setIfInBounds_toArray, List.set_cons_zero, List.set_cons_succ, i64_w, i32_w]
    rfl
  refine pure_ (i := 1) (N := some 4) (v := ?_) (a' := ?_) #[true, true, false, false, false, false, false, false, false, false, false, false] rfl rfl (by kernel_rfl) (fun _ _ _ h => h) (Or.inl ⟨by rfl, ?_⟩) ?_ ?_
  rotate_left
  · intro w'
    go_simp
    with_reducible rfl
  rotate_left
  · simp only [Act.put, List.setIfInBounds_toArray, List.set_cons_zero, List.set_cons_succ, i64_w, i32_w]
    rfl
  refine pure_ (i := 2) (N := some 5) (v := ?_) (a' := ?_) #[true, true, true, false, false, false, false, false, false, false, false, false] rfl rfl (by kernel_rfl) (fun _ _ _ h => h) (Or.inl ⟨by rfl, ?_⟩) ?_ ?_
  rotate_left
  · intro w'
    go_simp
    with_reducible rfl
  rotate_left
  · simp only [Act.put, List.setIfInBounds_toArray, List.set_cons_zero, List.set_cons_succ, i64_w, i32_w]
    rfl
  refine pure_ (i := 4) (N := some 7) (v := ?_) (a' := ?_) #[true, true, true, false, true, false, false, false, false, false, false, false] rfl rfl (by kernel_rfl) (fun _ _ _ h => h) (Or.inl ⟨by rfl, ?_⟩) ?_ ?_
  rotate_left
  · intro w'
    go_simp
    with_reducible rfl
  rotate_left
  · simp only [Act.put, List.setIfInBounds_toArray, List.set_cons_zero, List.set_cons_succ, i64_w, i32_w]
    rfl
  refine pure_ (i := 5) (N := some 8) (v := ?_) (a' := ?_) #[true, true, true, false, true, true, false, false, false, false, false, false] rfl rfl (by kernel_rfl) (fun _ _ _ h => h) (Or.inl ⟨by rfl, ?_⟩) ?_ ?_
  rotate_left
  · intro w'
    go_simp
    with_reducible rfl
  rotate_left
  · simp only [Act.put, List.setIfInBounds_toArray, List.set_cons_zero, List.set_cons_succ, i64_w, i32_w]
    rfl
  refine pure_ (i := 6) (N := some 9) (v := ?_) (a' := ?_) #[true, true, true, false, true, true, true, false, false, false, false, false] rfl rfl (by kernel_rfl) (fun _ _ _ h => h) (Or.inl ⟨by rfl, ?_⟩) ?_ ?_
  rotate_left
  · intro w'
    go_simp
    with_reducible rfl
  rotate_left
  · simp only [Act.put, List.setIfInBounds_toArray, List.set_cons_zero, List.set_cons_succ, i64_w, i32_w]
    rfl
  refine take_ (i := 3) (N := some 6) (v := ?_) (a' := ?_) #[true, true, true, true, true, true, true, false, false, false, false, false] rfl rfl (by kernel_rfl) (fun _ _ _ h => h) (Or.inl ⟨by rfl, ?_⟩) hHeld ?_ ?_
  rotate_left
  · rintro w' ⟨s0, s1⟩
    go_simp
    with_reducible rfl
  rotate_left
  · simp only [Act.put, List.setIfInBounds_toArray, List.set_cons_zero, List.set_cons_succ, i64_w, i32_w]
    rfl
  refine take_ (i := 7) (N := some 10) (v := ?_) (a' := ?_) #[true, true, true, true, true, true, true, true, false, false, false, false] rfl rfl (by kernel_rfl) (fun _ _ _ h => h) (Or.inl ⟨by rfl, ?_⟩) hHeld ?_ ?_
  rotate_left
  · rintro w' ⟨s0, s1⟩
    go_simp
    with_reducible rfl
  rotate_left
  · simp only [Act.put, List.setIfInBounds_toArray, List.set_cons_zero, List.set_cons_succ, i64_w, i32_w]
    rfl
  refine pure_ (i := 8) (N := some 11) (v := ?_) (a' := ?_) #[true, true, true, true, true, true, true, true, true, false, false, false] rfl rfl (by kernel_rfl) (fun _ _ _ h => h) (Or.inl ⟨by rfl, ?_⟩) ?_ ?_
  rotate_left
  · intro w'
    go_simp
    with_reducible rfl
  rotate_left
  · simp only [Act.put, List.setIfInBounds_toArray, List.set_cons_zero, List.set_cons_succ, i64_w, i32_w]
    rfl
  refine pure_ (i := 9) (N := some 12) (v := ?_) (a' := ?_) #[true, true, true, true, true, true, true, true, true, true, false, false] rfl rfl (by kernel_rfl) (fun _ _ _ h => h) (Or.inl ⟨by rfl, ?_⟩) ?_ ?_
  rotate_left
  · intro w'
    go_simp
    with_reducible rfl
  rotate_left
  · simp only [Act.put, List.setIfInBounds_toArray, List.set_cons_zero, List.set_cons_succ, i64_w, i32_w]
    rfl
  refine pure_ (i := 10) (N := some 13) (v := ?_) (a' := ?_) #[true, true, true, true, true, true, true, true, true, true, true, false] rfl rfl (by kernel_rfl) (fun _ _ _ h => h) (Or.inl ⟨by rfl, ?_⟩) ?_ ?_
  rotate_left
  · intro w'
    go_simp
    with_reducible rfl
  rotate_left
  · simp only [Act.put, List.setIfInBounds_toArray, List.set_cons_zero, List.set_cons_succ, i64_w, i32_w]
    rfl
  refine pure_ (i := 11) (N := some 2) (v := ?_) (a' := ?_) #[true, true, true, true, true, true, true, true, true, true, true, true] rfl rfl (by kernel_rfl) (fun _ _ _ h => h) (Or.inl ⟨by rfl, ?_⟩) ?_ ?_
  rotate_left
  · intro w'
    go_simp
    with_reducible rfl
  rotate_left
  · simp only [Act.put, List.setIfInBounds_toArray, List.set_cons_zero, List.set_cons_succ, i64_w, i32_w]
    rfl
  refine done_ (by kernel_rfl) ?_
  go_wp2
  go_ret
  exact ⟨by rw [← HX.out]; rfl, (by repeat (first | (with_reducible first | exact HB.out | apply below_alloc | apply pw_below_drewN | apply below_drew1) | exact HB.out))⟩
set_option maxHeartbeats 2000000 in
theorem A_Tick {w : World} {g n c : Nat} {f0 f1 f2 f4 f5 f6 : Int} {A : Option Addr} (h : IsA w g f0 f1 f2 A n c f4 f5 f6) (hb : 0 ≤ f4 ∧ f4 ≤ 1000) :
    Calls Try.prog 23 #[.pointer (some ⟨g, 0, none⟩)] w fun e w' => e = .returned (.tuple #[]) ∧ IsA w' g f0 f1 (tickF f1 f2 f4 f6).1 A n c (tickF f1 f2 f4 f6).2 f5 f6 ∧ Upd (· = g) w w' := by
  have HI := Aside0.mk h
  have h1 := hb.1
  have h2 := hb.2
  have hc1 : w.cell? ⟨g, 1, none⟩ = some (.int .i64 f1) := blk_at h (i := 1) rfl
  have hc4 : w.cell? ⟨g, 4, none⟩ = some (.int .i64 f4) := blk_at h (i := 4) rfl
  have hc2 : w.cell? ⟨g, 2, none⟩ = some (.int .i64 f2) := blk_at h (i := 2) rfl
  have hf2 := blk_frozen h 2
  have hf4 := blk_frozen h 4
  clear h hb
  by_cases c1 : f2 = f1
  · have e1 : (f2 == f1) = true := beq_iff_eq.2 c1
    have HX : Aside0 (tickF f1 f2 f4 f6 = (f2, f4)) := ⟨by unfold tickF; rw [if_pos c1]⟩
    clear c1
    go_enter Try.func23, Try.ntmps23
    try go_wp2
    refine start_ (n := 9) (S := fun w' => w'.cell? ⟨g, 2, none⟩ = some (.int .i64 f2) ∧ w'.cell? ⟨g, 1, none⟩ = some (.int .i64 f1)) (ds := []) #[false, false, false, false, false, false, false, false, false] (by kernel_rfl) rfl rfl ⟨blk_at (i := 2) (HI.out) rfl, blk_at (i := 1) (HI.out) rfl⟩ (fun hHeld => ?_)
    refine pure_ (i := 0) (N := some 2) (v := ?_) (a' := ?_) #[true, false, false, false, false, false, false, false, false] rfl rfl (by kernel_rfl) (fun _ _ _ h => h) (Or.inl ⟨by rfl, ?_⟩) ?_ ?_
    rotate_left
    · intro w'
      go_simp
      with_reducible rfl
    rotate_left
    · simp only [Act.put, List.setIfInBounds_toArray, List.set_cons_zero, List.set_cons_succ, i64_w, i32_w]
      rfl
    refine pure_ (i := 1) (N := some 3) (v := ?_) (a' := ?_) #[true, true, false, false, false, false, false, false, false] rfl rfl (by kernel_rfl) (fun _ _ _ h => h) (Or.inl ⟨by rfl, ?_⟩) ?_ ?_
    rotate_left
    · intro w'
      go_simp
      with_reducible rfl
    rotate_left
    · simp only [Act.put, List.setIfInBounds_toArray, List.set_cons_zero, List.set_cons_succ, i64_w, i32_w]
      rfl
    refine pure_ (i := 2) (N := some 4) (v := ?_) (a' := ?_) #[true, true, true, false, false, false, false, false, false] rfl rfl (by kernel_rfl) (fun _ _ _ h => h) (Or.inl ⟨by rfl, ?_⟩) ?_ ?_
    rotate_left
    · intro w'
      go_simp
      with_reducible rfl
    rotate_left
    · simp only [Act.put, List.setIfInBounds_toArray, List.set_cons_zero, List.set_cons_succ, i64_w, i32_w]
      rfl
    refine pure_ (i := 4) (N := some 6) (v := ?_) (a' := ?_) #[true, true, true, false, true, false, false, false, false] rfl rfl (by kernel_rfl) (fun _ _ _ h => h) (Or.inl ⟨by rfl, ?_⟩) ?_ ?_
    rotate_left
    · intro w'
      go_simp
      with_reducible rfl
    rotate_left
    · simp only [Act.put, List.setIfInBounds_toArray, List.set_cons_zero, List.set_cons_succ, i64_w, i32_w]
      rfl
    refine pure_ (i := 5) (N := some 7) (v := ?_) (a' := ?_) #[true, true, true, false, true, true, false, false, false] rfl rfl (by kernel_rfl) (fun _ _ _ h => h) (Or.inl ⟨by rfl, ?_⟩) ?_ ?_
    rotate_left
    · intro w'
      go_simp
      with_reducible rfl
    rotate_left
    · simp only [Act.put, List.setIfInBounds_toArray, List.set_cons_zero, List.set_cons_succ, i64_w, i32_w]
      rfl
    refine pure_ (i := 6) (N := some 8) (v := ?_) (a' := ?_) #[true, true, true, false, true, true, true, false, false] rfl rfl (by kernel_rfl) (fun _ _ _ h => h) (Or.inl ⟨by rfl, ?_⟩) ?_ ?_
    rotate_left
    · intro w'
      go_simp
      with_reducible rfl
    rotate_left
    · simp only [Act.put, List.setIfInBounds_toArray, List.set_cons_zero, List.set_cons_succ, i64_w, i32_w]
      rfl
    refine take_ (i := 3) (N := some 5) (v := ?_) (a' := ?_) #[true, true, true, true, true, true, true, false, false] rfl rfl (by kernel_rfl) (fun _ _ _ h => h) (Or.inl ⟨by rfl, ?_⟩) hHeld ?_ ?_
    rotate_left
    · rintro w' ⟨s0, s1⟩
      go_simp
      with_reducible rfl
    rotate_left
    · simp only [Act.put, List.setIfInBounds_toArray, List.set_cons_zero, List.set_cons_succ, i64_w, i32_w]
      rfl
    refine take_ (i := 7) (N := some 9) (v := ?_) (a' := ?_) #[true, true, true, true, true, true, true, true, false] rfl rfl (by kernel_rfl) (fun _ _ _ h => h) (Or.inl ⟨by rfl, ?_⟩) hHeld ?_ ?_
    rotate_left
    · rintro w' ⟨s0, s1⟩
      go_simp
      with_reducible rfl
    rotate_left
    · simp only [Act.put, List.setIfInBounds_toArray, List.set_cons_zero, List.set_cons_succ, i64_w, i32_w]
      rfl
    refine pure_ (i := 8) (N := some 10) (v := ?_) (a' := ?_) #[true, true, true, true, true, true, true, true, true] rfl rfl (by kernel_rfl) (fun _ _ _ h => h) (Or.inl ⟨by rfl, ?_⟩) ?_ ?_
    rotate_left
    · intro w'
      go_simp
      with_reducible rfl
    rotate_left
    · simp only [Act.put, List.setIfInBounds_toArray, List.set_cons_zero, List.set_cons_succ, i64_w, i32_w]
      rfl
    refine done_ (by kernel_rfl) ?_
    go_wp2
    first | go_end0 | ((try simp only [Exit.inBlock, Exit.then]); refine bodyPost_ret (results_none rfl _ _ _) rfl ?_)
    rw [HX.out]
    exact ⟨rfl, HI.out, by repeat (first | exact Upd.refl _ _ | exact Upd.of_below HB1.out | apply Upd.drewN | apply Upd.drew | (refine Upd.setCell ?_ ?_ _; rotate_left; · (intro _; rfl)))⟩
  · have e1 : (f2 == f1) = false := beq_eq_false_iff_ne.2 c1
    by_cases c2 : f4 + 1 ≥ f6
    · have e2 : decide (f4 + 1 ≥ f6) = true := decide_eq_true c2
      have HX : Aside0 (tickF f1 f2 f4 f6 = (f1, 0)) := ⟨by unfold tickF; rw [if_neg c1, if_pos c2]⟩
      clear c1 c2
      go_enter Try.func23, Try.ntmps23
      try go_wp2
      refine start_ (n := 9) (S := fun w' => w'.cell? ⟨g, 2, none⟩ = some (.int .i64 f2) ∧ w'.cell? ⟨g, 1, none⟩ = some (.int .i64 f1)) (ds := []) #[false, false, false, false, false, false, false, false, false] (by kernel_rfl) rfl rfl ⟨blk_at (i := 2) (HI.out) rfl, blk_at (i := 1) (HI.out) rfl⟩ (fun hHeld => ?_)
      refine pure_ (i := 0) (N := some 2) (v := ?_) (a' := ?_) #[true, false, false, false, false, false, false, false, false] rfl rfl (by kernel_rfl) (fun _ _ _ h => h) (Or.inl ⟨by rfl, ?_⟩) ?_ ?_
      rotate_left
      · intro w'
        go_simp
        with_reducible rfl
      rotate_left
      · simp only [Act.put, List.setIfInBounds_toArray, List.set_cons_zero, List.set_cons_succ, i64_w, i32_w]
        rfl
      refine pure_ (i := 1) (N := some 3) (v := ?_) (a' := ?_) #[true, true, false, false, false, false, false, false, false] rfl rfl (by kernel_rfl) (fun _ _ _ h => h) (Or.inl ⟨by rfl, ?_⟩) ?_ ?_
      rotate_left
      · intro w'
        go_simp
        with_reducible rfl
      rotate_left
      · simp only [Act.put, List.setIfInBounds_toArray, List.set_cons_zero, List.set_cons_succ, i64_w, i32_w]
        rfl
      refine pure_ (i := 2) (N := some 4) (v := ?_) (a' := ?_) #[true, true, true, false, false, false, false, false, false] rfl rfl (by kernel_rfl) (fun _ _ _ h => h) (Or.inl ⟨by rfl, ?_⟩) ?_ ?_
      rotate_left
      · intro w'
        go_simp
        with_reducible rfl
      rotate_left
      · simp only [Act.put, List.setIfInBounds_toArray, List.set_cons_zero, List.set_cons_succ, i64_w, i32_w]
        rfl
      refine pure_ (i := 4) (N := some 6) (v := ?_) (a' := ?_) #[true, true, true, false, true, false, false, false, false] rfl rfl (by kernel_rfl) (fun _ _ _ h => h) (Or.inl ⟨by rfl, ?_⟩) ?_ ?_
      rotate_left
      · intro w'
        go_simp
        with_reducible rfl
      rotate_left
      · simp only [Act.put, List.setIfInBounds_toArray, List.set_cons_zero, List.set_cons_succ, i64_w, i32_w]
        rfl
      refine pure_ (i := 5) (N := some 7) (v := ?_) (a' := ?_) #[true, true, true, false, true, true, false, false, false] rfl rfl (by kernel_rfl) (fun _ _ _ h => h) (Or.inl ⟨by rfl, ?_⟩) ?_ ?_
      rotate_left
      · intro w'
        go_simp
        with_reducible rfl
      rotate_left
      · simp only [Act.put, List.setIfInBounds_toArray, List.set_cons_zero, List.set_cons_succ, i64_w, i32_w]
        rfl
      refine pure_ (i := 6) (N := some 8) (v := ?_) (a' := ?_) #[true, true, true, false, true, true, true, false, false] rfl rfl (by kernel_rfl) (fun _ _ _ h => h) (Or.inl ⟨by rfl, ?_⟩) ?_ ?_
      rotate_left
      · intro w'
        go_simp
        with_reducible rfl
      rotate_left
      · simp only [Act.put, List.setIfInBounds_toArray, List.set_cons_zero, List.set_cons_succ, i64_w, i32_w]
        rfl
      refine take_ (i := 3) (N := some 5) (v := ?_) (a' := ?_) #[true, true, true, true, true, true, true, false, false] rfl rfl (by kernel_rfl) (fun _ _ _ h => h) (Or.inl ⟨by rfl, ?_⟩) hHeld ?_ ?_
      rotate_left
      · rintro w' ⟨s0, s1⟩
        go_simp
        with_reducible rfl
      rotate_left
      · simp only [Act.put, List.setIfInBounds_toArray, List.set_cons_zero, List.set_cons_succ, i64_w, i32_w]
        rfl
      refine take_ (i := 7) (N := some 9) (v := ?_) (a' := ?_) #[true, true, true, true, true, true, true, true, false] rfl rfl (by kernel_rfl) (fun _ _ _ h => h) (Or.inl ⟨by rfl, ?_⟩) hHeld ?_ ?_
      rotate_left
      · rintro w' ⟨s0, s1⟩
        go_simp
        with_reducible rfl
      rotate_left
      · simp only [Act.put, List.setIfInBounds_toArray, List.set_cons_zero, List.set_cons_succ, i64_w, i32_w]
        rfl
      refine pure_ (i := 8) (N := some 10) (v := ?_) (a' := ?_) #[true, true, true, true, true, true, true, true, true] rfl rfl (by kernel_rfl) (fun _ _ _ h => h) (Or.inl ⟨by rfl, ?_⟩) ?_ ?_
      rotate_left
      · intro w'
        go_simp
        with_reducible rfl
      rotate_left
      · simp only [Act.put, List.setIfInBounds_toArray, List.set_cons_zero, List.set_cons_succ, i64_w, i32_w]
        rfl
      refine done_ (by kernel_rfl) ?_
      go_wp2
      refine start_ (n := 9) (S := fun w' => w'.cell? ⟨g, 4, none⟩ = some (.int .i64 (f4 + 1)) ∧ w'.cell? ⟨g, 6, none⟩ = some (.int .i64 f6)) (ds := []) #[false, false, false, false, false, false, false, false, false] (by kernel_rfl) rfl rfl ⟨blk_at (i := 4) (blk_set HI.out 4 _) rfl, blk_at (i := 6) (blk_set HI.out 4 _) rfl⟩ (fun hHeld => ?_)
      refine pure_ (i := 0) (N := some 18) (v := ?_) (a' := ?_) #[true, false, false, false, false, false, false, false, false] rfl rfl (by kernel_rfl) (fun _ _ _ h => h) (Or.inl ⟨by rfl, ?_⟩) ?_ ?_
      rotate_left
      · intro w'
        go_simp
        with_reducible rfl
      rotate_left
      · simp only [Act.put, List.setIfInBounds_toArray, List.set_cons_zero, List.set_cons_succ, i64_w, i32_w]
        rfl
      refine pure_ (i := 1) (N := some 19) (v := ?_) (a' := ?_) #[true, true, false, false, false, false, false, false, false] rfl rfl (by kernel_rfl) (fun _ _ _ h => h) (Or.inl ⟨by rfl, ?_⟩) ?_ ?_
      rotate_left
      · intro w'
        go_simp
        with_reducible rfl
      rotate_left
      · simp only [Act.put, List.setIfInBounds_toArray, List.set_cons_zero, List.set_cons_succ, i64_w, i32_w]
        rfl
      refine pure_ (i := 2) (N := some 20) (v := ?_) (a' := ?_) #[true, true, true, false, false, false, false, false, false] rfl rfl (by kernel_rfl) (fun _ _ _ h => h) (Or.inl ⟨by rfl, ?_⟩) ?_ ?_
      rotate_left
      · intro w'
        go_simp
        with_reducible rfl
      rotate_left
      · simp only [Act.put, List.setIfInBounds_toArray, List.set_cons_zero, List.set_cons_succ, i64_w, i32_w]
        rfl
      refine pure_ (i := 4) (N := some 22) (v := ?_) (a' := ?_) #[true, true, true, false, true, false, false, false, false] rfl rfl (by kernel_rfl) (fun _ _ _ h => h) (Or.inl ⟨by rfl, ?_⟩) ?_ ?_
      rotate_left
      · intro w'
        go_simp
        with_reducible rfl
      rotate_left
      · simp only [Act.put, List.setIfInBounds_toArray, List.set_cons_zero, List.set_cons_succ, i64_w, i32_w]
        rfl
      refine pure_ (i := 5) (N := some 23) (v := ?_) (a' := ?_) #[true, true, true, false, true, true, false, false, false] rfl rfl (by kernel_rfl) (fun _ _ _ h => h) (Or.inl ⟨by rfl, ?_⟩) ?_ ?_
      rotate_left
      · intro w'
        go_simp
        with_reducible rfl
      rotate_left
      · simp only [Act.put, List.setIfInBounds_toArray, List.set_cons_zero, List.set_cons_succ, i64_w, i32_w]
        rfl
      refine pure_ (i := 6) (N := some 24) (v := ?_) (a' := ?_) #[true, true, true, false, true, true, true, false, false] rfl rfl (by kernel_rfl) (fun _ _ _ h => h) (Or.inl ⟨by rfl, ?_⟩) ?_ ?_
      rotate_left
      · intro w'
        go_simp
        with_reducible rfl
      rotate_left
      · simp only [Act.put, List.setIfInBounds_toArray, List.set_cons_zero, List.set_cons_succ, i64_w, i32_w]
        rfl
      refine take_ (i := 3) (N := some 21) (v := ?_) (a' := ?_) #[true, true, true, true, true, true, true, false, false] rfl rfl (by kernel_rfl) (fun _ _ _ h => h) (Or.inl ⟨by rfl, ?_⟩) hHeld ?_ ?_
      rotate_left
      · rintro w' ⟨s0, s1⟩
        go_simp
        with_reducible rfl
      rotate_left
      · simp only [Act.put, List.setIfInBounds_toArray, List.set_cons_zero, List.set_cons_succ, i64_w, i32_w]
        rfl
      refine take_ (i := 7) (N := some 25) (v := ?_) (a' := ?_) #[true, true, true, true, true, true, true, true, false] rfl rfl (by kernel_rfl) (fun _ _ _ h => h) (Or.inl ⟨by rfl, ?_⟩) hHeld ?_ ?_
      rotate_left
      · rintro w' ⟨s0, s1⟩
        go_simp
        with_reducible rfl
      rotate_left
      · simp only [Act.put, List.setIfInBounds_toArray, List.set_cons_zero, List.set_cons_succ, i64_w, i32_w]
        rfl
      refine pure_ (i := 8) (N := some 26) (v := ?_) (a' := ?_) #[true, true, true, true, true, true, true, true, true] rfl rfl (by kernel_rfl) (fun _ _ _ h => h) (Or.inl ⟨by rfl, ?_⟩) ?_ ?_
      rotate_left
      · intro w'
        go_simp
        with_reducible rfl
      rotate_left
      · simp only [Act.put, List.setIfInBounds_toArray, List.set_cons_zero, List.set_cons_succ, i64_w, i32_w]
        rfl
      refine done_ (by kernel_rfl) ?_
      go_wp2
      first | go_end0 | ((try simp only [Exit.inBlock, Exit.then]); refine bodyPost_ret (results_none rfl _ _ _) rfl ?_)
      rw [HX.out]
      exact ⟨rfl, blk_set (blk_set (blk_set HI.out 4 _) 2 _) 4 _, by repeat (first | exact Upd.refl _ _ | exact Upd.of_below HB1.out | apply Upd.drewN | apply Upd.drew | (refine Upd.setCell ?_ ?_ _; rotate_left; · (intro _; rfl)))⟩
    · have e2 : decide (f4 + 1 ≥ f6) = false := decide_eq_false c2
      have HX : Aside0 (tickF f1 f2 f4 f6 = (f2, f4 + 1)) := ⟨by unfold tickF; rw [if_neg c1, if_neg c2]⟩
      clear c1 c2
      go_enter Try.func23, Try.ntmps23
      try go_wp2
      refine start_ (n := 9) (S := fun w' => w'.cell? ⟨g, 2, none⟩ = some (.int .i64 f2) ∧ w'.cell? ⟨g, 1, none⟩ = some (.int .i64 f1)) (ds := []) #[false, false, false, false, false, false, false, false, false] (by kernel_rfl) rfl rfl ⟨blk_at (i := 2) (HI.out) rfl, blk_at (i := 1) (HI.out) rfl⟩ (fun hHeld => ?_)
      refine pure_ (i := 0) (N := some 2) (v := ?_) (a' := ?_) #[true, false, false, false, false, false, false, false, false] rfl rfl (by kernel_rfl) (fun _ _ _ h => h) (Or.inl ⟨by rfl, ?_⟩) ?_ ?_
      rotate_left
      · intro w'
        go_simp
        with_reducible rfl
      rotate_left
      · simp only [Act.put, List.setIfInBounds_toArray, List.set_cons_zero, List.set_cons_succ, i64_w, i32_w]
        rfl
      refine pure_ (i := 1) (N := some 3) (v := ?_) (a' := ?_) #[true, true, false, false, false, false, false, false, false] rfl rfl (by kernel_rfl) (fun _ _ _ h => h) (Or.inl ⟨by rfl, ?_⟩) ?_ ?_
      rotate_left
      · intro w'
        go_simp
        with_reducible rfl
      rotate_left
      · simp only [Act.put, List.setIfInBounds_toArray, List.set_cons_zero, List.set_cons_succ, i64_w, i32_w]
        rfl
      refine pure_ (i := 2) (N := some 4) (v := ?_) (a' := ?_) #[true, true, true, false, false, false, false, false, false] rfl rfl (by kernel_rfl) (fun _ _ _ h => h) (Or.inl ⟨by rfl, ?_⟩) ?_ ?_
      rotate_left
      · intro w'
        go_simp
        with_reducible rfl
      rotate_left
      · simp only [Act.put, List.setIfInBounds_toArray, List.set_cons_zero, List.set_cons_succ, i64_w, i32_w]
        rfl
      refine pure_ (i := 4) (N := some 6) (v := ?_) (a' := ?_) #[true, true, true, false, true, false, false, false, false] rfl rfl (by kernel_rfl) (fun _ _ _ h => h) (Or.inl ⟨by rfl, ?_⟩) ?_ ?_
      rotate_left
      · intro w'
        go_simp
        with_reducible rfl
      rotate_left
      · simp only [Act.put, List.setIfInBounds_toArray, List.set_cons_zero, List.set_cons_succ, i64_w, i32_w]
        rfl
      refine pure_ (i := 5) (N := some 7) (v := ?_) (a' := ?_) #[true, true, true, false, true, true, false, false, false] rfl rfl (by kernel_rfl) (fun _ _ _ h => h) (Or.inl ⟨by rfl, ?_⟩) ?_ ?_
      rotate_left
      · intro w'
        go_simp
        with_reducible rfl
      rotate_left
      · simp only [Act.put, List.setIfInBounds_toArray, List.set_cons_zero, List.set_cons_succ, i64_w, i32_w]
        rfl
      refine pure_ (i := 6) (N := some 8) (v := ?_) (a' := ?_) #[true, true, true, false, true, true, true, false, false] rfl rfl (by kernel_rfl) (fun _ _ _ h => h) (Or.inl ⟨by rfl, ?_⟩) ?_ ?_
      rotate_left
      · intro w'
        go_simp
        with_reducible rfl
      rotate_left
      · simp only [Act.put, List.setIfInBounds_toArray, List.set_cons_zero, List.set_cons_succ, i64_w, i32_w]
        rfl
      refine take_ (i := 3) (N := some 5) (v := ?_) (a' := ?_) #[true, true, true, true, true, true, true, false, false] rfl rfl (by kernel_rfl) (fun _ _ _ h => h) (Or.inl ⟨by rfl, ?_⟩) hHeld ?_ ?_
      rotate_left
      · rintro w' ⟨s0, s1⟩
        go_simp
        with_reducible rfl
      rotate_left
      · simp only [Act.put, List.setIfInBounds_toArray, List.set_cons_zero, List.set_cons_succ, i64_w, i32_w]
        rfl
      refine take_ (i := 7) (N := some 9) (v := ?_) (a' := ?_) #[true, true, true, true, true, true, true, true, false] rfl rfl (by kernel_rfl) (fun _ _ _ h => h) (Or.inl ⟨by rfl, ?_⟩) hHeld ?_ ?_
      rotate_left
      · rintro w' ⟨s0, s1⟩
        go_simp
        with_reducible rfl
      rotate_left
      · simp only [Act.put, List.setIfInBounds_toArray, List.set_cons_zero, List.set_cons_succ, i64_w, i32_w]
        rfl
      refine pure_ (i := 8) (N := some 10) (v := ?_) (a' := ?_) #[true, true, true, true, true, true, true, true, true] rfl rfl (by kernel_rfl) (fun _ _ _ h => h) (Or.inl ⟨by rfl, ?_⟩) ?_ ?_
      rotate_left
      · intro w'
        go_simp
        with_reducible rfl
      rotate_left
      · simp only [Act.put, List.setIfInBounds_toArray, List.set_cons_zero, List.set_cons_succ, i64_w, i32_w]
        rfl
      refine done_ (by kernel_rfl) ?_
      go_wp2
      refine start_ (n := 9) (S := fun w' => w'.cell? ⟨g, 4, none⟩ = some (.int .i64 (f4 + 1)) ∧ w'.cell? ⟨g, 6, none⟩ = some (.int .i64 f6)) (ds := []) #[false, false, false, false, false, false, false, false, false] (by kernel_rfl) rfl rfl ⟨blk_at (i := 4) (blk_set HI.out 4 _) rfl, blk_at (i := 6) (blk_set HI.out 4 _) rfl⟩ (fun hHeld => ?_)
      refine pure_ (i := 0) (N := some 18) (v := ?_) (a' := ?_) #[true, false, false, false, false, false, false, false, false] rfl rfl (by kernel_rfl) (fun _ _ _ h => h) (Or.inl ⟨by rfl, ?_⟩) ?_ ?_
      rotate_left
      · intro w'
        go_simp
        with_reducible rfl
      rotate_left
      · simp only [Act.put, List.setIfInBounds_toArray, List.set_cons_zero, List.set_cons_succ, i64_w, i32_w]
        rfl
      refine pure_ (i := 1) (N := some 19) (v := ?_) (a' := ?_) #[true, true, false, false, false, false, false, false, false] rfl rfl (by kernel_rfl) (fun _ _ _ h => h) (Or.inl ⟨by rfl, ?_⟩) ?_ ?_
      rotate_left
      · intro w'
        go_simp
        with_reducible rfl
      rotate_left
      · simp only [Act.put, List.setIfInBounds_toArray, List.set_cons_zero, List.set_cons_succ, i64_w, i32_w]
        rfl
      refine pure_ (i := 2) (N := some 20) (v := ?_) (a' := ?_) #[true, true, true, false, false, false, false, false, false] rfl rfl (by kernel_rfl) (fun _ _ _ h => h) (Or.inl ⟨by rfl, ?_⟩) ?_ ?_
      rotate_left
      · intro w'
        go_simp
        with_reducible rfl
      rotate_left
      · simp only [Act.put, List.setIfInBounds_toArray, List.set_cons_zero, List.set_cons_succ, i64_w, i32_w]
        rfl
      refine pure_ (i := 4) (N := some 22) (v := ?_) (a' := ?_) #[true, true, true, false, true, false, false, false, false] rfl rfl (by kernel_rfl) (fun _ _ _ h => h) (Or.inl ⟨by rfl, ?_⟩) ?_ ?_
      rotate_left
      · intro w'
        go_simp
        with_reducible rfl
      rotate_left
      · simp only [Act.put, List.setIfInBounds_toArray, List.set_cons_zero, List.set_cons_succ, i64_w, i32_w]
        rfl
      refine pure_ (i := 5) (N := some 23) (v := ?_) (a' := ?_) #[true, true, true, false, true, true, false, false, false] rfl rfl (by kernel_rfl) (fun _ _ _ h => h) (Or.inl ⟨by rfl, ?_⟩) ?_ ?_
      rotate_left
      · intro w'
        go_simp
        with_reducible rfl
      rotate_left
      · simp only [Act.put, List.setIfInBounds_toArray, List.set_cons_zero, List.set_cons_succ, i64_w, i32_w]
        rfl
      refine pure_ (i := 6) (N := some 24) (v := ?_) (a' := ?_) #[true, true, true, false, true, true, true, false, false] rfl rfl (by kernel_rfl) (fun _ _ _ h => h) (Or.inl ⟨by rfl, ?_⟩) ?_ ?_
      rotate_left
      · intro w'
        go_simp
        with_reducible rfl
      rotate_left
      · simp only [Act.put, List.setIfInBounds_toArray, List.set_cons_zero, List.set_cons_succ, i64_w, i32_w]
        rfl
      refine take_ (i := 3) (N := some 21) (v := ?_) (a' := ?_) #[true, true, true, true, true, true, true, false, false] rfl rfl (by kernel_rfl) (fun _ _ _ h => h) (Or.inl ⟨by rfl, ?_⟩) hHeld ?_ ?_
      rotate_left
      · rintro w' ⟨s0, s1⟩
        go_simp
        with_reducible rfl
      rotate_left
      · simp only [Act.put, List.setIfInBounds_toArray, List.set_cons_zero, List.set_cons_succ, i64_w, i32_w]
        rfl
      refine take_ (i := 7) (N := some 25) (v := ?_) (a' := ?_) #[true, true, true, true, true, true, true, true, false] rfl rfl (by kernel_rfl) (fun _ _ _ h => h) (Or.inl ⟨by rfl, ?_⟩) hHeld ?_ ?_
      rotate_left
      · rintro w' ⟨s0, s1⟩
        go_simp
        with_reducible rfl
      rotate_left
      · simp only [Act.put, List.setIfInBounds_toArray, List.set_cons_zero, List.set_cons_succ, i64_w, i32_w]
        rfl
      refine pure_ (i := 8) (N := some 26) (v := ?_) (a' := ?_) #[true, true, true, true, true, true, true, true, true] rfl rfl (by kernel_rfl) (fun _ _ _ h => h) (Or.inl ⟨by rfl, ?_⟩) ?_ ?_
      rotate_left
      · intro w'
        go_simp
        with_reducible rfl
      rotate_left
      · simp only [Act.put, List.setIfInBounds_toArray, List.set_cons_zero, List.set_cons_succ, i64_w, i32_w]
        rfl
      refine done_ (by kernel_rfl) ?_
      go_wp2
      first | go_end0 | ((try simp only [Exit.inBlock, Exit.then]); refine bodyPost_ret (results_none rfl _ _ _) rfl ?_)
      rw [HX.out]
      exact ⟨rfl, blk_set HI.out 4 _, by repeat (first | exact Upd.refl _ _ | exact Upd.of_below HB1.out | apply Upd.drewN | apply Upd.drew | (refine Upd.setCell ?_ ?_ _; rotate_left; · (intro _; rfl)))⟩
set_option maxHeartbeats 2000000 in
theorem A_State {w : World} {g n c : Nat} {f0 f1 f2 f4 f5 f6 : Int} {A : Option Addr} (h : IsA w g f0 f1 f2 A n c f4 f5 f6) (hb : 0 ≤ f1 ∧ f1 ≤ 1099511627776 ∧ n ≤ 64) :
    Calls Try.prog 29 #[.pointer (some ⟨g, 0, none⟩)] w fun e w' => e = .returned (.tuple #[.int .i64 f1, .int .i64 (f1 + n + 1), .int .i64 n]) ∧ Below w.heap.size w w' := by
  have HI := Aside0.mk h
  have HN := Aside0.mk hb
  clear h hb
  go_enter Try.func29, Try.ntmps29
  go_wp2
  refine start_ (n := 14) (S := fun w' => w'.cell? ⟨g, 1, none⟩ = some (.int .i64 f1) ∧ w'.cell? ⟨g, 3, none⟩ = some (.slice A n c)) (ds := []) #[false, false, false, false, false, false, false, false, false, false, false, false, false, false] (by kernel_rfl) rfl rfl ⟨blk_at (i := 1) (HI.out) rfl, blk_at (i := 3) (HI.out) rfl⟩ (fun hHeld => ?_)
  refine pure_ (i := 0) (N := some 5) (v := ?_) (a' := ?_) #[true, false, false, false, false, false, false, false, false, false, false, false, false, false] rfl rfl (by kernel_rfl) (fun _ _ _ h => h) (Or.inl ⟨by rfl, ?_⟩) ?_ ?_
  rotate_left
  · intro w'
    go_simp
    with_reducible rfl
  rotate_left
  · simp only [Act.put, List.setIfInBounds_toArray, List.set_cons_zero, List.set_cons_succ, i64_w, i32_w]
    rfl
  refine pure_ (i := 1) (N := some 6) (v := ?_) (a' := ?_) #[true, true, false, false, false, false, false, false, false, false, false, false, false, false] rfl rfl (by kernel_rfl) (fun _ _ _ h => h) (Or.inl ⟨by rfl, ?_⟩) ?_ ?_
  rotate_left
  · intro w'
    go_simp
    with_reducible rfl
  rotate_left
  · simp only [Act.put, List.setIfInBounds_toArray, List.set_cons_zero, List.set_cons_succ, i64_w, i32_w]
    rfl
  refine pure_ (i := 2) (N := some 7) (v := ?_) (a' := ?_) #[true, true, true, false, false, false, false, false, false, false, false, false, false, false] rfl rfl (by kernel_rfl) (fun _ _ _ h => h) (Or.inl ⟨by rfl, ?_⟩) ?_ ?_
  rotate_left
  · intro w'
    go_simp
    with_reducible rfl
  rotate_left
  · simp only [Act.put, List.setIfInBounds_toArray, List.set_cons_zero, List.set_cons_succ, i64_w, i32_w]
    rfl
  refine pure_ (i := 4) (N := some 9) (v := ?_) (a' := ?_) #[true, true, true, false, true, false, false, false, false, false, false, false, false, false] rfl rfl (by kernel_rfl) (fun _ _ _ h => h) (Or.inl ⟨by rfl, ?_⟩) ?_ ?_
  rotate_left
  · intro w'
    go_simp
    with_reducible rfl
  rotate_left
  · simp only [Act.put, List.setIfInBounds_toArray, List.set_cons_zero, List.set_cons_succ, i64_w, i32_w]
    rfl
  refine pure_ (i := 6) (N := some 11) (v := ?_) (a' := ?_) #[true, true, true, false, true, false, true, false, false, false, false, false, false, false] rfl rfl (by kernel_rfl) (fun _ _ _ h => h) (Or.inl ⟨by rfl, ?_⟩) ?_ ?_
  rotate_left
  · intro w'
    go_simp
    with_reducible rfl
  rotate_left
  · simp only [Act.put, List.setIfInBounds_toArray, List.set_cons_zero, List.set_cons_succ, i64_w, i32_w]
    rfl
  refine pure_ (i := 7) (N := some 12) (v := ?_) (a' := ?_) #[true, true, true, false, true, false, true, true, false, false, false, false, false, false] rfl rfl (by kernel_rfl) (fun _ _ _ h => h) (Or.inl ⟨by rfl, ?_⟩) ?_ ?_
  rotate_left
  · intro w'
    go_simp
    with_reducible rfl
  rotate_left
  · simp only [Act.put, List.setIfInBounds_toArray, List.set_cons_zero, List.set_cons_succ, i64_w, i32_w]
    rfl
  refine pure_ (i := 8) (N := some 13) (v := ?_) (a' := ?_) #[true, true, true, false, true, false, true, true, true, false, false, false, false, false] rfl rfl (by kernel_rfl) (fun _ _ _ h => h) (Or.inl ⟨by rfl, ?_⟩) ?_ ?_
  rotate_left
  · intro w'
    go_simp
    with_reducible rfl
  rotate_left
  · simp only [Act.put, List.setIfInBounds_toArray, List.set_cons_zero, List.set_cons_succ, i64_w, i32_w]
    rfl
  refine take_ (i := 3) (N := some 8) (v := ?_) (a' := ?_) #[true, true, true, true, true, false, true, true, true, false, false, false, false, false] rfl rfl (by kernel_rfl) (fun _ _ _ h => h) (Or.inl ⟨by rfl, ?_⟩) hHeld ?_ ?_
  rotate_left
  · rintro w' ⟨s0, s1⟩
    go_simp
    with_reducible rfl
  rotate_left
  · simp only [Act.put, List.setIfInBounds_toArray, List.set_cons_zero, List.set_cons_succ, i64_w, i32_w]
    rfl
  refine take_ (i := 9) (N := some 14) (v := ?_) (a' := ?_) #[true, true, true, true, true, false, true, true, true, true, false, false, false, false] rfl rfl (by kernel_rfl) (fun _ _ _ h => h) (Or.inl ⟨by rfl, ?_⟩) hHeld ?_ ?_
  rotate_left
  · rintro w' ⟨s0, s1⟩
    go_simp
    with_reducible rfl
  rotate_left
  · simp only [Act.put, List.setIfInBounds_toArray, List.set_cons_zero, List.set_cons_succ, i64_w, i32_w]
    rfl
  refine pure_ (i := 10) (N := some 15) (v := ?_) (a' := ?_) #[true, true, true, true, true, false, true, true, true, true, true, false, false, false] rfl rfl (by kernel_rfl) (fun _ _ _ h => h) (Or.inl ⟨by rfl, ?_⟩) ?_ ?_
  rotate_left
  · intro w'
    go_simp
    with_reducible rfl
  rotate_left
  · simp only [Act.put, List.setIfInBounds_toArray, List.set_cons_zero, List.set_cons_succ, i64_w, i32_w]
    rfl
  refine one_ (i := 5) (N := some 10) #[true, true, true, true, true, true, true, true, true, true, true, false, false, false] rfl rfl (by kernel_rfl) (by decide) (fun K hK => ?_)
  refine goes_ Try.func46 (by kernel_rfl) rfl #[.pointer (some ⟨g, 0, none⟩)] (by rfl) rfl rfl (by simp only [List.map_toArray, List.map_cons, List.map_nil]; rfl) ?_
  with_reducible refine (A_next (A_drew HI.out) HN.out).mono ?_
  rintro e w4 ⟨rfl, hb⟩
  refine ⟨_, rfl, ?_⟩
  have hI2 := A_below (A_drew HI.out) hb
  have HB := Aside0.mk (below_step (below_drew (Below.refl _ _)) hb)
  refine hK.out _ _ ⟨blk_at (i := 1) hI2 rfl, blk_at (i := 3) hI2 rfl⟩ (fun hHeld => ?_)
  clear hK K
  refine norm_ (a' := ?_) ?_ ?_
  rotate_left
  · show Act.put _ (some 10) _ = _
    simp only [Act.put, List.setIfInBounds_toArray, List.set_cons_zero, List.set_cons_succ, i64_w, i32_w]
    rfl
  refine pure_ (i := 11) (N := some 2) (v := ?_) (a' := ?_) #[true, true, true, true, true, true, true, true, true, true, true, true, false, false] rfl rfl (by kernel_rfl) (fun _ _ _ h => h) (Or.inl ⟨by rfl, ?_⟩) ?_ ?_
  rotate_left
  · intro w'
    go_simp
    with_reducible rfl
  rotate_left
  · simp only [Act.put, List.setIfInBounds_toArray, List.set_cons_zero, List.set_cons_succ, i64_w, i32_w]
    rfl
  refine pure_ (i := 12) (N := some 3) (v := ?_) (a' := ?_) #[true, true, true, true, true, true, true, true, true, true, true, true, true, false] rfl rfl (by kernel_rfl) (fun _ _ _ h => h) (Or.inl ⟨by rfl, ?_⟩) ?_ ?_
  rotate_left
  · intro w'
    go_simp
    with_reducible rfl
  rotate_left
  · simp only [Act.put, List.setIfInBounds_toArray, List.set_cons_zero, List.set_cons_succ, i64_w, i32_w]
    rfl
  refine pure_ (i := 13) (N := some 4) (v := ?_) (a' := ?_) #[true, true, true, true, true, true, true, true, true, true, true, true, true, true] rfl rfl (by kernel_rfl) (fun _ _ _ h => h) (Or.inl ⟨by rfl, ?_⟩) ?_ ?_
  rotate_left
  · intro w'
    go_simp
    with_reducible rfl
  rotate_left
  · simp only [Act.put, List.setIfInBounds_toArray, List.set_cons_zero, List.set_cons_succ, i64_w, i32_w]
    rfl
  refine done_ (by kernel_rfl) ?_
  go_wp2
  go_ret3
  exact ⟨rfl, (by repeat (first | (with_reducible first | exact HB.out | apply below_alloc | apply pw_below_drewN | apply below_drew1) | exact HB.out))⟩
theorem infoA : (Try.prog.info? 87).map (fun i => (i.zero, i.size, i.bytes)) = some (some (.agg #[.int .i64 0, .string ByteArray.empty]), 2, 24) := by kernel_rfl
/-- What putting an item answers. -/
def putFA (f1 : Int) (n : Nat) (t : ByteArray) : Int × Int := if t.size > 6000 then (0, 7) else if n ≥ 64 ∨ f1 + n + 1 > 1099511627776 then (0, 2) else (f1 + n + 1, 0)
set_option maxHeartbeats 4000000 in
theorem A_Put {w : World} {base g n c : Nat} {f0 f1 f2 f4 f5 f6 : Int} {A : Option Addr} {xs : List S87} (t : ByteArray) (h : IsA w g f0 f1 f2 A n c f4 f5 f6) (hq : Kd.Q k87 87 w base (fun _ => True) (.slice A n c) xs) (hbs : base ≤ w.heap.size) (hb : 0 ≤ f1 ∧ f1 ≤ 1099511627776 ∧ n ≤ 64) :
    Calls Try.prog 19 #[.pointer (some ⟨g, 0, none⟩), .string t] w fun e w' => e = .returned (.tuple #[.int .i64 (putFA f1 n t).1, .int .i64 (putFA f1 n t).2]) ∧
      ((putFA f1 n t).2 ≠ 0 → Below w.heap.size w w') ∧ ((putFA f1 n t).2 = 0 → ∃ A' c', IsA w' g f0 f1 f2 A' (n + 1) c' f4 f5 f6 ∧ Kd.Q k87 87 w' base (fun _ => True) (.slice A' (n + 1) c') (xs ++ [⟨f1 + n + 1, t⟩]) ∧ Upd (fun k => k = g ∨ some k = (Value.slice A n c).ownBlock) w w') := by
  have HI := Aside0.mk h
  have HN := Aside0.mk hb
  have HL := Aside0.mk (Kd.Q_reads' hq).1
  have HQ0 := Aside0.mk hq
  have HS0 := Aside0.mk hbs
  clear h hb hq hbs
  by_cases c1 : t.size > 6000
  · have e1 : decide ((t.size : Int) > 6000) = true := decide_eq_true (by omega)
    have HX : Aside0 (putFA f1 n t = (0, 7)) := ⟨by unfold putFA; rw [if_pos c1]⟩
    clear c1
    go_enter Try.func19, Try.ntmps19
    go_wp2_with fail
    refine (A_next HI.out HN.out).mono ?_
    rintro e w1 ⟨rfl, hb⟩
    have HI1 := Aside0.mk (A_below HI.out hb)
    have hc3 : w1.cell? ⟨g, 3, none⟩ = some (.slice A n c) := blk_at (i := 3) HI1.out rfl
    have HQ := Aside0.mk (Kd.Q_below HQ0.out hb)
    have HS := Aside0.mk (Nat.le_trans HS0.out hb.size)
    have HB1 := Aside0.mk hb
    have HB := Aside0.mk (below_le HS0.out hb)
    clear hb
    go_wp2
    go_ret2
    rw [HX.out]
    exact ⟨rfl, fun _ => HB1.out, fun h => absurd h (by decide)⟩
  · have e1 : decide ((t.size : Int) > 6000) = false := decide_eq_false (by omega)
    by_cases c2 : n ≥ 64 ∨ f1 + n + 1 > 1099511627776
    · have HX : Aside0 (putFA f1 n t = (0, 2)) := ⟨by unfold putFA; rw [if_neg c1, if_pos c2]⟩
      by_cases c3 : n ≥ 64
      · have e2 : decide ((n : Int) ≥ 64) = true := decide_eq_true (by omega)
        clear c1 c2 c3
        go_enter Try.func19, Try.ntmps19
        go_wp2_with fail
        refine (A_next HI.out HN.out).mono ?_
        rintro e w1 ⟨rfl, hb⟩
        have HI1 := Aside0.mk (A_below HI.out hb)
        have hc3 : w1.cell? ⟨g, 3, none⟩ = some (.slice A n c) := blk_at (i := 3) HI1.out rfl
        have HQ := Aside0.mk (Kd.Q_below HQ0.out hb)
        have HS := Aside0.mk (Nat.le_trans HS0.out hb.size)
        have HB1 := Aside0.mk hb
        have HB := Aside0.mk (below_le HS0.out hb)
        clear hb
        go_wp2
        go_ret2
        rw [HX.out]
        exact ⟨rfl, fun _ => HB1.out, fun h => absurd h (by decide)⟩
      · have e2 : decide ((n : Int) ≥ 64) = false := decide_eq_false (by omega)
        have e3 : decide (f1 + n + 1 > 1099511627776) = true := decide_eq_true (by omega)
        clear c1 c2 c3
        go_enter Try.func19, Try.ntmps19
        go_wp2_with fail
        refine (A_next HI.out HN.out).mono ?_
        rintro e w1 ⟨rfl, hb⟩
        have HI1 := Aside0.mk (A_below HI.out hb)
        have hc3 : w1.cell? ⟨g, 3, none⟩ = some (.slice A n c) := blk_at (i := 3) HI1.out rfl
        have HQ := Aside0.mk (Kd.Q_below HQ0.out hb)
        have HS := Aside0.mk (Nat.le_trans HS0.out hb.size)
        have HB1 := Aside0.mk hb
        have HB := Aside0.mk (below_le HS0.out hb)
        clear hb
        go_wp2
        go_ret2
        rw [HX.out]
        exact ⟨rfl, fun _ => HB1.out, fun h => absurd h (by decide)⟩
    · have HX : Aside0 (putFA f1 n t = (f1 + n + 1, 0)) := ⟨by unfold putFA; rw [if_neg c1, if_neg c2]⟩
      have e2 : decide ((n : Int) ≥ 64) = false := decide_eq_false (by omega)
      have e3 : decide (f1 + n + 1 > 1099511627776) = false := decide_eq_false (by omega)
      clear c1 c2
      go_enter Try.func19, Try.ntmps19
      go_wp2_with fail
      refine (A_next HI.out HN.out).mono ?_
      rintro e w1 ⟨rfl, hb⟩
      have HI1 := Aside0.mk (A_below HI.out hb)
      have hc3 : w1.cell? ⟨g, 3, none⟩ = some (.slice A n c) := blk_at (i := 3) HI1.out rfl
      have HQ := Aside0.mk (Kd.Q_below HQ0.out hb)
      have HS := Aside0.mk (Nat.le_trans HS0.out hb.size)
      have HB1 := Aside0.mk hb
      have HB := Aside0.mk (below_le HS0.out hb)
      clear hb
      go_wp2_with (first | ((with_reducible refine gate_builtin (b := .append) (xs := #[.tmp 28, .tmp 32]) rfl ?_); at_builtin; refine Kd.Q_append (k87) (w0 := w) base rfl (.tmp 28) (.tmp 32) 54 87 (.agg #[.int .i64 0, .string ByteArray.empty]) 24 rfl Try.underlying54 infoA rfl (by decide) (by omega) (.slice A n c) xs ⟨f1 + n + 1, t⟩ [.int .i64 (f1 + n + 1), .string t] (fun _ => True) (fun _ => False) rfl rfl ?aP (fun _ hk => hk.elim) ?aF ?aO ?aB ?aS ?aL ?_; (case aP => exact k87_mkM _ _ _ _); (case aB => exact HB.out); (case aF => exact (fun _ _ => trivial)); (case aO => exact HQ.out); (case aS => exact HS.out); (case aL => (have := HN.out; have := HL.out; omega)); intro va wa hq hb hg hat; obtain ⟨A1, c1, ev, _⟩ := Kd.Q_slice hq; rw [List.length_append, ← HL.out] at ev; obtain rfl : va = .slice A1 (n + 1) c1 := ev; (try clear ev); have HI2 := Aside0.mk (A_grown HI1.out hg (Kd.Q_ne HQ.out HI1.out (by decide))); have hc3 : wa.cell? ⟨g, 3, none⟩ = some (.slice A n c) := blk_at (i := 3) HI2.out rfl; have hf3 := blk_frozen HI2.out 3; have HQ2 := Aside0.mk hq; have HB2 := Aside0.mk hb; have HG2 := Aside0.mk hg; have HA2 := Aside0.mk hat; clear hq hb hg hat))
      go_ret2
      rw [HX.out]
      refine ⟨rfl, fun h => absurd rfl h, fun _ => ⟨A1, c1, ?_, ?_, ?_⟩⟩
      · exact blk_set HI2.out 3 _
      · exact Kd.Q_set HQ2.out HI2.out (fun q hq => by
          change q ∈ ([87] : List Nat) at hq
          simp at hq
          subst hq
          decide) 3 _
      · exact ((Upd.of_below HB1.out).grown HG2.out (fun k hk _ => .inr hk.symm)).setCell (p := ⟨g, 3, none⟩) (fun _ => .inl rfl) _
set_option maxHeartbeats 4000000 in
theorem A_Acked_no {w : World} {g n c : Nat} {f0 f1 f2 f4 f5 f6 : Int} {A : Option Addr} (ep n' : Int) (h : IsA w g f0 f1 f2 A n c f4 f5 f6) (hb : 0 ≤ f1 ∧ f1 ≤ 1099511627776 ∧ n ≤ 64) (hno : ¬ (ep = f0 ∧ f1 < n' ∧ n' ≤ f1 + n)) :
    Calls Try.prog 21 #[.pointer (some ⟨g, 0, none⟩), .int .i64 ep, .int .i64 n'] w fun e w' => e = .returned (.bool false) ∧ Below w.heap.size w w' := by
  have HI := Aside0.mk h
  have HN := Aside0.mk hb
  have HB := Aside0.mk (Below.refl w.heap.size w)
  have hc0 : w.cell? ⟨g, 0, none⟩ = some (.int .i64 f0) := blk_at (i := 0) HI.out rfl
  have hc1 : w.cell? ⟨g, 1, none⟩ = some (.int .i64 f1) := blk_at (i := 1) HI.out rfl
  clear h hb
  by_cases c1 : ep = f0
  · have e1 : (ep != f0) = false := bne_eq_false_iff_eq.2 c1
    by_cases c2 : n' ≤ f1
    · have e2 : decide (n' ≤ f1) = true := decide_eq_true c2
      clear c1 c2 hno
      go_enter Try.func21, Try.ntmps21
      go_wp2
      go_ret
      exact ⟨rfl, (by repeat (first | (with_reducible first | exact HB.out | apply below_alloc | apply pw_below_drewN | apply below_drew1) | exact HB.out))⟩
    · have e2 : decide (n' ≤ f1) = false := decide_eq_false c2
      have e3 : decide (n' ≥ f1 + n + 1) = true := decide_eq_true (by omega)
      clear c1 c2 hno
      go_enter Try.func21, Try.ntmps21
      go_wp2_with fail
      refine (A_next HI.out HN.out).mono ?_
      rintro e w1 ⟨rfl, hb⟩
      have HB1 := Aside0.mk hb
      clear hb
      go_wp2
      go_ret
      exact ⟨rfl, HB1.out⟩
  · have e1 : (ep != f0) = true := bne_iff_ne.2 c1
    clear c1 hno
    go_enter Try.func21, Try.ntmps21
    go_wp2
    go_ret
    exact ⟨rfl, (by repeat (first | (with_reducible first | exact HB.out | apply below_alloc | apply pw_below_drewN | apply below_drew1) | exact HB.out))⟩
set_option maxRecDepth 100000 in
set_option maxHeartbeats 4000000 in
theorem A_Acked {w : World} {base g n c : Nat} {f0 f1 f2 f4 f5 f6 : Int} {A : Option Addr} {xs : List S87} (n' : Int) (h : IsA w g f0 f1 f2 A n c f4 f5 f6) (hq : Kd.Q k87 87 w base (fun _ => True) (.slice A n c) xs) (hb : 0 ≤ f1 ∧ f1 ≤ 1099511627776 ∧ n ≤ 64) (hyes : f1 < n' ∧ n' ≤ f1 + n) :
    Calls Try.prog 21 #[.pointer (some ⟨g, 0, none⟩), .int .i64 f0, .int .i64 n'] w fun e w' => e = .returned (.bool true) ∧ ∃ A' c', IsA w' g f0 n' (mx f2 n') A' (n - (n' - f1).toNat) c' 0 f5 f6 ∧ Kd.Q k87 87 w' base (fun _ => True) (.slice A' (n - (n' - f1).toNat) c') (xs.drop (n' - f1).toNat) ∧ Upd (· = g) w w' := by
  have HI := Aside0.mk h
  have HN := Aside0.mk hb
  have HY := Aside0.mk hyes
  have HQ := Aside0.mk hq
  have HL := Aside0.mk (Kd.Q_reads' hq).1
  have hc0 : w.cell? ⟨g, 0, none⟩ = some (.int .i64 f0) := blk_at (i := 0) HI.out rfl
  have hc1 : w.cell? ⟨g, 1, none⟩ = some (.int .i64 f1) := blk_at (i := 1) HI.out rfl
  have e1 : (f0 != f0) = false := bne_eq_false_iff_eq.2 rfl
  have e2 : decide (n' ≤ f1) = false := decide_eq_false (by omega)
  have e3 : decide (n' ≥ f1 + n + 1) = false := decide_eq_false (by omega)
  clear h hb hyes hq
  obtain ⟨m, hm⟩ : ∃ m, mx f2 n' = m := ⟨_, rfl⟩
  rw [hm]
  have hm_ : (if f2 < n' then n' else f2) = m := hm
  clear hm
  go_enter Try.func21, Try.ntmps21
  go_wp2_with fail
  refine (A_next HI.out HN.out).mono ?_
  rintro e w1 ⟨rfl, hb⟩
  have HI1 := Aside0.mk (A_below HI.out hb)
  have HB1 := Aside0.mk hb
  clear hb
  have hw : wrap64 (n' - f1) = n' - f1 := w64 (by have := HY.out; have := HN.out; omega) (by have := HY.out; have := HN.out; omega)
  have p1 : (0 ≤ n' - f1) = True := eq_true (by have := HY.out; omega)
  have p3 : (f1 ≤ n') = True := eq_true (by have := HY.out; omega)
  have p2 : (n' - f1 ≤ (n : Int)) = True := eq_true (by have := HY.out; omega)
  have hc2 : w1.cell? ⟨g, 2, none⟩ = some (.int .i64 f2) := blk_at (i := 2) HI1.out rfl
  have hc1' : w1.cell? ⟨g, 1, none⟩ = some (.int .i64 f1) := blk_at (i := 1) HI1.out rfl
  have hc4' : w1.cell? ⟨g, 4, none⟩ = some (.int .i64 f4) := blk_at (i := 4) HI1.out rfl
  have hf1 := blk_frozen HI1.out 1
  have hf2 := blk_frozen HI1.out 2
  have hf4 := blk_frozen HI1.out 4
  go_wp2
  refine start_ (n := 15) (S := fun w' => w'.cell? ⟨g, 3, none⟩ = some (.slice A n c) ∧ w'.cell? ⟨g, 1, none⟩ = some (.int .i64 f1) ∧ w'.frozen? ⟨g, 3, none⟩ = false) (ds := [14]) #[false, false, false, false, false, false, false, false, false, false, false, false, false, false, false] (by kernel_rfl) rfl rfl ⟨blk_at (i := 3) (HI1.out) rfl, blk_at (i := 1) (HI1.out) rfl, blk_frozen HI1.out 3⟩ (fun hHeld => ?_)
  refine pure_ (i := 0) (N := some 27) (v := ?_) (a' := ?_) #[true, false, false, false, false, false, false, false, false, false, false, false, false, false, false] rfl rfl (by kernel_rfl) (fun _ _ _ h => h) (Or.inl ⟨by rfl, ?_⟩) ?_ ?_
  rotate_left
  · intro w'
    go_simp
    with_reducible rfl
  rotate_left
  · simp only [Act.put, List.setIfInBounds_toArray, List.set_cons_zero, List.set_cons_succ, i64_w, i32_w]
    rfl
  refine pure_ (i := 1) (N := some 28) (v := ?_) (a' := ?_) #[true, true, false, false, false, false, false, false, false, false, false, false, false, false, false] rfl rfl (by kernel_rfl) (fun _ _ _ h => h) (Or.inl ⟨by rfl, ?_⟩) ?_ ?_
  rotate_left
  · intro w'
    go_simp
    with_reducible rfl
  rotate_left
  · simp only [Act.put, List.setIfInBounds_toArray, List.set_cons_zero, List.set_cons_succ, i64_w, i32_w]
    rfl
  refine pure_ (i := 2) (N := some 29) (v := ?_) (a' := ?_) #[true, true, true, false, false, false, false, false, false, false, false, false, false, false, false] rfl rfl (by kernel_rfl) (fun _ _ _ h => h) (Or.inl ⟨by rfl, ?_⟩) ?_ ?_
  rotate_left
  · intro w'
    go_simp
    with_reducible rfl
  rotate_left
  · simp only [Act.put, List.setIfInBounds_toArray, List.set_cons_zero, List.set_cons_succ, i64_w, i32_w]
    rfl
  refine pure_ (i := 3) (N := some 30) (v := ?_) (a' := ?_) #[true, true, true, true, false, false, false, false, false, false, false, false, false, false, false] rfl rfl (by kernel_rfl) (fun _ _ _ h => h) (Or.inl ⟨by rfl, ?_⟩) ?_ ?_
  rotate_left
  · intro w'
    go_simp
    with_reducible rfl
  rotate_left
  · simp only [Act.put, List.setIfInBounds_toArray, List.set_cons_zero, List.set_cons_succ, i64_w, i32_w]
    rfl
  refine pure_ (i := 5) (N := some 32) (v := ?_) (a' := ?_) #[true, true, true, true, false, true, false, false, false, false, false, false, false, false, false] rfl rfl (by kernel_rfl) (fun _ _ _ h => h) (Or.inl ⟨by rfl, ?_⟩) ?_ ?_
  rotate_left
  · intro w'
    go_simp
    with_reducible rfl
  rotate_left
  · simp only [Act.put, List.setIfInBounds_toArray, List.set_cons_zero, List.set_cons_succ, i64_w, i32_w]
    rfl
  refine pure_ (i := 6) (N := some 33) (v := ?_) (a' := ?_) #[true, true, true, true, false, true, true, false, false, false, false, false, false, false, false] rfl rfl (by kernel_rfl) (fun _ _ _ h => h) (Or.inl ⟨by rfl, ?_⟩) ?_ ?_
  rotate_left
  · intro w'
    go_simp
    with_reducible rfl
  rotate_left
  · simp only [Act.put, List.setIfInBounds_toArray, List.set_cons_zero, List.set_cons_succ, i64_w, i32_w]
    rfl
  refine pure_ (i := 7) (N := some 34) (v := ?_) (a' := ?_) #[true, true, true, true, false, true, true, true, false, false, false, false, false, false, false] rfl rfl (by kernel_rfl) (fun _ _ _ h => h) (Or.inl ⟨by rfl, ?_⟩) ?_ ?_
  rotate_left
  · intro w'
    go_simp
    with_reducible rfl
  rotate_left
  · simp only [Act.put, List.setIfInBounds_toArray, List.set_cons_zero, List.set_cons_succ, i64_w, i32_w]
    rfl
  refine pure_ (i := 8) (N := some 35) (v := ?_) (a' := ?_) #[true, true, true, true, false, true, true, true, true, false, false, false, false, false, false] rfl rfl (by kernel_rfl) (fun _ _ _ h => h) (Or.inl ⟨by rfl, ?_⟩) ?_ ?_
  rotate_left
  · intro w'
    go_simp
    with_reducible rfl
  rotate_left
  · simp only [Act.put, List.setIfInBounds_toArray, List.set_cons_zero, List.set_cons_succ, i64_w, i32_w]
    rfl
  refine take_ (i := 4) (N := some 31) (v := ?_) (a' := ?_) #[true, true, true, true, true, true, true, true, true, false, false, false, false, false, false] rfl rfl (by kernel_rfl) (fun _ _ _ h => h) (Or.inl ⟨by rfl, ?_⟩) hHeld ?_ ?_
  rotate_left
  · rintro w' ⟨s0, s1, s2⟩
    go_simp
    with_reducible rfl
  rotate_left
  · simp only [Act.put, List.setIfInBounds_toArray, List.set_cons_zero, List.set_cons_succ, i64_w, i32_w]
    rfl
  refine take_ (i := 9) (N := some 36) (v := ?_) (a' := ?_) #[true, true, true, true, true, true, true, true, true, true, false, false, false, false, false] rfl rfl (by kernel_rfl) (fun _ _ _ h => h) (Or.inl ⟨by rfl, ?_⟩) hHeld ?_ ?_
  rotate_left
  · rintro w' ⟨s0, s1, s2⟩
    go_simp
    with_reducible rfl
  rotate_left
  · simp only [Act.put, List.setIfInBounds_toArray, List.set_cons_zero, List.set_cons_succ, i64_w, i32_w]
    rfl
  refine pure_ (i := 10) (N := some 37) (v := ?_) (a' := ?_) #[true, true, true, true, true, true, true, true, true, true, true, false, false, false, false] rfl rfl (by kernel_rfl) (fun _ _ _ h => h) (Or.inl ⟨by rfl, ?_⟩) ?_ ?_
  rotate_left
  · intro w'
    go_simp
    with_reducible rfl
  rotate_left
  · simp only [Act.put, List.setIfInBounds_toArray, List.set_cons_zero, List.set_cons_succ, i64_w, i32_w]
    rfl
  refine pure_ (i := 11) (N := some 38) (v := ?_) (a' := ?_) #[true, true, true, true, true, true, true, true, true, true, true, true, false, false, false] rfl rfl (by kernel_rfl) (fun _ _ _ h => h) (Or.inl ⟨by rfl, ?_⟩) ?_ ?_
  rotate_left
  · intro w'
    go_simp
    with_reducible rfl
  rotate_left
  · simp only [Act.put, List.setIfInBounds_toArray, List.set_cons_zero, List.set_cons_succ, i64_w, i32_w]
    rfl
  refine pure_ (i := 12) (N := some 39) (v := ?_) (a' := ?_) #[true, true, true, true, true, true, true, true, true, true, true, true, true, false, false] rfl rfl (by kernel_rfl) (fun _ _ _ h => h) (Or.inl ⟨by rfl, ?_⟩) ?_ ?_
  rotate_left
  · intro w'
    go_simp
    with_reducible rfl
  rotate_left
  · simp only [Act.put, List.setIfInBounds_toArray, List.set_cons_zero, List.set_cons_succ, i64_w, i32_w]
    rfl
  refine pure_ (i := 13) (N := some 40) (v := ?_) (a' := ?_) #[true, true, true, true, true, true, true, true, true, true, true, true, true, true, false] rfl rfl (by kernel_rfl) (fun _ _ _ h => h) (Or.inl ⟨by rfl, ?_⟩) ?_ ?_
  rotate_left
  · intro w'
    go_simp
    with_reducible rfl
  rotate_left
  · simp only [Act.put, List.setIfInBounds_toArray, List.set_cons_zero, List.set_cons_succ, i64_w, i32_w]
    rfl
  refine last_ (i := 14) (N := none) #[true, true, true, true, true, true, true, true, true, true, true, true, true, true, true] rfl rfl (by kernel_rfl) (by decide) (fun K hK => ?_)
  refine skip_ (w1 := ?_) (by rfl) rfl ?_ ?_
  rotate_left
  · go_simp
    rfl
  refine hK.out _ _ ?_
  clear hK K
  refine done_ (by kernel_rfl) ?_
  have HQD : Aside0 (Kd.Q k87 87 w1 base (fun _ => True) (.slice (if c = (n' - f1).toNat then A else Option.map (fun x => x.add ((n' - f1).toNat * 2)) A) (n - (n' - f1).toNat) (c - (n' - f1).toNat)) (xs.drop (n' - f1).toNat)) := ⟨Kd.Q_drop (Kd.Q_below HQ.out HB1.out) (by have := HY.out; have := HL.out; omega)⟩
  generalize (if c = (n' - f1).toNat then A else Option.map (fun x => x.add ((n' - f1).toNat * 2)) A) = A2 at HQD ⊢
  go_wp2
  go_ret
  have HQ1 := Kd.Q_types HQD.out HI1.out (fun q hq => by
    change q ∈ ([87] : List Nat) at hq
    simp at hq
    subst hq
    decide)
  exact ⟨rfl, _, _, blk_set (blk_set (blk_set (blk_set HI1.out 3 _) 1 _) 4 _) 2 _, Kd.Q_mono (Kd.Q_far (p := ⟨g, 2, none⟩) (Kd.Q_far (p := ⟨g, 4, none⟩) (Kd.Q_far (p := ⟨g, 1, none⟩) (Kd.Q_far (p := ⟨g, 3, none⟩) HQ1 (fun _ h => h.2) _) (fun _ h => h.2) _) (fun _ h => h.2) _) (fun _ h => h.2) _) (fun _ _ => trivial), by repeat (first | exact Upd.refl _ _ | exact Upd.of_below HB1.out | apply Upd.drewN | apply Upd.drew | (refine Upd.setCell ?_ ?_ _; rotate_left; · (intro _; rfl)))⟩
def IsB (w : World) (g : Nat) (f0 f1 f2 : Int) (A : Option Addr) (n c : Nat) (f4 f5 f6 : Int) : Prop := w.heap[g]? = some (.cells #[.int .i64 f0, .int .i64 f1, .int .i64 f2, .slice A n c, .int .i64 f4, .int .i64 f5, .int .i64 f6] 60 (0, 0))
theorem B_grown {w w' : World} {g n c : Nat} {f0 f1 f2 f4 f5 f6 : Int} {A : Option Addr} {row : Option Nat} (h : IsB w g f0 f1 f2 A n c f4 f5 f6) (hg : w.grownBy w' row) (hne : some g ≠ row) : IsB w' g f0 f1 f2 A n c f4 f5 f6 := blk_grown h hg hne
theorem B_drew {w : World} {g n c : Nat} {f0 f1 f2 f4 f5 f6 : Int} {A : Option Addr} (h : IsB w g f0 f1 f2 A n c f4 f5 f6) : IsB w.drew g f0 f1 f2 A n c f4 f5 f6 := h
theorem B_below {w w' : World} {g n c : Nat} {f0 f1 f2 f4 f5 f6 : Int} {A : Option Addr} (h : IsB w g f0 f1 f2 A n c f4 f5 f6) (hb : Below w.heap.size w w') : IsB w' g f0 f1 f2 A n c f4 f5 f6 := blk_below h hb
set_option maxHeartbeats 1000000 in
theorem B_next {w : World} {g n c : Nat} {f0 f1 f2 f4 f5 f6 : Int} {A : Option Addr} (h : IsB w g f0 f1 f2 A n c f4 f5 f6) (hb : 0 ≤ f1 ∧ f1 ≤ 1099511627776 ∧ n ≤ 64) :
    Calls Try.prog 30 #[.pointer (some ⟨g, 0, none⟩)] w fun e w' => e = .returned (.int .i64 (f1 + n + 1)) ∧ Below w.heap.size w w' := by
  have HI := Aside0.mk h
  have HB := Aside0.mk (Below.refl w.heap.size w)
  have HX : Aside0 (wrap64 (wrap64 (f1 + n) + 1) = f1 + n + 1) := ⟨by rw [w64 (x := f1 + n) (by omega) (by omega), w64 (by omega) (by omega)]⟩
  clear h hb
  go_enter Try.func30, Try.ntmps30
  go_wp2
  refine start_ (n := 12) (S := fun w' => w'.cell? ⟨g, 1, none⟩ = some (.int .i64 f1) ∧ w'.cell? ⟨g, 3, none⟩ = some (.slice A n c)) (ds := []) #[false, false, false, false, false, false, false, false, false, false, false, false] (by kernel_rfl) rfl rfl ⟨blk_at (i := 1) (HI.out) rfl, blk_at (i := 3) (HI.out) rfl⟩ (fun hHeld => ?_)
  refine pure_ (i := 0) (N := some 3) (v := ?_) (a' := ?_) #[true, false, false, false, false, false, false, false, false, false, false, false] rfl rfl (by kernel_rfl) (fun _ _ _ h => h) (Or.inl ⟨by rfl, ?_⟩) ?_ ?_
  rotate_left
  · intro w'
    go_simp
    with_reducible rfl
  rotate_left
  · simp only [Act.put, List.setIfInBounds_toArray, List.set_cons_zero, List.set_cons_succ, i64_w, i32_w]
    rfl
  refine pure_ (i := 1) (N := some 4) (v := ?_) (a' := ?_) #[true, true, false, false, false, false, false, false, false, false, false, false] rfl rfl (by kernel_rfl) (fun _ _ _ h => h) (Or.inl ⟨by rfl, ?_⟩) ?_ ?_
  rotate_left
  · intro w'
    go_simp
    with_reducible rfl
  rotate_left
  · simp only [Act.put, List.setIfInBounds_toArray, List.set_cons_zero, List.set_cons_succ, i64_w, i32_w]
    rfl
  refine pure_ (i := 2) (N := some 5) (v := ?_) (a' := ?_) #[true, true, true, false, false, false, false, false, false, false, false, false] rfl rfl (by kernel_rfl) (fun _ _ _ h => h) (Or.inl ⟨by rfl, ?_⟩) ?_ ?_
  rotate_left
  · intro w'
    go_simp
    with_reducible rfl
  rotate_left
  · simp only [Act.put, List.setIfInBounds_toArray, List.set_cons_zero, List.set_cons_succ, i64_w, i32_w]
    rfl
  refine pure_ (i := 4) (N := some 7) (v := ?_) (a' := ?_) #[true, true, true, false, true, false, false, false, false, false, false, false] rfl rfl (by kernel_rfl) (fun _ _ _ h => h) (Or.inl ⟨by rfl, ?_⟩) ?_ ?_
  rotate_left
  · intro w'
    go_simp
    with_reducible rfl
  rotate_left
  · simp only [Act.put, List.setIfInBounds_toArray, List.set_cons_zero, List.set_cons_succ, i64_w, i32_w]
    rfl
  refine pure_ (i := 5) (N := some 8) (v := ?_) (a' := ?_) #[true, true, true, false, true, true, false, false, false, false, false, false] rfl rfl (by kernel_rfl) (fun _ _ _ h => h) (Or.inl ⟨by rfl, ?_⟩) ?_ ?_
  rotate_left
  · intro w'
    go_simp
    with_reducible rfl
  rotate_left
  · simp only [Act.put, List.setIfInBounds_toArray, List.set_cons_zero, List.set_cons_succ, i64_w, i32_w]
    rfl
  refine pure_ (i := 6) (N := some 9) (v := ?_) (a' := ?_) #[true, true, true, false, true, true, true, false, false, false, false, false] rfl rfl (by kernel_rfl) (fun _ _ _ h => h) (Or.inl ⟨by rfl, ?_⟩) ?_ ?_
  rotate_left
  · intro w'
    go_simp
    with_reducible rfl
  rotate_left
  · simp only [Act.put, List.setIfInBounds_toArray, List.set_cons_zero, List.set_cons_succ, i64_w, i32_w]
    rfl
  refine take_ (i := 3) (N := some 6) (v := ?_) (a' := ?_) #[true, true, true, true, true, true, true, false, false, false, false, false] rfl rfl (by kernel_rfl) (fun _ _ _ h => h) (Or.inl ⟨by rfl, ?_⟩) hHeld ?_ ?_
  rotate_left
  · rintro w' ⟨s0, s1⟩
    go_simp
    with_reducible rfl
  rotate_left
  · simp only [Act.put, List.setIfInBounds_toArray, List.set_cons_zero, List.set_cons_succ, i64_w, i32_w]
    rfl
  refine take_ (i := 7) (N := some 10) (v := ?_) (a' := ?_) #[true, true, true, true, true, true, true, true, false, false, false, false] rfl rfl (by kernel_rfl) (fun _ _ _ h => h) (Or.inl ⟨by rfl, ?_⟩) hHeld ?_ ?_
  rotate_left
  · rintro w' ⟨s0, s1⟩
    go_simp
    with_reducible rfl
  rotate_left
  · simp only [Act.put, List.setIfInBounds_toArray, List.set_cons_zero, List.set_cons_succ, i64_w, i32_w]
    rfl
  refine pure_ (i := 8) (N := some 11) (v := ?_) (a' := ?_) #[true, true, true, true, true, true, true, true, true, false, false, false] rfl rfl (by kernel_rfl) (fun _ _ _ h => h) (Or.inl ⟨by rfl, ?_⟩) ?_ ?_
  rotate_left
  · intro w'
    go_simp
    with_reducible rfl
  rotate_left
  · simp only [Act.put, List.setIfInBounds_toArray, List.set_cons_zero, List.set_cons_succ, i64_w, i32_w]
    rfl
  refine pure_ (i := 9) (N := some 12) (v := ?_) (a' := ?_) #[true, true, true, true, true, true, true, true, true, true, false, false] rfl rfl (by kernel_rfl) (fun _ _ _ h => h) (Or.inl ⟨by rfl, ?_⟩) ?_ ?_
  rotate_left
  · intro w'
    go_simp
    with_reducible rfl
  rotate_left
  · simp only [Act.put, List.setIfInBounds_toArray, List.set_cons_zero, List.set_cons_succ, i64_w, i32_w]
    rfl
  refine pure_ (i := 10) (N := some 13) (v := ?_) (a' := ?_) #[true, true, true, true, true, true, true, true, true, true, true, false] rfl rfl (by kernel_rfl) (fun _ _ _ h => h) (Or.inl ⟨by rfl, ?_⟩) ?_ ?_
  rotate_left
  · intro w'
    go_simp
    with_reducible rfl
  rotate_left
  · simp only [Act.put, List.setIfInBounds_toArray, List.set_cons_zero, List.set_cons_succ, i64_w, i32_w]
    rfl
  refine pure_ (i := 11) (N := some 2) (v := ?_) (a' := ?_) #[true, true, true, true, true, true, true, true, true, true, true, true] rfl rfl (by kernel_rfl) (fun _ _ _ h => h) (Or.inl ⟨by rfl, ?_⟩) ?_ ?_
  rotate_left
  · intro w'
    go_simp
    with_reducible rfl
  rotate_left
  · simp only [Act.put, List.setIfInBounds_toArray, List.set_cons_zero, List.set_cons_succ, i64_w, i32_w]
    rfl
  refine done_ (by kernel_rfl) ?_
  go_wp2
  go_ret
  exact ⟨by rw [← HX.out]; rfl, (by repeat (first | (with_reducible first | exact HB.out | apply below_alloc | apply pw_below_drewN | apply below_drew1) | exact HB.out))⟩
set_option maxHeartbeats 2000000 in
theorem B_Tick {w : World} {g n c : Nat} {f0 f1 f2 f4 f5 f6 : Int} {A : Option Addr} (h : IsB w g f0 f1 f2 A n c f4 f5 f6) (hb : 0 ≤ f4 ∧ f4 ≤ 1000) :
    Calls Try.prog 24 #[.pointer (some ⟨g, 0, none⟩)] w fun e w' => e = .returned (.tuple #[]) ∧ IsB w' g f0 f1 (tickF f1 f2 f4 f6).1 A n c (tickF f1 f2 f4 f6).2 f5 f6 ∧ Upd (· = g) w w' := by
  have HI := Aside0.mk h
  have h1 := hb.1
  have h2 := hb.2
  have hc1 : w.cell? ⟨g, 1, none⟩ = some (.int .i64 f1) := blk_at h (i := 1) rfl
  have hc4 : w.cell? ⟨g, 4, none⟩ = some (.int .i64 f4) := blk_at h (i := 4) rfl
  have hc2 : w.cell? ⟨g, 2, none⟩ = some (.int .i64 f2) := blk_at h (i := 2) rfl
  have hf2 := blk_frozen h 2
  have hf4 := blk_frozen h 4
  clear h hb
  by_cases c1 : f2 = f1
  · have e1 : (f2 == f1) = true := beq_iff_eq.2 c1
    have HX : Aside0 (tickF f1 f2 f4 f6 = (f2, f4)) := ⟨by unfold tickF; rw [if_pos c1]⟩
    clear c1
    go_enter Try.func24, Try.ntmps24
    try go_wp2
    refine start_ (n := 9) (S := fun w' => w'.cell? ⟨g, 2, none⟩ = some (.int .i64 f2) ∧ w'.cell? ⟨g, 1, none⟩ = some (.int .i64 f1)) (ds := []) #[false, false, false, false, false, false, false, false, false] (by kernel_rfl) rfl rfl ⟨blk_at (i := 2) (HI.out) rfl, blk_at (i := 1) (HI.out) rfl⟩ (fun hHeld => ?_)
    refine pure_ (i := 0) (N := some 2) (v := ?_) (a' := ?_) #[true, false, false, false, false, false, false, false, false] rfl rfl (by kernel_rfl) (fun _ _ _ h => h) (Or.inl ⟨by rfl, ?_⟩) ?_ ?_
    rotate_left
    · intro w'
      go_simp
      with_reducible rfl
    rotate_left
    · simp only [Act.put, List.setIfInBounds_toArray, List.set_cons_zero, List.set_cons_succ, i64_w, i32_w]
      rfl
    refine pure_ (i := 1) (N := some 3) (v := ?_) (a' := ?_) #[true, true, false, false, false, false, false, false, false] rfl rfl (by kernel_rfl) (fun _ _ _ h => h) (Or.inl ⟨by rfl, ?_⟩) ?_ ?_
    rotate_left
    · intro w'
      go_simp
      with_reducible rfl
    rotate_left
    · simp only [Act.put, List.setIfInBounds_toArray, List.set_cons_zero, List.set_cons_succ, i64_w, i32_w]
      rfl
    refine pure_ (i := 2) (N := some 4) (v := ?_) (a' := ?_) #[true, true, true, false, false, false, false, false, false] rfl rfl (by kernel_rfl) (fun _ _ _ h => h) (Or.inl ⟨by rfl, ?_⟩) ?_ ?_
    rotate_left
    · intro w'
      go_simp
      with_reducible rfl
    rotate_left
    · simp only [Act.put, List.setIfInBounds_toArray, List.set_cons_zero, List.set_cons_succ, i64_w, i32_w]
      rfl
    refine pure_ (i := 4) (N := some 6) (v := ?_) (a' := ?_) #[true, true, true, false, true, false, false, false, false] rfl rfl (by kernel_rfl) (fun _ _ _ h => h) (Or.inl ⟨by rfl, ?_⟩) ?_ ?_
    rotate_left
    · intro w'
      go_simp
      with_reducible rfl
    rotate_left
    · simp only [Act.put, List.setIfInBounds_toArray, List.set_cons_zero, List.set_cons_succ, i64_w, i32_w]
      rfl
    refine pure_ (i := 5) (N := some 7) (v := ?_) (a' := ?_) #[true, true, true, false, true, true, false, false, false] rfl rfl (by kernel_rfl) (fun _ _ _ h => h) (Or.inl ⟨by rfl, ?_⟩) ?_ ?_
    rotate_left
    · intro w'
      go_simp
      with_reducible rfl
    rotate_left
    · simp only [Act.put, List.setIfInBounds_toArray, List.set_cons_zero, List.set_cons_succ, i64_w, i32_w]
      rfl
    refine pure_ (i := 6) (N := some 8) (v := ?_) (a' := ?_) #[true, true, true, false, true, true, true, false, false] rfl rfl (by kernel_rfl) (fun _ _ _ h => h) (Or.inl ⟨by rfl, ?_⟩) ?_ ?_
    rotate_left
    · intro w'
      go_simp
      with_reducible rfl
    rotate_left
    · simp only [Act.put, List.setIfInBounds_toArray, List.set_cons_zero, List.set_cons_succ, i64_w, i32_w]
      rfl
    refine take_ (i := 3) (N := some 5) (v := ?_) (a' := ?_) #[true, true, true, true, true, true, true, false, false] rfl rfl (by kernel_rfl) (fun _ _ _ h => h) (Or.inl ⟨by rfl, ?_⟩) hHeld ?_ ?_
    rotate_left
    · rintro w' ⟨s0, s1⟩
      go_simp
      with_reducible rfl
    rotate_left
    · simp only [Act.put, List.setIfInBounds_toArray, List.set_cons_zero, List.set_cons_succ, i64_w, i32_w]
      rfl
    refine take_ (i := 7) (N := some 9) (v := ?_) (a' := ?_) #[true, true, true, true, true, true, true, true, false] rfl rfl (by kernel_rfl) (fun _ _ _ h => h) (Or.inl ⟨by rfl, ?_⟩) hHeld ?_ ?_
    rotate_left
    · rintro w' ⟨s0, s1⟩
      go_simp
      with_reducible rfl
    rotate_left
    · simp only [Act.put, List.setIfInBounds_toArray, List.set_cons_zero, List.set_cons_succ, i64_w, i32_w]
      rfl
    refine pure_ (i := 8) (N := some 10) (v := ?_) (a' := ?_) #[true, true, true, true, true, true, true, true, true] rfl rfl (by kernel_rfl) (fun _ _ _ h => h) (Or.inl ⟨by rfl, ?_⟩) ?_ ?_
    rotate_left
    · intro w'
      go_simp
      with_reducible rfl
    rotate_left
    · simp only [Act.put, List.setIfInBounds_toArray, List.set_cons_zero, List.set_cons_succ, i64_w, i32_w]
      rfl
    refine done_ (by kernel_rfl) ?_
    go_wp2
    first | go_end0 | ((try simp only [Exit.inBlock, Exit.then]); refine bodyPost_ret (results_none rfl _ _ _) rfl ?_)
    rw [HX.out]
    exact ⟨rfl, HI.out, by repeat (first | exact Upd.refl _ _ | exact Upd.of_below HB1.out | apply Upd.drewN | apply Upd.drew | (refine Upd.setCell ?_ ?_ _; rotate_left; · (intro _; rfl)))⟩
  · have e1 : (f2 == f1) = false := beq_eq_false_iff_ne.2 c1
    by_cases c2 : f4 + 1 ≥ f6
    · have e2 : decide (f4 + 1 ≥ f6) = true := decide_eq_true c2
      have HX : Aside0 (tickF f1 f2 f4 f6 = (f1, 0)) := ⟨by unfold tickF; rw [if_neg c1, if_pos c2]⟩
      clear c1 c2
      go_enter Try.func24, Try.ntmps24
      try go_wp2
      refine start_ (n := 9) (S := fun w' => w'.cell? ⟨g, 2, none⟩ = some (.int .i64 f2) ∧ w'.cell? ⟨g, 1, none⟩ = some (.int .i64 f1)) (ds := []) #[false, false, false, false, false, false, false, false, false] (by kernel_rfl) rfl rfl ⟨blk_at (i := 2) (HI.out) rfl, blk_at (i := 1) (HI.out) rfl⟩ (fun hHeld => ?_)
      refine pure_ (i := 0) (N := some 2) (v := ?_) (a' := ?_) #[true, false, false, false, false, false, false, false, false] rfl rfl (by kernel_rfl) (fun _ _ _ h => h) (Or.inl ⟨by rfl, ?_⟩) ?_ ?_
      rotate_left
      · intro w'
        go_simp
        with_reducible rfl
      rotate_left
      · simp only [Act.put, List.setIfInBounds_toArray, List.set_cons_zero, List.set_cons_succ, i64_w, i32_w]
        rfl
      refine pure_ (i := 1) (N := some 3) (v := ?_) (a' := ?_) #[true, true, false, false, false, false, false, false, false] rfl rfl (by kernel_rfl) (fun _ _ _ h => h) (Or.inl ⟨by rfl, ?_⟩) ?_ ?_
      rotate_left
      · intro w'
        go_simp
        with_reducible rfl
      rotate_left
      · simp only [Act.put, List.setIfInBounds_toArray, List.set_cons_zero, List.set_cons_succ, i64_w, i32_w]
        rfl
      refine pure_ (i := 2) (N := some 4) (v := ?_) (a' := ?_) #[true, true, true, false, false, false, false, false, false] rfl rfl (by kernel_rfl) (fun _ _ _ h => h) (Or.inl ⟨by rfl, ?_⟩) ?_ ?_
      rotate_left
      · intro w'
        go_simp
        with_reducible rfl
      rotate_left
      · simp only [Act.put, List.setIfInBounds_toArray, List.set_cons_zero, List.set_cons_succ, i64_w, i32_w]
        rfl
      refine pure_ (i := 4) (N := some 6) (v := ?_) (a' := ?_) #[true, true, true, false, true, false, false, false, false] rfl rfl (by kernel_rfl) (fun _ _ _ h => h) (Or.inl ⟨by rfl, ?_⟩) ?_ ?_
      rotate_left
      · intro w'
        go_simp
        with_reducible rfl
      rotate_left
      · simp only [Act.put, List.setIfInBounds_toArray, List.set_cons_zero, List.set_cons_succ, i64_w, i32_w]
        rfl
      refine pure_ (i := 5) (N := some 7) (v := ?_) (a' := ?_) #[true, true, true, false, true, true, false, false, false] rfl rfl (by kernel_rfl) (fun _ _ _ h => h) (Or.inl ⟨by rfl, ?_⟩) ?_ ?_
      rotate_left
      · intro w'
        go_simp
        with_reducible rfl
      rotate_left
      · simp only [Act.put, List.setIfInBounds_toArray, List.set_cons_zero, List.set_cons_succ, i64_w, i32_w]
        rfl
      refine pure_ (i := 6) (N := some 8) (v := ?_) (a' := ?_) #[true, true, true, false, true, true, true, false, false] rfl rfl (by kernel_rfl) (fun _ _ _ h => h) (Or.inl ⟨by rfl, ?_⟩) ?_ ?_
      rotate_left
      · intro w'
        go_simp
        with_reducible rfl
      rotate_left
      · simp only [Act.put, List.setIfInBounds_toArray, List.set_cons_zero, List.set_cons_succ, i64_w, i32_w]
        rfl
      refine take_ (i := 3) (N := some 5) (v := ?_) (a' := ?_) #[true, true, true, true, true, true, true, false, false] rfl rfl (by kernel_rfl) (fun _ _ _ h => h) (Or.inl ⟨by rfl, ?_⟩) hHeld ?_ ?_
      rotate_left
      · rintro w' ⟨s0, s1⟩
        go_simp
        with_reducible rfl
      rotate_left
      · simp only [Act.put, List.setIfInBounds_toArray, List.set_cons_zero, List.set_cons_succ, i64_w, i32_w]
        rfl
      refine take_ (i := 7) (N := some 9) (v := ?_) (a' := ?_) #[true, true, true, true, true, true, true, true, false] rfl rfl (by kernel_rfl) (fun _ _ _ h => h) (Or.inl ⟨by rfl, ?_⟩) hHeld ?_ ?_
      rotate_left
      · rintro w' ⟨s0, s1⟩
        go_simp
        with_reducible rfl
      rotate_left
      · simp only [Act.put, List.setIfInBounds_toArray, List.set_cons_zero, List.set_cons_succ, i64_w, i32_w]
        rfl
      refine pure_ (i := 8) (N := some 10) (v := ?_) (a' := ?_) #[true, true, true, true, true, true, true, true, true] rfl rfl (by kernel_rfl) (fun _ _ _ h => h) (Or.inl ⟨by rfl, ?_⟩) ?_ ?_
      rotate_left
      · intro w'
        go_simp
        with_reducible rfl
      rotate_left
      · simp only [Act.put, List.setIfInBounds_toArray, List.set_cons_zero, List.set_cons_succ, i64_w, i32_w]
        rfl
      refine done_ (by kernel_rfl) ?_
      go_wp2
      refine start_ (n := 9) (S := fun w' => w'.cell? ⟨g, 4, none⟩ = some (.int .i64 (f4 + 1)) ∧ w'.cell? ⟨g, 6, none⟩ = some (.int .i64 f6)) (ds := []) #[false, false, false, false, false, false, false, false, false] (by kernel_rfl) rfl rfl ⟨blk_at (i := 4) (blk_set HI.out 4 _) rfl, blk_at (i := 6) (blk_set HI.out 4 _) rfl⟩ (fun hHeld => ?_)
      refine pure_ (i := 0) (N := some 18) (v := ?_) (a' := ?_) #[true, false, false, false, false, false, false, false, false] rfl rfl (by kernel_rfl) (fun _ _ _ h => h) (Or.inl ⟨by rfl, ?_⟩) ?_ ?_
      rotate_left
      · intro w'
        go_simp
        with_reducible rfl
      rotate_left
      · simp only [Act.put, List.setIfInBounds_toArray, List.set_cons_zero, List.set_cons_succ, i64_w, i32_w]
        rfl
      refine pure_ (i := 1) (N := some 19) (v := ?_) (a' := ?_) #[true, true, false, false, false, false, false, false, false] rfl rfl (by kernel_rfl) (fun _ _ _ h => h) (Or.inl ⟨by rfl, ?_⟩) ?_ ?_
      rotate_left
      · intro w'
        go_simp
        with_reducible rfl
      rotate_left
      · simp only [Act.put, List.setIfInBounds_toArray, List.set_cons_zero, List.set_cons_succ, i64_w, i32_w]
        rfl
      refine pure_ (i := 2) (N := some 20) (v := ?_) (a' := ?_) #[true, true, true, false, false, false, false, false, false] rfl rfl (by kernel_rfl) (fun _ _ _ h => h) (Or.inl ⟨by rfl, ?_⟩) ?_ ?_
      rotate_left
      · intro w'
        go_simp
        with_reducible rfl
      rotate_left
      · simp only [Act.put, List.setIfInBounds_toArray, List.set_cons_zero, List.set_cons_succ, i64_w, i32_w]
        rfl
      refine pure_ (i := 4) (N := some 22) (v := ?_) (a' := ?_) #[true, true, true, false, true, false, false, false, false] rfl rfl (by kernel_rfl) (fun _ _ _ h => h) (Or.inl ⟨by rfl, ?_⟩) ?_ ?_
      rotate_left
      · intro w'
        go_simp
        with_reducible rfl
      rotate_left
      · simp only [Act.put, List.setIfInBounds_toArray, List.set_cons_zero, List.set_cons_succ, i64_w, i32_w]
        rfl
      refine pure_ (i := 5) (N := some 23) (v := ?_) (a' := ?_) #[true, true, true, false, true, true, false, false, false] rfl rfl (by kernel_rfl) (fun _ _ _ h => h) (Or.inl ⟨by rfl, ?_⟩) ?_ ?_
      rotate_left
      · intro w'
        go_simp
        with_reducible rfl
      rotate_left
      · simp only [Act.put, List.setIfInBounds_toArray, List.set_cons_zero, List.set_cons_succ, i64_w, i32_w]
        rfl
      refine pure_ (i := 6) (N := some 24) (v := ?_) (a' := ?_) #[true, true, true, false, true, true, true, false, false] rfl rfl (by kernel_rfl) (fun _ _ _ h => h) (Or.inl ⟨by rfl, ?_⟩) ?_ ?_
      rotate_left
      · intro w'
        go_simp
        with_reducible rfl
      rotate_left
      · simp only [Act.put, List.setIfInBounds_toArray, List.set_cons_zero, List.set_cons_succ, i64_w, i32_w]
        rfl
      refine take_ (i := 3) (N := some 21) (v := ?_) (a' := ?_) #[true, true, true, true, true, true, true, false, false] rfl rfl (by kernel_rfl) (fun _ _ _ h => h) (Or.inl ⟨by rfl, ?_⟩) hHeld ?_ ?_
      rotate_left
      · rintro w' ⟨s0, s1⟩
        go_simp
        with_reducible rfl
      rotate_left
      · simp only [Act.put, List.setIfInBounds_toArray, List.set_cons_zero, List.set_cons_succ, i64_w, i32_w]
        rfl
      refine take_ (i := 7) (N := some 25) (v := ?_) (a' := ?_) #[true, true, true, true, true, true, true, true, false] rfl rfl (by kernel_rfl) (fun _ _ _ h => h) (Or.inl ⟨by rfl, ?_⟩) hHeld ?_ ?_
      rotate_left
      · rintro w' ⟨s0, s1⟩
        go_simp
        with_reducible rfl
      rotate_left
      · simp only [Act.put, List.setIfInBounds_toArray, List.set_cons_zero, List.set_cons_succ, i64_w, i32_w]
        rfl
      refine pure_ (i := 8) (N := some 26) (v := ?_) (a' := ?_) #[true, true, true, true, true, true, true, true, true] rfl rfl (by kernel_rfl) (fun _ _ _ h => h) (Or.inl ⟨by rfl, ?_⟩) ?_ ?_
      rotate_left
      · intro w'
        go_simp
        with_reducible rfl
      rotate_left
      · simp only [Act.put, List.setIfInBounds_toArray, List.set_cons_zero, List.set_cons_succ, i64_w, i32_w]
        rfl
      refine done_ (by kernel_rfl) ?_
      go_wp2
      first | go_end0 | ((try simp only [Exit.inBlock, Exit.then]); refine bodyPost_ret (results_none rfl _ _ _) rfl ?_)
      rw [HX.out]
      exact ⟨rfl, blk_set (blk_set (blk_set HI.out 4 _) 2 _) 4 _, by repeat (first | exact Upd.refl _ _ | exact Upd.of_below HB1.out | apply Upd.drewN | apply Upd.drew | (refine Upd.setCell ?_ ?_ _; rotate_left; · (intro _; rfl)))⟩
    · have e2 : decide (f4 + 1 ≥ f6) = false := decide_eq_false c2
      have HX : Aside0 (tickF f1 f2 f4 f6 = (f2, f4 + 1)) := ⟨by unfold tickF; rw [if_neg c1, if_neg c2]⟩
      clear c1 c2
      go_enter Try.func24, Try.ntmps24
      try go_wp2
      refine start_ (n := 9) (S := fun w' => w'.cell? ⟨g, 2, none⟩ = some (.int .i64 f2) ∧ w'.cell? ⟨g, 1, none⟩ = some (.int .i64 f1)) (ds := []) #[false, false, false, false, false, false, false, false, false] (by kernel_rfl) rfl rfl ⟨blk_at (i := 2) (HI.out) rfl, blk_at (i := 1) (HI.out) rfl⟩ (fun hHeld => ?_)
      refine pure_ (i := 0) (N := some 2) (v := ?_) (a' := ?_) #[true, false, false, false, false, false, false, false, false] rfl rfl (by kernel_rfl) (fun _ _ _ h => h) (Or.inl ⟨by rfl, ?_⟩) ?_ ?_
      rotate_left
      · intro w'
        go_simp
        with_reducible rfl
      rotate_left
      · simp only [Act.put, List.setIfInBounds_toArray, List.set_cons_zero, List.set_cons_succ, i64_w, i32_w]
        rfl
      refine pure_ (i := 1) (N := some 3) (v := ?_) (a' := ?_) #[true, true, false, false, false, false, false, false, false] rfl rfl (by kernel_rfl) (fun _ _ _ h => h) (Or.inl ⟨by rfl, ?_⟩) ?_ ?_
      rotate_left
      · intro w'
        go_simp
        with_reducible rfl
      rotate_left
      · simp only [Act.put, List.setIfInBounds_toArray, List.set_cons_zero, List.set_cons_succ, i64_w, i32_w]
        rfl
      refine pure_ (i := 2) (N := some 4) (v := ?_) (a' := ?_) #[true, true, true, false, false, false, false, false, false] rfl rfl (by kernel_rfl) (fun _ _ _ h => h) (Or.inl ⟨by rfl, ?_⟩) ?_ ?_
      rotate_left
      · intro w'
        go_simp
        with_reducible rfl
      rotate_left
      · simp only [Act.put, List.setIfInBounds_toArray, List.set_cons_zero, List.set_cons_succ, i64_w, i32_w]
        rfl
      refine pure_ (i := 4) (N := some 6) (v := ?_) (a' := ?_) #[true, true, true, false, true, false, false, false, false] rfl rfl (by kernel_rfl) (fun _ _ _ h => h) (Or.inl ⟨by rfl, ?_⟩) ?_ ?_
      rotate_left
      · intro w'
        go_simp
        with_reducible rfl
      rotate_left
      · simp only [Act.put, List.setIfInBounds_toArray, List.set_cons_zero, List.set_cons_succ, i64_w, i32_w]
        rfl
      refine pure_ (i := 5) (N := some 7) (v := ?_) (a' := ?_) #[true, true, true, false, true, true, false, false, false] rfl rfl (by kernel_rfl) (fun _ _ _ h => h) (Or.inl ⟨by rfl, ?_⟩) ?_ ?_
      rotate_left
      · intro w'
        go_simp
        with_reducible rfl
      rotate_left
      · simp only [Act.put, List.setIfInBounds_toArray, List.set_cons_zero, List.set_cons_succ, i64_w, i32_w]
        rfl
      refine pure_ (i := 6) (N := some 8) (v := ?_) (a' := ?_) #[true, true, true, false, true, true, true, false, false] rfl rfl (by kernel_rfl) (fun _ _ _ h => h) (Or.inl ⟨by rfl, ?_⟩) ?_ ?_
      rotate_left
      · intro w'
        go_simp
        with_reducible rfl
      rotate_left
      · simp only [Act.put, List.setIfInBounds_toArray, List.set_cons_zero, List.set_cons_succ, i64_w, i32_w]
        rfl
      refine take_ (i := 3) (N := some 5) (v := ?_) (a' := ?_) #[true, true, true, true, true, true, true, false, false] rfl rfl (by kernel_rfl) (fun _ _ _ h => h) (Or.inl ⟨by rfl, ?_⟩) hHeld ?_ ?_
      rotate_left
      · rintro w' ⟨s0, s1⟩
        go_simp
        with_reducible rfl
      rotate_left
      · simp only [Act.put, List.setIfInBounds_toArray, List.set_cons_zero, List.set_cons_succ, i64_w, i32_w]
        rfl
      refine take_ (i := 7) (N := some 9) (v := ?_) (a' := ?_) #[true, true, true, true, true, true, true, true, false] rfl rfl (by kernel_rfl) (fun _ _ _ h => h) (Or.inl ⟨by rfl, ?_⟩) hHeld ?_ ?_
      rotate_left
      · rintro w' ⟨s0, s1⟩
        go_simp
        with_reducible rfl
      rotate_left
      · simp only [Act.put, List.setIfInBounds_toArray, List.set_cons_zero, List.set_cons_succ, i64_w, i32_w]
        rfl
      refine pure_ (i := 8) (N := some 10) (v := ?_) (a' := ?_) #[true, true, true, true, true, true, true, true, true] rfl rfl (by kernel_rfl) (fun _ _ _ h => h) (Or.inl ⟨by rfl, ?_⟩) ?_ ?_
      rotate_left
      · intro w'
        go_simp
        with_reducible rfl
      rotate_left
      · simp only [Act.put, List.setIfInBounds_toArray, List.set_cons_zero, List.set_cons_succ, i64_w, i32_w]
        rfl
      refine done_ (by kernel_rfl) ?_
      go_wp2
      refine start_ (n := 9) (S := fun w' => w'.cell? ⟨g, 4, none⟩ = some (.int .i64 (f4 + 1)) ∧ w'.cell? ⟨g, 6, none⟩ = some (.int .i64 f6)) (ds := []) #[false, false, false, false, false, false, false, false, false] (by kernel_rfl) rfl rfl ⟨blk_at (i := 4) (blk_set HI.out 4 _) rfl, blk_at (i := 6) (blk_set HI.out 4 _) rfl⟩ (fun hHeld => ?_)
      refine pure_ (i := 0) (N := some 18) (v := ?_) (a' := ?_) #[true, false, false, false, false, false, false, false, false] rfl rfl (by kernel_rfl) (fun _ _ _ h => h) (Or.inl ⟨by rfl, ?_⟩) ?_ ?_
      rotate_left
      · intro w'
        go_simp
        with_reducible rfl
      rotate_left
      · simp only [Act.put, List.setIfInBounds_toArray, List.set_cons_zero, List.set_cons_succ, i64_w, i32_w]
        rfl
      refine pure_ (i := 1) (N := some 19) (v := ?_) (a' := ?_) #[true, true, false, false, false, false, false, false, false] rfl rfl (by kernel_rfl) (fun _ _ _ h => h) (Or.inl ⟨by rfl, ?_⟩) ?_ ?_
      rotate_left
      · intro w'
        go_simp
        with_reducible rfl
      rotate_left
      · simp only [Act.put, List.setIfInBounds_toArray, List.set_cons_zero, List.set_cons_succ, i64_w, i32_w]
        rfl
      refine pure_ (i := 2) (N := some 20) (v := ?_) (a' := ?_) #[true, true, true, false, false, false, false, false, false] rfl rfl (by kernel_rfl) (fun _ _ _ h => h) (Or.inl ⟨by rfl, ?_⟩) ?_ ?_
      rotate_left
      · intro w'
        go_simp
        with_reducible rfl
      rotate_left
      · simp only [Act.put, List.setIfInBounds_toArray, List.set_cons_zero, List.set_cons_succ, i64_w, i32_w]
        rfl
      refine pure_ (i := 4) (N := some 22) (v := ?_) (a' := ?_) #[true, true, true, false, true, false, false, false, false] rfl rfl (by kernel_rfl) (fun _ _ _ h => h) (Or.inl ⟨by rfl, ?_⟩) ?_ ?_
      rotate_left
      · intro w'
        go_simp
        with_reducible rfl
      rotate_left
      · simp only [Act.put, List.setIfInBounds_toArray, List.set_cons_zero, List.set_cons_succ, i64_w, i32_w]
        rfl
      refine pure_ (i := 5) (N := some 23) (v := ?_) (a' := ?_) #[true, true, true, false, true, true, false, false, false] rfl rfl (by kernel_rfl) (fun _ _ _ h => h) (Or.inl ⟨by rfl, ?_⟩) ?_ ?_
      rotate_left
      · intro w'
        go_simp
        with_reducible rfl
      rotate_left
      · simp only [Act.put, List.setIfInBounds_toArray, List.set_cons_zero, List.set_cons_succ, i64_w, i32_w]
        rfl
      refine pure_ (i := 6) (N := some 24) (v := ?_) (a' := ?_) #[true, true, true, false, true, true, true, false, false] rfl rfl (by kernel_rfl) (fun _ _ _ h => h) (Or.inl ⟨by rfl, ?_⟩) ?_ ?_
      rotate_left
      · intro w'
        go_simp
        with_reducible rfl
      rotate_left
      · simp only [Act.put, List.setIfInBounds_toArray, List.set_cons_zero, List.set_cons_succ, i64_w, i32_w]
        rfl
      refine take_ (i := 3) (N := some 21) (v := ?_) (a' := ?_) #[true, true, true, true, true, true, true, false, false] rfl rfl (by kernel_rfl) (fun _ _ _ h => h) (Or.inl ⟨by rfl, ?_⟩) hHeld ?_ ?_
      rotate_left
      · rintro w' ⟨s0, s1⟩
        go_simp
        with_reducible rfl
      rotate_left
      · simp only [Act.put, List.setIfInBounds_toArray, List.set_cons_zero, List.set_cons_succ, i64_w, i32_w]
        rfl
      refine take_ (i := 7) (N := some 25) (v := ?_) (a' := ?_) #[true, true, true, true, true, true, true, true, false] rfl rfl (by kernel_rfl) (fun _ _ _ h => h) (Or.inl ⟨by rfl, ?_⟩) hHeld ?_ ?_
      rotate_left
      · rintro w' ⟨s0, s1⟩
        go_simp
        with_reducible rfl
      rotate_left
      · simp only [Act.put, List.setIfInBounds_toArray, List.set_cons_zero, List.set_cons_succ, i64_w, i32_w]
        rfl
      refine pure_ (i := 8) (N := some 26) (v := ?_) (a' := ?_) #[true, true, true, true, true, true, true, true, true] rfl rfl (by kernel_rfl) (fun _ _ _ h => h) (Or.inl ⟨by rfl, ?_⟩) ?_ ?_
      rotate_left
      · intro w'
        go_simp
        with_reducible rfl
      rotate_left
      · simp only [Act.put, List.setIfInBounds_toArray, List.set_cons_zero, List.set_cons_succ, i64_w, i32_w]
        rfl
      refine done_ (by kernel_rfl) ?_
      go_wp2
      first | go_end0 | ((try simp only [Exit.inBlock, Exit.then]); refine bodyPost_ret (results_none rfl _ _ _) rfl ?_)
      rw [HX.out]
      exact ⟨rfl, blk_set HI.out 4 _, by repeat (first | exact Upd.refl _ _ | exact Upd.of_below HB1.out | apply Upd.drewN | apply Upd.drew | (refine Upd.setCell ?_ ?_ _; rotate_left; · (intro _; rfl)))⟩
theorem infoB : (Try.prog.info? 98).map (fun i => (i.zero, i.size, i.bytes)) = some (some (.agg #[.int .i64 0, .string ByteArray.empty]), 2, 24) := by kernel_rfl
/-- What putting an item answers. -/
def putFB (f1 : Int) (n : Nat) (t : ByteArray) : Int × Int := if t.size > 6000 then (0, 7) else if n ≥ 64 ∨ f1 + n + 1 > 1099511627776 then (0, 2) else (f1 + n + 1, 0)
set_option maxHeartbeats 4000000 in
theorem B_Put {w : World} {base g n c : Nat} {f0 f1 f2 f4 f5 f6 : Int} {A : Option Addr} {xs : List S98} (t : ByteArray) (h : IsB w g f0 f1 f2 A n c f4 f5 f6) (hq : Kd.Q k98 98 w base (fun _ => True) (.slice A n c) xs) (hbs : base ≤ w.heap.size) (hb : 0 ≤ f1 ∧ f1 ≤ 1099511627776 ∧ n ≤ 64) :
    Calls Try.prog 20 #[.pointer (some ⟨g, 0, none⟩), .string t] w fun e w' => e = .returned (.tuple #[.int .i64 (putFB f1 n t).1, .int .i64 (putFB f1 n t).2]) ∧
      ((putFB f1 n t).2 ≠ 0 → Below w.heap.size w w') ∧ ((putFB f1 n t).2 = 0 → ∃ A' c', IsB w' g f0 f1 f2 A' (n + 1) c' f4 f5 f6 ∧ Kd.Q k98 98 w' base (fun _ => True) (.slice A' (n + 1) c') (xs ++ [⟨f1 + n + 1, t⟩]) ∧ Upd (fun k => k = g ∨ some k = (Value.slice A n c).ownBlock) w w') := by
  have HI := Aside0.mk h
  have HN := Aside0.mk hb
  have HL := Aside0.mk (Kd.Q_reads' hq).1
  have HQ0 := Aside0.mk hq
  have HS0 := Aside0.mk hbs
  clear h hb hq hbs
  by_cases c1 : t.size > 6000
  · have e1 : decide ((t.size : Int) > 6000) = true := decide_eq_true (by omega)
    have HX : Aside0 (putFB f1 n t = (0, 7)) := ⟨by unfold putFB; rw [if_pos c1]⟩
    clear c1
    go_enter Try.func20, Try.ntmps20
    have HB1 := Aside0.mk (Below.refl w.heap.size w)
    go_wp2
    go_ret2
    rw [HX.out]
    exact ⟨rfl, fun _ => HB1.out, fun h => absurd h (by decide)⟩
  · have e1 : decide ((t.size : Int) > 6000) = false := decide_eq_false (by omega)
    by_cases c2 : n ≥ 64 ∨ f1 + n + 1 > 1099511627776
    · have HX : Aside0 (putFB f1 n t = (0, 2)) := ⟨by unfold putFB; rw [if_neg c1, if_pos c2]⟩
      by_cases c3 : n ≥ 64
      · have e2 : decide ((n : Int) ≥ 64) = true := decide_eq_true (by omega)
        clear c1 c2 c3
        go_enter Try.func20, Try.ntmps20
        have hc3 : w.cell? ⟨g, 3, none⟩ = some (.slice A n c) := blk_at (i := 3) HI.out rfl
        have HB1 := Aside0.mk (Below.refl w.heap.size w)
        go_wp2
        go_ret2
        rw [HX.out]
        exact ⟨rfl, fun _ => HB1.out, fun h => absurd h (by decide)⟩
      · have e2 : decide ((n : Int) ≥ 64) = false := decide_eq_false (by omega)
        have e3 : decide (f1 + n + 1 > 1099511627776) = true := decide_eq_true (by omega)
        clear c1 c2 c3
        go_enter Try.func20, Try.ntmps20
        have hc3 : w.cell? ⟨g, 3, none⟩ = some (.slice A n c) := blk_at (i := 3) HI.out rfl
        go_wp2_with fail
        refine (B_next HI.out HN.out).mono ?_
        rintro e w1 ⟨rfl, hb⟩
        have HI1 := Aside0.mk (B_below HI.out hb)
        have hc3 : w1.cell? ⟨g, 3, none⟩ = some (.slice A n c) := blk_at (i := 3) HI1.out rfl
        have HQ := Aside0.mk (Kd.Q_below HQ0.out hb)
        have HS := Aside0.mk (Nat.le_trans HS0.out hb.size)
        have HB1 := Aside0.mk hb
        have HB := Aside0.mk (below_le HS0.out hb)
        clear hb
        go_wp2
        go_ret2
        rw [HX.out]
        exact ⟨rfl, fun _ => HB1.out, fun h => absurd h (by decide)⟩
    · have HX : Aside0 (putFB f1 n t = (f1 + n + 1, 0)) := ⟨by unfold putFB; rw [if_neg c1, if_neg c2]⟩
      have e2 : decide ((n : Int) ≥ 64) = false := decide_eq_false (by omega)
      have e3 : decide (f1 + n + 1 > 1099511627776) = false := decide_eq_false (by omega)
      clear c1 c2
      go_enter Try.func20, Try.ntmps20
      have hc3 : w.cell? ⟨g, 3, none⟩ = some (.slice A n c) := blk_at (i := 3) HI.out rfl
      go_wp2_with fail
      refine (B_next HI.out HN.out).mono ?_
      rintro e w0_ ⟨rfl, hb0⟩
      have HI0 := Aside0.mk (B_below HI.out hb0)
      have HB0 := Aside0.mk hb0
      clear hb0
      go_wp2_with fail
      refine (B_next HI0.out HN.out).mono ?_
      rintro e w1 ⟨rfl, hb1⟩
      have hb : Below w.heap.size w w1 := below_step HB0.out hb1
      clear hb1
      have HI1 := Aside0.mk (B_below HI.out hb)
      have hc3 : w1.cell? ⟨g, 3, none⟩ = some (.slice A n c) := blk_at (i := 3) HI1.out rfl
      have HQ := Aside0.mk (Kd.Q_below HQ0.out hb)
      have HS := Aside0.mk (Nat.le_trans HS0.out hb.size)
      have HB1 := Aside0.mk hb
      have HB := Aside0.mk (below_le HS0.out hb)
      clear hb
      go_wp2_with (first | ((with_reducible refine gate_builtin (b := .append) (xs := #[.tmp 29, .tmp 33]) rfl ?_); at_builtin; refine Kd.Q_append (k98) (w0 := w) base rfl (.tmp 29) (.tmp 33) 52 98 (.agg #[.int .i64 0, .string ByteArray.empty]) 24 rfl Try.underlying52 infoB rfl (by decide) (by omega) (.slice A n c) xs ⟨f1 + n + 1, t⟩ [.int .i64 (f1 + n + 1), .string t] (fun _ => True) (fun _ => False) rfl rfl ?aP (fun _ hk => hk.elim) ?aF ?aO ?aB ?aS ?aL ?_; (case aP => exact k98_mkM _ _ _ _); (case aB => exact HB.out); (case aF => exact (fun _ _ => trivial)); (case aO => exact HQ.out); (case aS => exact HS.out); (case aL => (have := HN.out; have := HL.out; omega)); intro va wa hq hb hg hat; obtain ⟨A1, c1, ev, _⟩ := Kd.Q_slice hq; rw [List.length_append, ← HL.out] at ev; obtain rfl : va = .slice A1 (n + 1) c1 := ev; (try clear ev); have HI2 := Aside0.mk (B_grown HI1.out hg (Kd.Q_ne HQ.out HI1.out (by decide))); have hc3 : wa.cell? ⟨g, 3, none⟩ = some (.slice A n c) := blk_at (i := 3) HI2.out rfl; have hf3 := blk_frozen HI2.out 3; have HQ2 := Aside0.mk hq; have HB2 := Aside0.mk hb; have HG2 := Aside0.mk hg; have HA2 := Aside0.mk hat; clear hq hb hg hat))
      go_ret2
      rw [HX.out]
      refine ⟨rfl, fun h => absurd rfl h, fun _ => ⟨A1, c1, ?_, ?_, ?_⟩⟩
      · exact blk_set HI2.out 3 _
      · exact Kd.Q_set HQ2.out HI2.out (fun q hq => by
          change q ∈ ([98] : List Nat) at hq
          simp at hq
          subst hq
          decide) 3 _
      · exact ((Upd.of_below HB1.out).grown HG2.out (fun k hk _ => .inr hk.symm)).setCell (p := ⟨g, 3, none⟩) (fun _ => .inl rfl) _
set_option maxHeartbeats 4000000 in
theorem B_Acked_no {w : World} {g n c : Nat} {f0 f1 f2 f4 f5 f6 : Int} {A : Option Addr} (ep n' : Int) (h : IsB w g f0 f1 f2 A n c f4 f5 f6) (hb : 0 ≤ f1 ∧ f1 ≤ 1099511627776 ∧ n ≤ 64) (hno : ¬ (ep = f0 ∧ f1 < n' ∧ n' ≤ f1 + n)) :
    Calls Try.prog 22 #[.pointer (some ⟨g, 0, none⟩), .int .i64 ep, .int .i64 n'] w fun e w' => e = .returned (.bool false) ∧ Below w.heap.size w w' := by
  have HI := Aside0.mk h
  have HN := Aside0.mk hb
  have HB := Aside0.mk (Below.refl w.heap.size w)
  have hc0 : w.cell? ⟨g, 0, none⟩ = some (.int .i64 f0) := blk_at (i := 0) HI.out rfl
  have hc1 : w.cell? ⟨g, 1, none⟩ = some (.int .i64 f1) := blk_at (i := 1) HI.out rfl
  clear h hb
  by_cases c1 : ep = f0
  · have e1 : (ep != f0) = false := bne_eq_false_iff_eq.2 c1
    by_cases c2 : n' ≤ f1
    · have e2 : decide (n' ≤ f1) = true := decide_eq_true c2
      clear c1 c2 hno
      go_enter Try.func22, Try.ntmps22
      go_wp2
      go_ret
      exact ⟨rfl, (by repeat (first | (with_reducible first | exact HB.out | apply below_alloc | apply pw_below_drewN | apply below_drew1) | exact HB.out))⟩
    · have e2 : decide (n' ≤ f1) = false := decide_eq_false c2
      have e3 : decide (n' ≥ f1 + n + 1) = true := decide_eq_true (by omega)
      clear c1 c2 hno
      go_enter Try.func22, Try.ntmps22
      go_wp2_with fail
      refine (B_next HI.out HN.out).mono ?_
      rintro e w1 ⟨rfl, hb⟩
      have HB1 := Aside0.mk hb
      clear hb
      go_wp2
      go_ret
      exact ⟨rfl, HB1.out⟩
  · have e1 : (ep != f0) = true := bne_iff_ne.2 c1
    clear c1 hno
    go_enter Try.func22, Try.ntmps22
    go_wp2
    go_ret
    exact ⟨rfl, (by repeat (first | (with_reducible first | exact HB.out | apply below_alloc | apply pw_below_drewN | apply below_drew1) | exact HB.out))⟩
set_option maxRecDepth 100000 in
set_option maxHeartbeats 4000000 in
theorem B_Acked {w : World} {base g n c : Nat} {f0 f1 f2 f4 f5 f6 : Int} {A : Option Addr} {xs : List S98} (n' : Int) (h : IsB w g f0 f1 f2 A n c f4 f5 f6) (hq : Kd.Q k98 98 w base (fun _ => True) (.slice A n c) xs) (hb : 0 ≤ f1 ∧ f1 ≤ 1099511627776 ∧ n ≤ 64) (hyes : f1 < n' ∧ n' ≤ f1 + n) :
    Calls Try.prog 22 #[.pointer (some ⟨g, 0, none⟩), .int .i64 f0, .int .i64 n'] w fun e w' => e = .returned (.bool true) ∧ ∃ A' c', IsB w' g f0 n' (mx f2 n') A' (n - (n' - f1).toNat) c' 0 f5 f6 ∧ Kd.Q k98 98 w' base (fun _ => True) (.slice A' (n - (n' - f1).toNat) c') (xs.drop (n' - f1).toNat) ∧ Upd (· = g) w w' := by
  have HI := Aside0.mk h
  have HN := Aside0.mk hb
  have HY := Aside0.mk hyes
  have HQ := Aside0.mk hq
  have HL := Aside0.mk (Kd.Q_reads' hq).1
  have hc0 : w.cell? ⟨g, 0, none⟩ = some (.int .i64 f0) := blk_at (i := 0) HI.out rfl
  have hc1 : w.cell? ⟨g, 1, none⟩ = some (.int .i64 f1) := blk_at (i := 1) HI.out rfl
  have e1 : (f0 != f0) = false := bne_eq_false_iff_eq.2 rfl
  have e2 : decide (n' ≤ f1) = false := decide_eq_false (by omega)
  have e3 : decide (n' ≥ f1 + n + 1) = false := decide_eq_false (by omega)
  clear h hb hyes hq
  obtain ⟨m, hm⟩ : ∃ m, mx f2 n' = m := ⟨_, rfl⟩
  rw [hm]
  have hm_ : (if f2 < n' then n' else f2) = m := hm
  clear hm
  go_enter Try.func22, Try.ntmps22
  go_wp2_with fail
  refine (B_next HI.out HN.out).mono ?_
  rintro e w1 ⟨rfl, hb⟩
  have HI1 := Aside0.mk (B_below HI.out hb)
  have HB1 := Aside0.mk hb
  clear hb
  have hw : wrap64 (n' - f1) = n' - f1 := w64 (by have := HY.out; have := HN.out; omega) (by have := HY.out; have := HN.out; omega)
  have p1 : (0 ≤ n' - f1) = True := eq_true (by have := HY.out; omega)
  have p3 : (f1 ≤ n') = True := eq_true (by have := HY.out; omega)
  have p2 : (n' - f1 ≤ (n : Int)) = True := eq_true (by have := HY.out; omega)
  have hc2 : w1.cell? ⟨g, 2, none⟩ = some (.int .i64 f2) := blk_at (i := 2) HI1.out rfl
  have hc1' : w1.cell? ⟨g, 1, none⟩ = some (.int .i64 f1) := blk_at (i := 1) HI1.out rfl
  have hc4' : w1.cell? ⟨g, 4, none⟩ = some (.int .i64 f4) := blk_at (i := 4) HI1.out rfl
  have hf1 := blk_frozen HI1.out 1
  have hf2 := blk_frozen HI1.out 2
  have hf4 := blk_frozen HI1.out 4
  go_wp2
  refine start_ (n := 15) (S := fun w' => w'.cell? ⟨g, 3, none⟩ = some (.slice A n c) ∧ w'.cell? ⟨g, 1, none⟩ = some (.int .i64 f1) ∧ w'.frozen? ⟨g, 3, none⟩ = false) (ds := [14]) #[false, false, false, false, false, false, false, false, false, false, false, false, false, false, false] (by kernel_rfl) rfl rfl ⟨blk_at (i := 3) (HI1.out) rfl, blk_at (i := 1) (HI1.out) rfl, blk_frozen HI1.out 3⟩ (fun hHeld => ?_)
  refine pure_ (i := 0) (N := some 27) (v := ?_) (a' := ?_) #[true, false, false, false, false, false, false, false, false, false, false, false, false, false, false] rfl rfl (by kernel_rfl) (fun _ _ _ h => h) (Or.inl ⟨by rfl, ?_⟩) ?_ ?_
  rotate_left
  · intro w'
    go_simp
    with_reducible rfl
  rotate_left
  · simp only [Act.put, List.setIfInBounds_toArray, List.set_cons_zero, List.set_cons_succ, i64_w, i32_w]
    rfl
  refine pure_ (i := 1) (N := some 28) (v := ?_) (a' := ?_) #[true, true, false, false, false, false, false, false, false, false, false, false, false, false, false] rfl rfl (by kernel_rfl) (fun _ _ _ h => h) (Or.inl ⟨by rfl, ?_⟩) ?_ ?_
  rotate_left
  · intro w'
    go_simp
    with_reducible rfl
  rotate_left
  · simp only [Act.put, List.setIfInBounds_toArray, List.set_cons_zero, List.set_cons_succ, i64_w, i32_w]
    rfl
  refine pure_ (i := 2) (N := some 29) (v := ?_) (a' := ?_) #[true, true, true, false, false, false, false, false, false, false, false, false, false, false, false] rfl rfl (by kernel_rfl) (fun _ _ _ h => h) (Or.inl ⟨by rfl, ?_⟩) ?_ ?_
  rotate_left
  · intro w'
    go_simp
    with_reducible rfl
  rotate_left
  · simp only [Act.put, List.setIfInBounds_toArray, List.set_cons_zero, List.set_cons_succ, i64_w, i32_w]
    rfl
  refine pure_ (i := 3) (N := some 30) (v := ?_) (a' := ?_) #[true, true, true, true, false, false, false, false, false, false, false, false, false, false, false] rfl rfl (by kernel_rfl) (fun _ _ _ h => h) (Or.inl ⟨by rfl, ?_⟩) ?_ ?_
  rotate_left
  · intro w'
    go_simp
    with_reducible rfl
  rotate_left
  · simp only [Act.put, List.setIfInBounds_toArray, List.set_cons_zero, List.set_cons_succ, i64_w, i32_w]
    rfl
  refine pure_ (i := 5) (N := some 32) (v := ?_) (a' := ?_) #[true, true, true, true, false, true, false, false, false, false, false, false, false, false, false] rfl rfl (by kernel_rfl) (fun _ _ _ h => h) (Or.inl ⟨by rfl, ?_⟩) ?_ ?_
  rotate_left
  · intro w'
    go_simp
    with_reducible rfl
  rotate_left
  · simp only [Act.put, List.setIfInBounds_toArray, List.set_cons_zero, List.set_cons_succ, i64_w, i32_w]
    rfl
  refine pure_ (i := 6) (N := some 33) (v := ?_) (a' := ?_) #[true, true, true, true, false, true, true, false, false, false, false, false, false, false, false] rfl rfl (by kernel_rfl) (fun _ _ _ h => h) (Or.inl ⟨by rfl, ?_⟩) ?_ ?_
  rotate_left
  · intro w'
    go_simp
    with_reducible rfl
  rotate_left
  · simp only [Act.put, List.setIfInBounds_toArray, List.set_cons_zero, List.set_cons_succ, i64_w, i32_w]
    rfl
  refine pure_ (i := 7) (N := some 34) (v := ?_) (a' := ?_) #[true, true, true, true, false, true, true, true, false, false, false, false, false, false, false] rfl rfl (by kernel_rfl) (fun _ _ _ h => h) (Or.inl ⟨by rfl, ?_⟩) ?_ ?_
  rotate_left
  · intro w'
    go_simp
    with_reducible rfl
  rotate_left
  · simp only [Act.put, List.setIfInBounds_toArray, List.set_cons_zero, List.set_cons_succ, i64_w, i32_w]
    rfl
  refine pure_ (i := 8) (N := some 35) (v := ?_) (a' := ?_) #[true, true, true, true, false, true, true, true, true, false, false, false, false, false, false] rfl rfl (by kernel_rfl) (fun _ _ _ h => h) (Or.inl ⟨by rfl, ?_⟩) ?_ ?_
  rotate_left
  · intro w'
    go_simp
    with_reducible rfl
  rotate_left
  · simp only [Act.put, List.setIfInBounds_toArray, List.set_cons_zero, List.set_cons_succ, i64_w, i32_w]
    rfl
  refine take_ (i := 4) (N := some 31) (v := ?_) (a' := ?_) #[true, true, true, true, true, true, true, true, true, false, false, false, false, false, false] rfl rfl (by kernel_rfl) (fun _ _ _ h => h) (Or.inl ⟨by rfl, ?_⟩) hHeld ?_ ?_
  rotate_left
  · rintro w' ⟨s0, s1, s2⟩
    go_simp
    with_reducible rfl
  rotate_left
  · simp only [Act.put, List.setIfInBounds_toArray, List.set_cons_zero, List.set_cons_succ, i64_w, i32_w]
    rfl
  refine take_ (i := 9) (N := some 36) (v := ?_) (a' := ?_) #[true, true, true, true, true, true, true, true, true, true, false, false, false, false, false] rfl rfl (by kernel_rfl) (fun _ _ _ h => h) (Or.inl ⟨by rfl, ?_⟩) hHeld ?_ ?_
  rotate_left
  · rintro w' ⟨s0, s1, s2⟩
    go_simp
    with_reducible rfl
  rotate_left
  · simp only [Act.put, List.setIfInBounds_toArray, List.set_cons_zero, List.set_cons_succ, i64_w, i32_w]
    rfl
  refine pure_ (i := 10) (N := some 37) (v := ?_) (a' := ?_) #[true, true, true, true, true, true, true, true, true, true, true, false, false, false, false] rfl rfl (by kernel_rfl) (fun _ _ _ h => h) (Or.inl ⟨by rfl, ?_⟩) ?_ ?_
  rotate_left
  · intro w'
    go_simp
    with_reducible rfl
  rotate_left
  · simp only [Act.put, List.setIfInBounds_toArray, List.set_cons_zero, List.set_cons_succ, i64_w, i32_w]
    rfl
  refine pure_ (i := 11) (N := some 38) (v := ?_) (a' := ?_) #[true, true, true, true, true, true, true, true, true, true, true, true, false, false, false] rfl rfl (by kernel_rfl) (fun _ _ _ h => h) (Or.inl ⟨by rfl, ?_⟩) ?_ ?_
  rotate_left
  · intro w'
    go_simp
    with_reducible rfl
  rotate_left
  · simp only [Act.put, List.setIfInBounds_toArray, List.set_cons_zero, List.set_cons_succ, i64_w, i32_w]
    rfl
  refine pure_ (i := 12) (N := some 39) (v := ?_) (a' := ?_) #[true, true, true, true, true, true, true, true, true, true, true, true, true, false, false] rfl rfl (by kernel_rfl) (fun _ _ _ h => h) (Or.inl ⟨by rfl, ?_⟩) ?_ ?_
  rotate_left
  · intro w'
    go_simp
    with_reducible rfl
  rotate_left
  · simp only [Act.put, List.setIfInBounds_toArray, List.set_cons_zero, List.set_cons_succ, i64_w, i32_w]
    rfl
  refine pure_ (i := 13) (N := some 40) (v := ?_) (a' := ?_) #[true, true, true, true, true, true, true, true, true, true, true, true, true, true, false] rfl rfl (by kernel_rfl) (fun _ _ _ h => h) (Or.inl ⟨by rfl, ?_⟩) ?_ ?_
  rotate_left
  · intro w'
    go_simp
    with_reducible rfl
  rotate_left
  · simp only [Act.put, List.setIfInBounds_toArray, List.set_cons_zero, List.set_cons_succ, i64_w, i32_w]
    rfl
  refine last_ (i := 14) (N := none) #[true, true, true, true, true, true, true, true, true, true, true, true, true, true, true] rfl rfl (by kernel_rfl) (by decide) (fun K hK => ?_)
  refine skip_ (w1 := ?_) (by rfl) rfl ?_ ?_
  rotate_left
  · go_simp
    rfl
  refine hK.out _ _ ?_
  clear hK K
  refine done_ (by kernel_rfl) ?_
  have HQD : Aside0 (Kd.Q k98 98 w1 base (fun _ => True) (.slice (if c = (n' - f1).toNat then A else Option.map (fun x => x.add ((n' - f1).toNat * 2)) A) (n - (n' - f1).toNat) (c - (n' - f1).toNat)) (xs.drop (n' - f1).toNat)) := ⟨Kd.Q_drop (Kd.Q_below HQ.out HB1.out) (by have := HY.out; have := HL.out; omega)⟩
  generalize (if c = (n' - f1).toNat then A else Option.map (fun x => x.add ((n' - f1).toNat * 2)) A) = A2 at HQD ⊢
  go_wp2
  go_ret
  have HQ1 := Kd.Q_types HQD.out HI1.out (fun q hq => by
    change q ∈ ([98] : List Nat) at hq
    simp at hq
    subst hq
    decide)
  exact ⟨rfl, _, _, blk_set (blk_set (blk_set (blk_set HI1.out 3 _) 1 _) 2 _) 4 _, Kd.Q_mono (Kd.Q_far (p := ⟨g, 4, none⟩) (Kd.Q_far (p := ⟨g, 2, none⟩) (Kd.Q_far (p := ⟨g, 1, none⟩) (Kd.Q_far (p := ⟨g, 3, none⟩) HQ1 (fun _ h => h.2) _) (fun _ h => h.2) _) (fun _ h => h.2) _) (fun _ h => h.2) _) (fun _ _ => trivial), by repeat (first | exact Upd.refl _ _ | exact Upd.of_below HB1.out | apply Upd.drewN | apply Upd.drew | (refine Upd.setCell ?_ ?_ _; rotate_left; · (intro _; rfl)))⟩
end Go.Proofs.Ytmpgknemhmoboaa.S17
