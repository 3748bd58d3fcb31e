import Derived.Test.YtmpgknemhmoboaaC03
/- More contracts of package crc and of the document's answer for it: sums in bytes, texts sealed and opened. -/
namespace Go.Proofs.Ytmpgknemhmoboaa.C03
set_option linter.unusedSimpArgs false
open Go.RowKit Go.Proofs.YtmpgknemhmoboaaW.PrintWords Go.Proofs.YtmpgknemhmoboaaW.PrintLast Go.Proofs.YtmpgknemhmoboaaW.PrintMore Go.Proofs.Ytmpgknemhmoboaa.M03 Go.Proofs.Ytmpgknemhmoboaa.Base

theorem reads4 (W : World) (t : TypeId) (a b c d : Int) : ReadsInt (W.alloc (.cells #[.int .u8 a, .int .u8 b, .int .u8 c, .int .u8 d] t)) .u8 (some ⟨W.heap.size, 0, none⟩) 4 [a, b, c, d] := by
  have hb := blk_new W (.cells #[.int .u8 a, .int .u8 b, .int .u8 c, .int .u8 d] t)
  refine ⟨rfl, by omega, fun _ => ⟨_, rfl, fun i hi => ?_⟩⟩
  rw [add_plain, blk_cell hb]
  match i, hi with
  | 0, _ => rfl
  | 1, _ => rfl
  | 2, _ => rfl
  | 3, _ => rfl

set_option maxRecDepth 100000 in
set_option maxHeartbeats 1000000 in
theorem crc_bytes (c : BitVec 32) (w : World) :
    Calls Try.prog 63 #[.int .u32 c.toNat] w fun e w' => e = .returned (.string (strOfNums (sumBytes c))) ∧ Below w.heap.size w w' := by
  have hl := lt32 c
  have hcv : ∀ t, Sem.run Try.prog (convert 88 9 (.slice (some ⟨w.heap.size, 0, none⟩) 4 4)) (w.alloc (.cells #[.int .u8 ((c.toNat : Int) % 256), .int .u8 ((c.toNat : Int) / 256 % 256), .int .u8 ((c.toNat : Int) / 65536 % 256), .int .u8 ((c.toNat : Int) / 16777216)] t)) = .ok (.string (strOfNums (sumBytes c))) (w.alloc (.cells #[.int .u8 ((c.toNat : Int) % 256), .int .u8 ((c.toNat : Int) / 256 % 256), .int .u8 ((c.toNat : Int) / 65536 % 256), .int .u8 ((c.toNat : Int) / 16777216)] t)) := fun t => string_of_reads Try.underlying88 Try.underlying5 Try.underlying9 (reads4 w t _ _ _ _)
  go_enter Try.func63, Try.ntmps63
  go_wp2
  refine wp_loop_rounds 5 ?_
  rw [rounds_succ]
  go_wp2
  rw [rounds_succ]
  go_wp2
  rw [rounds_succ]
  go_wp2
  rw [rounds_succ]
  go_wp2
  rw [rounds_succ]
  go_wp2
  go_ret
  exact ⟨rfl, below_alloc (Below.refl _ _) _⟩

/-- A text sealed; and opened. -/
def sealed (s : ByteArray) : ByteArray := strOfNums (sumBytes (sumOf (bytesOf s))) ++ s
def opens (s : ByteArray) : Bool := decide (4 ≤ s.size) && ((s.extract 0 4).toList == (strOfNums (sumBytes (sumOf (bytesOf (s.extract 4 s.size))))).toList)
def opened (s : ByteArray) : ByteArray := if opens s then s.extract 4 s.size else ByteArray.empty
theorem sumBytes_size (c : BitVec 32) : (strOfNums (sumBytes c)).size = 4 := by rw [strOfNums_size]; rfl

set_option maxHeartbeats 1000000 in
theorem crc_Seal (s : ByteArray) (w : World) (hs : s.size ≤ 140737488351232) :
    Calls Try.prog 51 #[.string s] w fun e w' => e = .returned (.string (sealed s)) ∧ Below w.heap.size w w' := by
  have HZ : (strOfNums (sumBytes (sumOf (bytesOf s)))).size + s.size ≤ 9223372036854775807 := by rw [sumBytes_size]; omega
  go_enter Try.func51, Try.ntmps51
  go_wp2_with fail
  refine (crc_Sum s _ (by omega)).mono ?_
  rintro e w1 ⟨rfl, rfl⟩
  go_wp2_with fail
  refine (crc_bytes _ _).mono ?_
  rintro e w1 ⟨rfl, hb⟩
  go_wp2
  go_ret
  exact ⟨rfl, hb⟩

set_option maxHeartbeats 1000000 in
theorem crc_Open (s : ByteArray) (w : World) (hs : s.size ≤ 140737488351232) :
    Calls Try.prog 54 #[.string s] w fun e w' => e = .returned (.tuple #[.string (opened s), .bool (opens s)]) ∧ Below w.heap.size w w' := by
  have HS := Aside0.mk hs
  by_cases c : s.size < 4
  · have c0 : decide ((s.size : Int) < 4) = true := decide_eq_true (by omega)
    have c1 : decide (s.size < 4) = true := decide_eq_true c
    have HO : Aside0 (opens s = false ∧ opened s = ByteArray.empty) := ⟨by
      have h : opens s = false := by unfold opens; rw [decide_eq_false (by omega)]; rfl
      exact ⟨h, by unfold opened; rw [h]; rfl⟩⟩
    clear c hs
    go_enter Try.func54, Try.ntmps54
    go_wp2_with fail
    refine start_ (n := 12) (S := fun w' => True) (ds := []) #[false, false, false, false, false, false, false, false, false, false, false, false] (by kernel_rfl) rfl rfl trivial (fun hHeld => ?_)
    refine pure_ (i := 0) (N := some 4) (v := ?_) (a' := ?_) #[true, false, false, false, false, false, false, false, false, false, false, false] rfl rfl (by kernel_rfl) (fun _ _ _ h => h) (Or.inl ⟨by rfl, ?_⟩) ?_ ?_
    rotate_left
    · intro w'
      go_simp
      with_reducible rfl
    rotate_left
    · simp only [Act.put, List.setIfInBounds_toArray, List.set_cons_zero, List.set_cons_succ, i64_w, i32_w]
      rfl
    refine pure_ (i := 1) (N := some 5) (v := ?_) (a' := ?_) #[true, true, false, false, false, false, false, false, false, false, false, false] rfl rfl (by kernel_rfl) (fun _ _ _ h => h) (Or.inl ⟨by rfl, ?_⟩) ?_ ?_
    rotate_left
    · intro w'
      go_simp
      with_reducible rfl
    rotate_left
    · simp only [Act.put, List.setIfInBounds_toArray, List.set_cons_zero, List.set_cons_succ, i64_w, i32_w]
      rfl
    refine pure_ (i := 2) (N := some 6) (v := ?_) (a' := ?_) #[true, true, true, false, false, false, false, false, false, false, false, false] rfl rfl (by kernel_rfl) (fun _ _ _ h => h) (Or.inl ⟨by rfl, ?_⟩) ?_ ?_
    rotate_left
    · intro w'
      go_simp
      with_reducible rfl
    rotate_left
    · simp only [Act.put, List.setIfInBounds_toArray, List.set_cons_zero, List.set_cons_succ, i64_w, i32_w]
      rfl
    refine pure_ (i := 3) (N := some 7) (v := ?_) (a' := ?_) #[true, true, true, true, false, false, false, false, false, false, false, false] rfl rfl (by kernel_rfl) (fun _ _ _ h => h) (Or.inl ⟨by rfl, ?_⟩) ?_ ?_
    rotate_left
    · intro w'
      go_simp
      with_reducible rfl
    rotate_left
    · simp only [Act.put, List.setIfInBounds_toArray, List.set_cons_zero, List.set_cons_succ, i64_w, i32_w]
      rfl
    refine pure_ (i := 4) (N := some 8) (v := undef) (a' := ?_) #[true, true, true, true, true, false, false, false, false, false, false, false] rfl rfl (by kernel_rfl) (fun _ _ _ h => h) (Or.inr ⟨by rfl, rfl⟩) ?_ ?_
    rotate_left
    · simp only [Act.put, List.setIfInBounds_toArray, List.set_cons_zero, List.set_cons_succ, i64_w, i32_w]
      rfl
    refine pure_ (i := 5) (N := some 9) (v := undef) (a' := ?_) #[true, true, true, true, true, true, false, false, false, false, false, false] rfl rfl (by kernel_rfl) (fun _ _ _ h => h) (Or.inr ⟨by rfl, rfl⟩) ?_ ?_
    rotate_left
    · simp only [Act.put, List.setIfInBounds_toArray, List.set_cons_zero, List.set_cons_succ, i64_w, i32_w]
      rfl
    refine pure_ (i := 6) (N := some 10) (v := undef) (a' := ?_) #[true, true, true, true, true, true, true, false, false, false, false, false] rfl rfl (by kernel_rfl) (fun _ _ _ h => h) (Or.inr ⟨by rfl, rfl⟩) ?_ ?_
    rotate_left
    · simp only [Act.put, List.setIfInBounds_toArray, List.set_cons_zero, List.set_cons_succ, i64_w, i32_w]
      rfl
    refine pure_ (i := 7) (N := some 11) (v := undef) (a' := ?_) #[true, true, true, true, true, true, true, true, false, false, false, false] rfl rfl (by kernel_rfl) (fun _ _ _ h => h) (Or.inr ⟨by rfl, rfl⟩) ?_ ?_
    rotate_left
    · simp only [Act.put, List.setIfInBounds_toArray, List.set_cons_zero, List.set_cons_succ, i64_w, i32_w]
      rfl
    refine pure_ (i := 8) (N := some 12) (v := undef) (a' := ?_) #[true, true, true, true, true, true, true, true, true, false, false, false] rfl rfl (by kernel_rfl) (fun _ _ _ h => h) (Or.inr ⟨by rfl, rfl⟩) ?_ ?_
    rotate_left
    · simp only [Act.put, List.setIfInBounds_toArray, List.set_cons_zero, List.set_cons_succ, i64_w, i32_w]
      rfl
    refine pure_ (i := 9) (N := some 13) (v := undef) (a' := ?_) #[true, true, true, true, true, true, true, true, true, true, false, false] rfl rfl (by kernel_rfl) (fun _ _ _ h => h) (Or.inr ⟨by rfl, rfl⟩) ?_ ?_
    rotate_left
    · simp only [Act.put, List.setIfInBounds_toArray, List.set_cons_zero, List.set_cons_succ, i64_w, i32_w]
      rfl
    refine pure_ (i := 10) (N := some 14) (v := undef) (a' := ?_) #[true, true, true, true, true, true, true, true, true, true, true, false] rfl rfl (by kernel_rfl) (fun _ _ _ h => h) (Or.inr ⟨by rfl, rfl⟩) ?_ ?_
    rotate_left
    · simp only [Act.put, List.setIfInBounds_toArray, List.set_cons_zero, List.set_cons_succ, i64_w, i32_w]
      rfl
    refine pure_ (i := 11) (N := some 15) (v := ?_) (a' := ?_) #[true, true, true, true, true, true, true, true, true, true, true, true] rfl rfl (by kernel_rfl) (fun _ _ _ h => h) (Or.inl ⟨by rfl, ?_⟩) ?_ ?_
    rotate_left
    · intro w'
      go_simp
      with_reducible rfl
    rotate_left
    · simp only [Act.put, List.setIfInBounds_toArray, List.set_cons_zero, List.set_cons_succ, i64_w, i32_w]
      rfl
    refine done_ (by kernel_rfl) ?_
    go_wp2
    go_ret2
    rw [HO.out.1, HO.out.2]
    exact ⟨rfl, pw_below_drewN (Below.refl _ _) 1⟩
  · have c0 : decide ((s.size : Int) < 4) = false := decide_eq_false (by omega)
    have c1 : decide (s.size < 4) = false := decide_eq_false c
    have h4 : (4 : Int) ≤ s.size := by omega
    have HZ : Aside0 ((s.extract 4 s.size).size ≤ 9223372036854775807) := ⟨by rw [ByteArray.size_extract]; omega⟩
    have HO : Aside0 (opens s = ((s.extract 0 4).toList == (strOfNums (sumBytes (sumOf (bytesOf (s.extract 4 s.size))))).toList)) := ⟨by unfold opens; rw [decide_eq_true (by omega)]; rfl⟩
    clear c hs
    by_cases he : opens s = true
    · have hc : ((s.extract 0 4).toList == (strOfNums (sumBytes (sumOf (bytesOf (s.extract 4 s.size))))).toList) = true := by rw [← HO.out]; exact he
      have HE : Aside0 (opened s = s.extract 4 s.size ∧ opens s = true) := ⟨by unfold opened; rw [he]; rfl, he⟩
      clear he
      go_enter Try.func54, Try.ntmps54
      go_wp2_with fail
      refine start_ (n := 12) (S := fun w' => True) (ds := []) #[false, false, false, false, false, false, false, false, false, false, false, false] (by kernel_rfl) rfl rfl trivial (fun hHeld => ?_)
      refine pure_ (i := 0) (N := some 4) (v := ?_) (a' := ?_) #[true, false, false, false, false, false, false, false, false, false, false, false] rfl rfl (by kernel_rfl) (fun _ _ _ h => h) (Or.inl ⟨by rfl, ?_⟩) ?_ ?_
      rotate_left
      · intro w'
        go_simp
        with_reducible rfl
      rotate_left
      · simp only [Act.put, List.setIfInBounds_toArray, List.set_cons_zero, List.set_cons_succ, i64_w, i32_w]
        rfl
      refine pure_ (i := 1) (N := some 5) (v := ?_) (a' := ?_) #[true, true, false, false, false, false, false, false, false, false, false, false] rfl rfl (by kernel_rfl) (fun _ _ _ h => h) (Or.inl ⟨by rfl, ?_⟩) ?_ ?_
      rotate_left
      · intro w'
        go_simp
        with_reducible rfl
      rotate_left
      · simp only [Act.put, List.setIfInBounds_toArray, List.set_cons_zero, List.set_cons_succ, i64_w, i32_w]
        rfl
      refine pure_ (i := 2) (N := some 6) (v := ?_) (a' := ?_) #[true, true, true, false, false, false, false, false, false, false, false, false] rfl rfl (by kernel_rfl) (fun _ _ _ h => h) (Or.inl ⟨by rfl, ?_⟩) ?_ ?_
      rotate_left
      · intro w'
        go_simp
        with_reducible rfl
      rotate_left
      · simp only [Act.put, List.setIfInBounds_toArray, List.set_cons_zero, List.set_cons_succ, i64_w, i32_w]
        rfl
      refine pure_ (i := 3) (N := some 7) (v := ?_) (a' := ?_) #[true, true, true, true, false, false, false, false, false, false, false, false] rfl rfl (by kernel_rfl) (fun _ _ _ h => h) (Or.inl ⟨by rfl, ?_⟩) ?_ ?_
      rotate_left
      · intro w'
        go_simp
        with_reducible rfl
      rotate_left
      · simp only [Act.put, List.setIfInBounds_toArray, List.set_cons_zero, List.set_cons_succ, i64_w, i32_w]
        rfl
      refine pure_ (i := 4) (N := some 8) (v := ?_) (a' := ?_) #[true, true, true, true, true, false, false, false, false, false, false, false] rfl rfl (by kernel_rfl) (fun _ _ _ h => h) (Or.inl ⟨by rfl, ?_⟩) ?_ ?_
      rotate_left
      · intro w'
        go_simp
        with_reducible rfl
      rotate_left
      · simp only [Act.put, List.setIfInBounds_toArray, List.set_cons_zero, List.set_cons_succ, i64_w, i32_w]
        rfl
      refine pure_ (i := 5) (N := some 9) (v := ?_) (a' := ?_) #[true, true, true, true, true, true, false, false, false, false, false, false] rfl rfl (by kernel_rfl) (fun _ _ _ h => h) (Or.inl ⟨by rfl, ?_⟩) ?_ ?_
      rotate_left
      · intro w'
        go_simp
        with_reducible rfl
      rotate_left
      · simp only [Act.put, List.setIfInBounds_toArray, List.set_cons_zero, List.set_cons_succ, i64_w, i32_w]
        rfl
      refine pure_ (i := 6) (N := some 10) (v := ?_) (a' := ?_) #[true, true, true, true, true, true, true, false, false, false, false, false] rfl rfl (by kernel_rfl) (fun _ _ _ h => h) (Or.inl ⟨by rfl, ?_⟩) ?_ ?_
      rotate_left
      · intro w'
        go_simp
        with_reducible rfl
      rotate_left
      · simp only [Act.put, List.setIfInBounds_toArray, List.set_cons_zero, List.set_cons_succ, i64_w, i32_w]
        rfl
      refine pure_ (i := 7) (N := some 11) (v := ?_) (a' := ?_) #[true, true, true, true, true, true, true, true, false, false, false, false] rfl rfl (by kernel_rfl) (fun _ _ _ h => h) (Or.inl ⟨by rfl, ?_⟩) ?_ ?_
      rotate_left
      · intro w'
        go_simp
        with_reducible rfl
      rotate_left
      · simp only [Act.put, List.setIfInBounds_toArray, List.set_cons_zero, List.set_cons_succ, i64_w, i32_w]
        rfl
      refine one_ (i := 8) (N := some 12) #[true, true, true, true, true, true, true, true, true, false, false, false] rfl rfl (by kernel_rfl) (by decide) (fun K hK => ?_)
      refine goes_ Try.func64 (by kernel_rfl) rfl #[.string (s.extract 4 s.size)] (by rfl) rfl rfl (by simp only [List.map_toArray, List.map_cons, List.map_nil]; rfl) ?_
      with_reducible refine (crc_Sum _ _ HZ.out).mono ?_
      rintro e w4 ⟨rfl, rfl⟩
      refine ⟨_, rfl, ?_⟩
      refine hK.out _ _ trivial (fun hHeld => ?_)
      clear hK K
      refine norm_ (a' := ?_) ?_ ?_
      rotate_left
      · show Act.put _ (some 12) _ = _
        simp only [Act.put, List.setIfInBounds_toArray, List.set_cons_zero, List.set_cons_succ, i64_w, i32_w]
        rfl
      refine one_ (i := 9) (N := some 13) #[true, true, true, true, true, true, true, true, true, true, false, false] rfl rfl (by kernel_rfl) (by decide) (fun K hK => ?_)
      refine goes_ Try.func63 (by kernel_rfl) rfl #[.int .u32 (sumOf (bytesOf (s.extract 4 s.size))).toNat] (by rfl) rfl rfl (by simp only [List.map_toArray, List.map_cons, List.map_nil]; rfl) ?_
      with_reducible refine (crc_bytes _ _).mono ?_
      rintro e w5 ⟨rfl, hb⟩
      refine ⟨_, rfl, ?_⟩
      have HB := Aside0.mk (below_step (below_drew (Below.refl _ _)) hb)
      refine hK.out _ _ trivial (fun hHeld => ?_)
      clear hK K
      refine norm_ (a' := ?_) ?_ ?_
      rotate_left
      · show Act.put _ (some 13) _ = _
        simp only [Act.put, List.setIfInBounds_toArray, List.set_cons_zero, List.set_cons_succ, i64_w, i32_w]
        rfl
      refine pure_ (i := 10) (N := some 14) (v := ?_) (a' := ?_) #[true, true, true, true, true, true, true, true, true, true, true, false] rfl rfl (by kernel_rfl) (fun _ _ _ h => h) (Or.inl ⟨by rfl, ?_⟩) ?_ ?_
      rotate_left
      · intro w'
        go_simp
        with_reducible rfl
      rotate_left
      · simp only [Act.put, List.setIfInBounds_toArray, List.set_cons_zero, List.set_cons_succ, i64_w, i32_w]
        rfl
      refine pure_ (i := 11) (N := some 15) (v := ?_) (a' := ?_) #[true, true, true, true, true, true, true, true, true, true, true, true] rfl rfl (by kernel_rfl) (fun _ _ _ h => h) (Or.inl ⟨by rfl, ?_⟩) ?_ ?_
      rotate_left
      · intro w'
        go_simp
        with_reducible rfl
      rotate_left
      · simp only [Act.put, List.setIfInBounds_toArray, List.set_cons_zero, List.set_cons_succ, i64_w, i32_w]
        rfl
      refine done_ (by kernel_rfl) ?_
      go_wp2
      go_ret2
      rw [HE.out.1, HE.out.2]
      exact ⟨rfl, HB.out⟩
    · have he : opens s = false := by simpa using he
      have hc : ((s.extract 0 4).toList == (strOfNums (sumBytes (sumOf (bytesOf (s.extract 4 s.size))))).toList) = false := by rw [← HO.out]; exact he
      have HE : Aside0 (opened s = ByteArray.empty ∧ opens s = false) := ⟨by unfold opened; rw [he]; rfl, he⟩
      clear he
      go_enter Try.func54, Try.ntmps54
      go_wp2_with fail
      refine start_ (n := 12) (S := fun w' => True) (ds := []) #[false, false, false, false, false, false, false, false, false, false, false, false] (by kernel_rfl) rfl rfl trivial (fun hHeld => ?_)
      refine pure_ (i := 0) (N := some 4) (v := ?_) (a' := ?_) #[true, false, false, false, false, false, false, false, false, false, false, false] rfl rfl (by kernel_rfl) (fun _ _ _ h => h) (Or.inl ⟨by rfl, ?_⟩) ?_ ?_
      rotate_left
      · intro w'
        go_simp
        with_reducible rfl
      rotate_left
      · simp only [Act.put, List.setIfInBounds_toArray, List.set_cons_zero, List.set_cons_succ, i64_w, i32_w]
        rfl
      refine pure_ (i := 1) (N := some 5) (v := ?_) (a' := ?_) #[true, true, false, false, false, false, false, false, false, false, false, false] rfl rfl (by kernel_rfl) (fun _ _ _ h => h) (Or.inl ⟨by rfl, ?_⟩) ?_ ?_
      rotate_left
      · intro w'
        go_simp
        with_reducible rfl
      rotate_left
      · simp only [Act.put, List.setIfInBounds_toArray, List.set_cons_zero, List.set_cons_succ, i64_w, i32_w]
        rfl
      refine pure_ (i := 2) (N := some 6) (v := ?_) (a' := ?_) #[true, true, true, false, false, false, false, false, false, false, false, false] rfl rfl (by kernel_rfl) (fun _ _ _ h => h) (Or.inl ⟨by rfl, ?_⟩) ?_ ?_
      rotate_left
      · intro w'
        go_simp
        with_reducible rfl
      rotate_left
      · simp only [Act.put, List.setIfInBounds_toArray, List.set_cons_zero, List.set_cons_succ, i64_w, i32_w]
        rfl
      refine pure_ (i := 3) (N := some 7) (v := ?_) (a' := ?_) #[true, true, true, true, false, false, false, false, false, false, false, false] rfl rfl (by kernel_rfl) (fun _ _ _ h => h) (Or.inl ⟨by rfl, ?_⟩) ?_ ?_
      rotate_left
      · intro w'
        go_simp
        with_reducible rfl
      rotate_left
      · simp only [Act.put, List.setIfInBounds_toArray, List.set_cons_zero, List.set_cons_succ, i64_w, i32_w]
        rfl
      refine pure_ (i := 4) (N := some 8) (v := ?_) (a' := ?_) #[true, true, true, true, true, false, false, false, false, false, false, false] rfl rfl (by kernel_rfl) (fun _ _ _ h => h) (Or.inl ⟨by rfl, ?_⟩) ?_ ?_
      rotate_left
      · intro w'
        go_simp
        with_reducible rfl
      rotate_left
      · simp only [Act.put, List.setIfInBounds_toArray, List.set_cons_zero, List.set_cons_succ, i64_w, i32_w]
        rfl
      refine pure_ (i := 5) (N := some 9) (v := ?_) (a' := ?_) #[true, true, true, true, true, true, false, false, false, false, false, false] rfl rfl (by kernel_rfl) (fun _ _ _ h => h) (Or.inl ⟨by rfl, ?_⟩) ?_ ?_
      rotate_left
      · intro w'
        go_simp
        with_reducible rfl
      rotate_left
      · simp only [Act.put, List.setIfInBounds_toArray, List.set_cons_zero, List.set_cons_succ, i64_w, i32_w]
        rfl
      refine pure_ (i := 6) (N := some 10) (v := ?_) (a' := ?_) #[true, true, true, true, true, true, true, false, false, false, false, false] rfl rfl (by kernel_rfl) (fun _ _ _ h => h) (Or.inl ⟨by rfl, ?_⟩) ?_ ?_
      rotate_left
      · intro w'
        go_simp
        with_reducible rfl
      rotate_left
      · simp only [Act.put, List.setIfInBounds_toArray, List.set_cons_zero, List.set_cons_succ, i64_w, i32_w]
        rfl
      refine pure_ (i := 7) (N := some 11) (v := ?_) (a' := ?_) #[true, true, true, true, true, true, true, true, false, false, false, false] rfl rfl (by kernel_rfl) (fun _ _ _ h => h) (Or.inl ⟨by rfl, ?_⟩) ?_ ?_
      rotate_left
      · intro w'
        go_simp
        with_reducible rfl
      rotate_left
      · simp only [Act.put, List.setIfInBounds_toArray, List.set_cons_zero, List.set_cons_succ, i64_w, i32_w]
        rfl
      refine one_ (i := 8) (N := some 12) #[true, true, true, true, true, true, true, true, true, false, false, false] rfl rfl (by kernel_rfl) (by decide) (fun K hK => ?_)
      refine goes_ Try.func64 (by kernel_rfl) rfl #[.string (s.extract 4 s.size)] (by rfl) rfl rfl (by simp only [List.map_toArray, List.map_cons, List.map_nil]; rfl) ?_
      with_reducible refine (crc_Sum _ _ HZ.out).mono ?_
      rintro e w4 ⟨rfl, rfl⟩
      refine ⟨_, rfl, ?_⟩
      refine hK.out _ _ trivial (fun hHeld => ?_)
      clear hK K
      refine norm_ (a' := ?_) ?_ ?_
      rotate_left
      · show Act.put _ (some 12) _ = _
        simp only [Act.put, List.setIfInBounds_toArray, List.set_cons_zero, List.set_cons_succ, i64_w, i32_w]
        rfl
      refine one_ (i := 9) (N := some 13) #[true, true, true, true, true, true, true, true, true, true, false, false] rfl rfl (by kernel_rfl) (by decide) (fun K hK => ?_)
      refine goes_ Try.func63 (by kernel_rfl) rfl #[.int .u32 (sumOf (bytesOf (s.extract 4 s.size))).toNat] (by rfl) rfl rfl (by simp only [List.map_toArray, List.map_cons, List.map_nil]; rfl) ?_
      with_reducible refine (crc_bytes _ _).mono ?_
      rintro e w5 ⟨rfl, hb⟩
      refine ⟨_, rfl, ?_⟩
      have HB := Aside0.mk (below_step (below_drew (Below.refl _ _)) hb)
      refine hK.out _ _ trivial (fun hHeld => ?_)
      clear hK K
      refine norm_ (a' := ?_) ?_ ?_
      rotate_left
      · show Act.put _ (some 13) _ = _
        simp only [Act.put, List.setIfInBounds_toArray, List.set_cons_zero, List.set_cons_succ, i64_w, i32_w]
        rfl
      refine pure_ (i := 10) (N := some 14) (v := ?_) (a' := ?_) #[true, true, true, true, true, true, true, true, true, true, true, false] rfl rfl (by kernel_rfl) (fun _ _ _ h => h) (Or.inl ⟨by rfl, ?_⟩) ?_ ?_
      rotate_left
      · intro w'
        go_simp
        with_reducible rfl
      rotate_left
      · simp only [Act.put, List.setIfInBounds_toArray, List.set_cons_zero, List.set_cons_succ, i64_w, i32_w]
        rfl
      refine pure_ (i := 11) (N := some 15) (v := ?_) (a' := ?_) #[true, true, true, true, true, true, true, true, true, true, true, true] rfl rfl (by kernel_rfl) (fun _ _ _ h => h) (Or.inl ⟨by rfl, ?_⟩) ?_ ?_
      rotate_left
      · intro w'
        go_simp
        with_reducible rfl
      rotate_left
      · simp only [Act.put, List.setIfInBounds_toArray, List.set_cons_zero, List.set_cons_succ, i64_w, i32_w]
        rfl
      refine done_ (by kernel_rfl) ?_
      go_wp2
      go_ret2
      rw [HE.out.1, HE.out.2]
      exact ⟨rfl, HB.out⟩

set_option maxHeartbeats 1000000 in
theorem ref_Seal (s : ByteArray) (w : World) (hs : s.size ≤ 140737488351232) :
    Calls Try.prog 52 #[.string s] w fun e w' => e = .returned (.string (sealed s)) ∧ Below w.heap.size w w' := by
  have HZ : (strOfNums (sumBytes (sumOf (bytesOf s)))).size + s.size ≤ 9223372036854775807 := by rw [sumBytes_size]; omega
  obtain ⟨c, hc⟩ : ∃ c, c = sumOf (bytesOf s) := ⟨_, rfl⟩
  have hl := lt32 c
  have HC := Aside0.mk hc
  rw [← hc] at HZ
  have HSE : Aside0 (strOfNums (sumBytes c) ++ s = sealed s) := ⟨by rw [hc]; rfl⟩
  have hcv : ∀ t, Sem.run Try.prog (convert 88 9 (.slice (some ⟨w.heap.size, 0, none⟩) 4 4)) (w.alloc (.cells #[.int .u8 ((c.toNat : Int) % 256), .int .u8 ((c.toNat : Int) / 256 % 256), .int .u8 ((c.toNat : Int) / 65536 % 256), .int .u8 ((c.toNat : Int) / 16777216)] t)) = .ok (.string (strOfNums (sumBytes c))) (w.alloc (.cells #[.int .u8 ((c.toNat : Int) % 256), .int .u8 ((c.toNat : Int) / 256 % 256), .int .u8 ((c.toNat : Int) / 65536 % 256), .int .u8 ((c.toNat : Int) / 16777216)] t)) := fun t => string_of_reads Try.underlying88 Try.underlying5 Try.underlying9 (reads4 w t _ _ _ _)
  clear hc
  go_enter Try.func52, Try.ntmps52
  go_wp2_with fail
  refine (ref_Sum s _ (by omega)).mono ?_
  rintro e w1 ⟨rfl, rfl⟩
  rw [← HC.out]
  go_wp2
  go_ret
  rw [← HSE.out]
  exact ⟨rfl, below_alloc (Below.refl _ _) _⟩

theorem cut_join (s : ByteArray) (h : 4 ≤ s.size) : s.extract 0 4 ++ s.extract 4 s.size = s := by
  apply ByteArray.ext
  simp [ByteArray.data_extract, h]
theorem append_inj4 {a b x : ByteArray} (h : a ++ x = b ++ x) : a = b := by
  have := congrArg (fun y => y.data.toList) h
  simp only [ByteArray.data_append, Array.toList_append] at this
  have h2 := List.append_inj_left' this rfl
  apply ByteArray.ext
  exact Array.toList_inj.1 h2
theorem opens_ref (s : ByteArray) (h : 4 ≤ s.size) : opens s = ((sealed (s.extract 4 s.size)).toList == s.toList) := by
  unfold opens sealed
  rw [decide_eq_true h, Bool.true_and, Bool.eq_iff_iff, beq_iff_eq, beq_iff_eq]
  constructor
  · intro he
    rw [← C02.str_inj he, cut_join s h]
  · intro he
    have he2 := C02.str_inj he
    rw [append_inj4 (a := strOfNums (sumBytes (sumOf (bytesOf (s.extract 4 s.size))))) (b := s.extract 0 4) (x := s.extract 4 s.size) (by rw [he2, cut_join s h])]

set_option maxHeartbeats 1000000 in
theorem ref_Open (s : ByteArray) (w : World) (hs : s.size ≤ 140737488351232) :
    Calls Try.prog 59 #[.string s] w fun e w' => e = .returned (.tuple #[.string (opened s), .bool (opens s)]) ∧ Below w.heap.size w w' := by
  have HS := Aside0.mk hs
  by_cases c : s.size < 4
  · have c0 : decide ((s.size : Int) < 4) = true := decide_eq_true (by omega)
    have c1 : decide (s.size < 4) = true := decide_eq_true c
    have HO : Aside0 (opens s = false ∧ opened s = ByteArray.empty) := ⟨by
      have h : opens s = false := by unfold opens; rw [decide_eq_false (by omega)]; rfl
      exact ⟨h, by unfold opened; rw [h]; rfl⟩⟩
    clear c hs
    go_enter Try.func59, Try.ntmps59
    go_wp2
    go_ret2
    rw [HO.out.1, HO.out.2]
    exact ⟨rfl, Below.refl _ _⟩
  · have c0 : decide ((s.size : Int) < 4) = false := decide_eq_false (by omega)
    have c1 : decide (s.size < 4) = false := decide_eq_false c
    have h4 : (4 : Int) ≤ s.size := by omega
    have HZ : Aside0 ((s.extract 4 s.size).size ≤ 140737488351232) := ⟨by rw [ByteArray.size_extract]; omega⟩
    have HO := Aside0.mk (opens_ref s (by omega))
    clear c hs
    by_cases he : opens s = true
    · have hc : ((sealed (s.extract 4 s.size)).toList == s.toList) = true := by rw [← HO.out]; exact he
      have HE : Aside0 (opened s = s.extract 4 s.size ∧ opens s = true) := ⟨by unfold opened; rw [he]; rfl, he⟩
      clear he
      go_enter Try.func59, Try.ntmps59
      go_wp2_with fail
      refine (ref_Seal _ _ HZ.out).mono ?_
      rintro e w1 ⟨rfl, hb⟩
      go_wp2
      go_ret2
      rw [HE.out.1, HE.out.2]
      exact ⟨rfl, hb⟩
    · have he : opens s = false := by simpa using he
      have hc : ((sealed (s.extract 4 s.size)).toList == s.toList) = false := by rw [← HO.out]; exact he
      have HE : Aside0 (opened s = ByteArray.empty ∧ opens s = false) := ⟨by unfold opened; rw [he]; rfl, he⟩
      clear he
      go_enter Try.func59, Try.ntmps59
      go_wp2_with fail
      refine (ref_Seal _ _ HZ.out).mono ?_
      rintro e w1 ⟨rfl, hb⟩
      go_wp2
      go_ret2
      rw [HE.out.1, HE.out.2]
      exact ⟨rfl, hb⟩
end Go.Proofs.Ytmpgknemhmoboaa.C03
