import Derived.Test.YtmpgknemhmoboaaS17o
/- Contracts of the document's answer for package hop, by hand: what is to be sent. -/
namespace Go.Proofs.Ytmpgknemhmoboaa.S17
set_option linter.unusedSimpArgs false
set_option linter.unusedVariables false
open Go.RowKit Go.Proofs.YtmpgknemhmoboaaW.PrintWords Go.Proofs.YtmpgknemhmoboaaW.PrintLast Go.Proofs.YtmpgknemhmoboaaW.PrintMore Go.Proofs.Ytmpgknemhmoboaa.Base Go.Proofs.Ytmpgknemhmoboaa.Q17h Go.Proofs.Ytmpgknemhmoboaa.Pl
theorem take_step (xs : List S98) (i : Nat) (h : i < xs.length) : xs.take (i + 1) = xs.take i ++ [rd_T98 xs (i : Int)] := by
  rw [List.take_add_one]
  unfold rd_T98
  simp [List.getD_eq_getElem?_getD, List.getElem?_eq_getElem h]
theorem acc_step (xs : List S98) (i fr : Nat) (h : i < xs.length) : (xs.take (i + 1)).drop fr = if fr ≤ i then (xs.take i).drop fr ++ [rd_T98 xs (i : Int)] else (xs.take i).drop fr := by
  rw [take_step xs i h]
  split
  · rw [List.drop_append_of_le_length (by rw [List.length_take]; omega)]
  · rw [List.drop_eq_nil_of_le (by simp; omega), List.drop_eq_nil_of_le (by rw [List.length_take]; omega)]
set_option maxRecDepth 100000 in
set_option maxHeartbeats 4000000 in
theorem B_Out {w : World} {base g n c : Nat} {f0 f1 f2 f4 f5 f6 : Int} {A : Option Addr} {xs : List S98} (h : IsB w g f0 f1 f2 A n c f4 f5 f6) (hq : Kd.Q k98 98 w base (fun _ => True) (.slice A n c) xs) (hb : 0 ≤ f1 ∧ f1 ≤ 1099511627776 ∧ n ≤ 64) (hs : f1 ≤ f2 ∧ f2 ≤ f1 + n) (hw : 1 ≤ f5 ∧ f5 ≤ 16) (hnum : ∀ i : Nat, i < n → (rd_T98 xs (i : Int)).f0 = f1 + 1 + i) :
    Calls Try.prog 28 #[.pointer (some ⟨g, 0, none⟩)] w fun e w' => ∃ v, e = .returned v ∧ Kd.R k98 98 w' w.heap.size (fun _ => True) v ((xs.take (outTo n f1 f2 f5).toNat).drop (f2 - f1).toNat) ∧ IsB w' g f0 f1 (f1 + outTo n f1 f2 f5) A n c f4 f5 f6 ∧ Upd (· = g) w w' := by
  have HI := Aside0.mk h
  have HN := Aside0.mk hb
  have HS := Aside0.mk hs
  have HW := Aside0.mk hw
  have HC := Aside0.mk (Kd.Q_reads' hq).2.2
  have HL := Aside0.mk (Kd.Q_reads' hq).1
  have HM := Aside0.mk hnum
  obtain ⟨fr, hfr⟩ : ∃ fr : Nat, f2 - f1 = fr := ⟨(f2 - f1).toNat, by omega⟩
  have HF := Aside0.mk hfr
  clear h hq hb hs hw hnum hfr
  have HB := Aside0.mk (Below.refl w.heap.size w)
  go_enter Try.func28, Try.ntmps28
  go_wp2
  go_loopg [3, 4] (n + 1) (fun kq v3 v4 W' => ∃ i : Nat, v4 = .int .i64 i ∧ Aside0 (i ≤ n ∧ (i : Int) ≤ f5 ∧ i + kq = n + 1) ∧ Aside0 (Kd.R k98 98 W' w.heap.size (fun _ => True) v3 ((xs.take i).drop fr)) ∧ Aside0 (Below w.heap.size w W'))
  case atStart => exact ⟨0, rfl, ⟨by have := HW.out; omega⟩, ⟨by rw [List.take_zero, List.drop_nil]; exact Kd.R_nil _ _ _ _ _⟩, ⟨(by repeat (first | (with_reducible first | exact HB.out | apply below_alloc | apply pw_below_drewN | apply below_drew1) | exact HB.out))⟩⟩
  case round =>
    obtain ⟨i, rfl, HK, HR, HB2⟩ := hrel
    have HI2 := Aside0.mk (B_below HI.out HB2.out)
    clear HB
    have HB := HB2
    clear HB2
    have hc3 : wr.cell? ⟨g, 3, none⟩ = some (.slice A n c) := blk_at (i := 3) HI2.out rfl
    have hc5 : wr.cell? ⟨g, 5, none⟩ = some (.int .i64 f5) := blk_at (i := 5) HI2.out rfl
    by_cases c1 : i < n ∧ (i : Int) < f5
    · have e1 : decide ((i : Int) < (n : Int)) = true := decide_eq_true (by omega)
      have e2 : decide ((i : Int) < f5) = true := decide_eq_true c1.2
      have HX1 := Aside0.mk c1
      obtain ⟨ad, rfl, hx0, hx1⟩ := at_T98 HC.out (i : Int) (by omega) (by have := HL.out; omega)
      rw [Int.toNat_natCast] at hx0 hx1
      replace hx0 := (HB.out.cell (World.block_lt_of_cell? w _ hx0)).trans hx0
      replace hx1 := (HB.out.cell (World.block_lt_of_cell? w _ hx1)).trans hx1
      have p1 : ((i : Int) < (n : Int)) = True := eq_true (by omega)
      have p2 : (i < n) = True := eq_true c1.1
      have hNi := HM.out i c1.1
      obtain ⟨Ni, hNi2⟩ : ∃ x, (rd_T98 xs (i : Int)).f0 = x := ⟨_, rfl⟩
      obtain ⟨Ti, hTi2⟩ : ∃ x, (rd_T98 xs (i : Int)).f1 = x := ⟨_, rfl⟩
      rw [hNi2] at hx0 hNi
      rw [hTi2] at hx1
      have HE : Aside0 (rd_T98 xs (i : Int) = ⟨Ni, Ti⟩) := ⟨by rw [← hNi2, ← hTi2]⟩
      have hw1 : wrap64 ((i : Int) + 1) = ((i + 1 : Nat) : Int) := by rw [w64 (by have := HN.out; omega) (by have := HN.out; omega)]; omega
      have HAC := Aside0.mk (acc_step xs i fr (by have := HL.out; omega))
      rw [HE.out] at HAC
      by_cases c3 : fr ≤ i
      · have e3 : decide (Ni > f2) = true := decide_eq_true (by have := HF.out; omega)
        rw [if_pos c3] at HAC
        clear c1 c3 hNi hNi2 hTi2
        go_wp2
        refine start_ (n := 13) (S := fun w' => w'.cell? ⟨g, 3, none⟩ = some (.slice (some ad) n c) ∧ w'.cell? (ad.add (i * 2)) = some (.int .i64 Ni) ∧ w'.cell? ⟨g, 2, none⟩ = some (.int .i64 f2)) (ds := []) #[false, false, false, false, false, false, false, false, false, false, false, false, false] (by kernel_rfl) rfl rfl ⟨blk_at (i := 3) HI2.out rfl, hx0, blk_at (i := 2) HI2.out rfl⟩ (fun hHeld => ?_)
        refine pure_ (i := 0) (N := some 22) (v := ?_) (a' := ?_) #[true, false, false, false, false, false, false, false, false, false, false, false, false] rfl rfl (by kernel_rfl) (fun _ _ _ h => h) (Or.inl ⟨by rfl, ?_⟩) ?_ ?_
        rotate_left
        · intro w'
          go_simp
          with_reducible rfl
        rotate_left
        · simp only [Act.put, List.setIfInBounds_toArray, List.set_cons_zero, List.set_cons_succ, i64_w, i32_w]
          rfl
        refine pure_ (i := 1) (N := some 23) (v := ?_) (a' := ?_) #[true, true, false, false, false, false, false, false, false, false, false, false, false] rfl rfl (by kernel_rfl) (fun _ _ _ h => h) (Or.inl ⟨by rfl, ?_⟩) ?_ ?_
        rotate_left
        · intro w'
          go_simp
          with_reducible rfl
        rotate_left
        · simp only [Act.put, List.setIfInBounds_toArray, List.set_cons_zero, List.set_cons_succ, i64_w, i32_w]
          rfl
        refine pure_ (i := 2) (N := some 24) (v := ?_) (a' := ?_) #[true, true, true, false, false, false, false, false, false, false, false, false, false] rfl rfl (by kernel_rfl) (fun _ _ _ h => h) (Or.inl ⟨by rfl, ?_⟩) ?_ ?_
        rotate_left
        · intro w'
          go_simp
          with_reducible rfl
        rotate_left
        · simp only [Act.put, List.setIfInBounds_toArray, List.set_cons_zero, List.set_cons_succ, i64_w, i32_w]
          rfl
        refine pure_ (i := 4) (N := some 26) (v := ?_) (a' := ?_) #[true, true, true, false, true, false, false, false, false, false, false, false, false] rfl rfl (by kernel_rfl) (fun _ _ _ h => h) (Or.inl ⟨by rfl, ?_⟩) ?_ ?_
        rotate_left
        · intro w'
          go_simp
          with_reducible rfl
        rotate_left
        · simp only [Act.put, List.setIfInBounds_toArray, List.set_cons_zero, List.set_cons_succ, i64_w, i32_w]
          rfl
        refine pure_ (i := 8) (N := some 30) (v := ?_) (a' := ?_) #[true, true, true, false, true, false, false, false, true, false, false, false, false] rfl rfl (by kernel_rfl) (fun _ _ _ h => h) (Or.inl ⟨by rfl, ?_⟩) ?_ ?_
        rotate_left
        · intro w'
          go_simp
          with_reducible rfl
        rotate_left
        · simp only [Act.put, List.setIfInBounds_toArray, List.set_cons_zero, List.set_cons_succ, i64_w, i32_w]
          rfl
        refine pure_ (i := 9) (N := some 31) (v := ?_) (a' := ?_) #[true, true, true, false, true, false, false, false, true, true, false, false, false] rfl rfl (by kernel_rfl) (fun _ _ _ h => h) (Or.inl ⟨by rfl, ?_⟩) ?_ ?_
        rotate_left
        · intro w'
          go_simp
          with_reducible rfl
        rotate_left
        · simp only [Act.put, List.setIfInBounds_toArray, List.set_cons_zero, List.set_cons_succ, i64_w, i32_w]
          rfl
        refine pure_ (i := 10) (N := some 32) (v := ?_) (a' := ?_) #[true, true, true, false, true, false, false, false, true, true, true, false, false] rfl rfl (by kernel_rfl) (fun _ _ _ h => h) (Or.inl ⟨by rfl, ?_⟩) ?_ ?_
        rotate_left
        · intro w'
          go_simp
          with_reducible rfl
        rotate_left
        · simp only [Act.put, List.setIfInBounds_toArray, List.set_cons_zero, List.set_cons_succ, i64_w, i32_w]
          rfl
        refine take_ (i := 3) (N := some 25) (v := ?_) (a' := ?_) #[true, true, true, true, true, false, false, false, true, true, true, false, false] rfl rfl (by kernel_rfl) (fun _ _ _ h => h) (Or.inl ⟨by rfl, ?_⟩) hHeld ?_ ?_
        rotate_left
        · rintro w' ⟨s0, s1, s2⟩
          go_simp
          with_reducible rfl
        rotate_left
        · simp only [Act.put, List.setIfInBounds_toArray, List.set_cons_zero, List.set_cons_succ, i64_w, i32_w]
          rfl
        refine pure_ (i := 5) (N := some 27) (v := ?_) (a' := ?_) #[true, true, true, true, true, true, false, false, true, true, true, false, false] rfl rfl (by kernel_rfl) (fun _ _ _ h => h) (Or.inl ⟨by rfl, ?_⟩) ?_ ?_
        rotate_left
        · intro w'
          go_simp
          with_reducible rfl
        rotate_left
        · simp only [Act.put, List.setIfInBounds_toArray, List.set_cons_zero, List.set_cons_succ, i64_w, i32_w]
          rfl
        refine pure_ (i := 6) (N := some 28) (v := ?_) (a' := ?_) #[true, true, true, true, true, true, true, false, true, true, true, false, false] rfl rfl (by kernel_rfl) (fun _ _ _ h => h) (Or.inl ⟨by rfl, ?_⟩) ?_ ?_
        rotate_left
        · intro w'
          go_simp
          with_reducible rfl
        rotate_left
        · simp only [Act.put, List.setIfInBounds_toArray, List.set_cons_zero, List.set_cons_succ, i64_w, i32_w]
          rfl
        refine take_ (i := 7) (N := some 29) (v := ?_) (a' := ?_) #[true, true, true, true, true, true, true, true, true, true, true, false, false] rfl rfl (by kernel_rfl) (fun _ _ _ h => h) (Or.inl ⟨by rfl, ?_⟩) hHeld ?_ ?_
        rotate_left
        · rintro w' ⟨s0, s1, s2⟩
          go_simp
          with_reducible rfl
        rotate_left
        · simp only [Act.put, List.setIfInBounds_toArray, List.set_cons_zero, List.set_cons_succ, i64_w, i32_w]
          rfl
        refine take_ (i := 11) (N := some 33) (v := ?_) (a' := ?_) #[true, true, true, true, true, true, true, true, true, true, true, true, false] rfl rfl (by kernel_rfl) (fun _ _ _ h => h) (Or.inl ⟨by rfl, ?_⟩) hHeld ?_ ?_
        rotate_left
        · rintro w' ⟨s0, s1, s2⟩
          go_simp
          with_reducible rfl
        rotate_left
        · simp only [Act.put, List.setIfInBounds_toArray, List.set_cons_zero, List.set_cons_succ, i64_w, i32_w]
          rfl
        refine pure_ (i := 12) (N := some 34) (v := ?_) (a' := ?_) #[true, true, true, true, true, true, true, true, true, true, true, true, true] rfl rfl (by kernel_rfl) (fun _ _ _ h => h) (Or.inl ⟨by rfl, ?_⟩) ?_ ?_
        rotate_left
        · intro w'
          go_simp
          with_reducible rfl
        rotate_left
        · simp only [Act.put, List.setIfInBounds_toArray, List.set_cons_zero, List.set_cons_succ, i64_w, i32_w]
          rfl
        refine done_ (by kernel_rfl) ?_
        have HI3 := Aside0.mk (B_drew HI2.out)
        have HB3 := Aside0.mk (below_drew HB.out)
        have HR3 := Aside0.mk (Kd.R_drew HR.out)
        have hx03 : wr.drew.cell? (ad.add (i * 2)) = some (.int .i64 Ni) := hx0
        have hx13 : wr.drew.cell? ⟨(ad.add (i * 2)).block, (ad.add (i * 2)).off + 1, none⟩ = some (.string Ti) := hx1
        have hc33 : wr.drew.cell? ⟨g, 3, none⟩ = some (.slice (some ad) n c) := hc3
        clear HI2 HB HR hx0 hx1 hc3 hc5
        have HI2 := HI3
        have HB := HB3
        have HR := HR3
        clear HI3 HB3 HR3
        generalize wr.drew = w2 at HI2 HB HR hx03 hx13 hc33 ⊢
        go_wp2_with (first | ((with_reducible refine gate_builtin (b := .append) (xs := #[.tmp 35, .tmp 43]) rfl ?_); at_builtin; refine Kd.R_append (k98) (w0 := w) w.heap.size rfl (.tmp 35) (.tmp 43) 52 98 (.agg #[.int .i64 0, .string ByteArray.empty]) 24 rfl Try.underlying52 infoB rfl (by decide) (by omega) u3 ((xs.take i).drop fr) ⟨Ni, Ti⟩ [.int .i64 Ni, .string Ti] (fun _ => True) (fun _ => False) rfl rfl ?aP (fun _ hk => hk.elim) ?aF ?aO ?aB ?aS ?aL ?_; (case aP => exact k98_mkM _ _ _ ⟨Ni, Ti⟩); (case aB => exact (by repeat (first | (with_reducible first | exact HB.out | apply below_alloc | apply pw_below_drewN | apply below_drew1) | exact HB.out))); (case aF => exact (fun _ _ => trivial)); (case aO => exact (by (with_reducible repeat (first | apply Kd.R_alloc | apply Kd.R_drewN | apply Kd.R_drew)); exact HR.out)); (case aS => exact (below_size (by repeat (first | (with_reducible first | exact HB.out | apply below_alloc | apply pw_below_drewN | apply below_drew1) | exact HB.out)))); (case aL => (rw [List.length_drop, List.length_take]; have := HN.out; have := HX1.out; omega)); intro va wa ho hb hg hat; have n0_ := Aside0.mk hb; have n1_ := Aside0.mk ho; clear HB HR; have HB := n0_; have HR := n1_; clear n0_ n1_ ho hb hg hat))
        go_roundg (gk - 1)
        case measure => have := HK.out; omega
        case rel => exact ⟨i + 1, by rw [hw1], ⟨by have := HK.out; have := HX1.out; omega⟩, ⟨by rw [HAC.out]; (with_reducible repeat (first | apply Kd.R_alloc | apply Kd.R_drewN | apply Kd.R_drew)); exact HR.out⟩, ⟨(by repeat (first | (with_reducible first | exact HB.out | apply below_alloc | apply pw_below_drewN | apply below_drew1) | exact HB.out))⟩⟩
      · have e3 : decide (Ni > f2) = false := decide_eq_false (by have := HF.out; omega)
        rw [if_neg c3] at HAC
        clear c1 c3 hNi hNi2 hTi2
        go_wp2
        refine start_ (n := 13) (S := fun w' => w'.cell? ⟨g, 3, none⟩ = some (.slice (some ad) n c) ∧ w'.cell? (ad.add (i * 2)) = some (.int .i64 Ni) ∧ w'.cell? ⟨g, 2, none⟩ = some (.int .i64 f2)) (ds := []) #[false, false, false, false, false, false, false, false, false, false, false, false, false] (by kernel_rfl) rfl rfl ⟨blk_at (i := 3) HI2.out rfl, hx0, blk_at (i := 2) HI2.out rfl⟩ (fun hHeld => ?_)
        refine pure_ (i := 0) (N := some 22) (v := ?_) (a' := ?_) #[true, false, false, false, false, false, false, false, false, false, false, false, false] rfl rfl (by kernel_rfl) (fun _ _ _ h => h) (Or.inl ⟨by rfl, ?_⟩) ?_ ?_
        rotate_left
        · intro w'
          go_simp
          with_reducible rfl
        rotate_left
        · simp only [Act.put, List.setIfInBounds_toArray, List.set_cons_zero, List.set_cons_succ, i64_w, i32_w]
          rfl
        refine pure_ (i := 1) (N := some 23) (v := ?_) (a' := ?_) #[true, true, false, false, false, false, false, false, false, false, false, false, false] rfl rfl (by kernel_rfl) (fun _ _ _ h => h) (Or.inl ⟨by rfl, ?_⟩) ?_ ?_
        rotate_left
        · intro w'
          go_simp
          with_reducible rfl
        rotate_left
        · simp only [Act.put, List.setIfInBounds_toArray, List.set_cons_zero, List.set_cons_succ, i64_w, i32_w]
          rfl
        refine pure_ (i := 2) (N := some 24) (v := ?_) (a' := ?_) #[true, true, true, false, false, false, false, false, false, false, false, false, false] rfl rfl (by kernel_rfl) (fun _ _ _ h => h) (Or.inl ⟨by rfl, ?_⟩) ?_ ?_
        rotate_left
        · intro w'
          go_simp
          with_reducible rfl
        rotate_left
        · simp only [Act.put, List.setIfInBounds_toArray, List.set_cons_zero, List.set_cons_succ, i64_w, i32_w]
          rfl
        refine pure_ (i := 4) (N := some 26) (v := ?_) (a' := ?_) #[true, true, true, false, true, false, false, false, false, false, false, false, false] rfl rfl (by kernel_rfl) (fun _ _ _ h => h) (Or.inl ⟨by rfl, ?_⟩) ?_ ?_
        rotate_left
        · intro w'
          go_simp
          with_reducible rfl
        rotate_left
        · simp only [Act.put, List.setIfInBounds_toArray, List.set_cons_zero, List.set_cons_succ, i64_w, i32_w]
          rfl
        refine pure_ (i := 8) (N := some 30) (v := ?_) (a' := ?_) #[true, true, true, false, true, false, false, false, true, false, false, false, false] rfl rfl (by kernel_rfl) (fun _ _ _ h => h) (Or.inl ⟨by rfl, ?_⟩) ?_ ?_
        rotate_left
        · intro w'
          go_simp
          with_reducible rfl
        rotate_left
        · simp only [Act.put, List.setIfInBounds_toArray, List.set_cons_zero, List.set_cons_succ, i64_w, i32_w]
          rfl
        refine pure_ (i := 9) (N := some 31) (v := ?_) (a' := ?_) #[true, true, true, false, true, false, false, false, true, true, false, false, false] rfl rfl (by kernel_rfl) (fun _ _ _ h => h) (Or.inl ⟨by rfl, ?_⟩) ?_ ?_
        rotate_left
        · intro w'
          go_simp
          with_reducible rfl
        rotate_left
        · simp only [Act.put, List.setIfInBounds_toArray, List.set_cons_zero, List.set_cons_succ, i64_w, i32_w]
          rfl
        refine pure_ (i := 10) (N := some 32) (v := ?_) (a' := ?_) #[true, true, true, false, true, false, false, false, true, true, true, false, false] rfl rfl (by kernel_rfl) (fun _ _ _ h => h) (Or.inl ⟨by rfl, ?_⟩) ?_ ?_
        rotate_left
        · intro w'
          go_simp
          with_reducible rfl
        rotate_left
        · simp only [Act.put, List.setIfInBounds_toArray, List.set_cons_zero, List.set_cons_succ, i64_w, i32_w]
          rfl
        refine take_ (i := 3) (N := some 25) (v := ?_) (a' := ?_) #[true, true, true, true, true, false, false, false, true, true, true, false, false] rfl rfl (by kernel_rfl) (fun _ _ _ h => h) (Or.inl ⟨by rfl, ?_⟩) hHeld ?_ ?_
        rotate_left
        · rintro w' ⟨s0, s1, s2⟩
          go_simp
          with_reducible rfl
        rotate_left
        · simp only [Act.put, List.setIfInBounds_toArray, List.set_cons_zero, List.set_cons_succ, i64_w, i32_w]
          rfl
        refine pure_ (i := 5) (N := some 27) (v := ?_) (a' := ?_) #[true, true, true, true, true, true, false, false, true, true, true, false, false] rfl rfl (by kernel_rfl) (fun _ _ _ h => h) (Or.inl ⟨by rfl, ?_⟩) ?_ ?_
        rotate_left
        · intro w'
          go_simp
          with_reducible rfl
        rotate_left
        · simp only [Act.put, List.setIfInBounds_toArray, List.set_cons_zero, List.set_cons_succ, i64_w, i32_w]
          rfl
        refine pure_ (i := 6) (N := some 28) (v := ?_) (a' := ?_) #[true, true, true, true, true, true, true, false, true, true, true, false, false] rfl rfl (by kernel_rfl) (fun _ _ _ h => h) (Or.inl ⟨by rfl, ?_⟩) ?_ ?_
        rotate_left
        · intro w'
          go_simp
          with_reducible rfl
        rotate_left
        · simp only [Act.put, List.setIfInBounds_toArray, List.set_cons_zero, List.set_cons_succ, i64_w, i32_w]
          rfl
        refine take_ (i := 7) (N := some 29) (v := ?_) (a' := ?_) #[true, true, true, true, true, true, true, true, true, true, true, false, false] rfl rfl (by kernel_rfl) (fun _ _ _ h => h) (Or.inl ⟨by rfl, ?_⟩) hHeld ?_ ?_
        rotate_left
        · rintro w' ⟨s0, s1, s2⟩
          go_simp
          with_reducible rfl
        rotate_left
        · simp only [Act.put, List.setIfInBounds_toArray, List.set_cons_zero, List.set_cons_succ, i64_w, i32_w]
          rfl
        refine take_ (i := 11) (N := some 33) (v := ?_) (a' := ?_) #[true, true, true, true, true, true, true, true, true, true, true, true, false] rfl rfl (by kernel_rfl) (fun _ _ _ h => h) (Or.inl ⟨by rfl, ?_⟩) hHeld ?_ ?_
        rotate_left
        · rintro w' ⟨s0, s1, s2⟩
          go_simp
          with_reducible rfl
        rotate_left
        · simp only [Act.put, List.setIfInBounds_toArray, List.set_cons_zero, List.set_cons_succ, i64_w, i32_w]
          rfl
        refine pure_ (i := 12) (N := some 34) (v := ?_) (a' := ?_) #[true, true, true, true, true, true, true, true, true, true, true, true, true] rfl rfl (by kernel_rfl) (fun _ _ _ h => h) (Or.inl ⟨by rfl, ?_⟩) ?_ ?_
        rotate_left
        · intro w'
          go_simp
          with_reducible rfl
        rotate_left
        · simp only [Act.put, List.setIfInBounds_toArray, List.set_cons_zero, List.set_cons_succ, i64_w, i32_w]
          rfl
        refine done_ (by kernel_rfl) ?_
        go_wp2
        go_roundg (gk - 1)
        case measure => have := HK.out; omega
        case rel => exact ⟨i + 1, by rw [hw1], ⟨by have := HK.out; have := HX1.out; omega⟩, ⟨by rw [HAC.out]; (with_reducible repeat (first | apply Kd.R_alloc | apply Kd.R_drewN | apply Kd.R_drew)); exact HR.out⟩, ⟨(by repeat (first | (with_reducible first | exact HB.out | apply below_alloc | apply pw_below_drewN | apply below_drew1) | exact HB.out))⟩⟩
    · by_cases d1 : i < n
      · have e1 : decide ((i : Int) < (n : Int)) = true := decide_eq_true (by omega)
        have e2 : decide ((i : Int) < f5) = false := decide_eq_false (fun h => c1 ⟨d1, h⟩)
        have hi5 : f5 ≤ (i : Int) := by
          have := of_decide_eq_false e2
          omega
        by_cases c4 : fr < i
        · have hlen : ((xs.take i).drop fr).length = i - fr := by rw [List.length_drop, List.length_take]; have := HK.out; have := HL.out; omega
          obtain ⟨A3, k3, hv⟩ := Kd.R_slice HR.out
          rw [hlen] at hv
          subst hv
          have hO : outTo n f1 f2 f5 = (i : Int) := by
            unfold outTo mx mn
            have := HF.out
            have := HK.out
            repeat' split
            all_goals omega
          obtain ⟨ad3, rfl, hy0, _⟩ := at_T98 (Kd.R_reads' HR.out).2.2 ((i - fr - 1 : Nat) : Int) (by omega) (by rw [hlen]; omega)
          have hlast : (rd_T98 ((xs.take i).drop fr) ((i - fr - 1 : Nat) : Int)).f0 = f1 + (i : Int) := by
            have e := HM.out (i - 1) (by have := HK.out; omega)
            have e2 : rd_T98 ((xs.take i).drop fr) ((i - fr - 1 : Nat) : Int) = rd_T98 xs ((i - 1 : Nat) : Int) := by
              unfold rd_T98
              rw [Int.toNat_natCast, Int.toNat_natCast, List.getD_eq_getElem?_getD, List.getD_eq_getElem?_getD, List.getElem?_drop, List.getElem?_take, if_pos (by omega), show fr + (i - fr - 1) = i - 1 from by omega]
            rw [e2, e]
            omega
          rw [hlast, Int.toNat_natCast] at hy0
          have e4 : decide (((i - fr : Nat) : Int) > 0) = true := decide_eq_true (by omega)
          have hw4 : wrap64 (((i - fr : Nat) : Int) - 1) = ((i - fr - 1 : Nat) : Int) := by rw [w64 (by have := HK.out; have := HN.out; omega) (by have := HK.out; have := HN.out; omega)]; omega
          have p5 : (i - fr - 1 < i - fr) = True := eq_true (by omega)
          have p7 : (0 < i - fr) = True := eq_true (by omega)
          have p6 : (((i - fr - 1 : Nat) : Int) < ((i - fr : Nat) : Int)) = True := eq_true (by omega)
          have hf2 := blk_frozen HI2.out 2
          have hc2 : wr.cell? ⟨g, 2, none⟩ = some (.int .i64 f2) := blk_at (i := 2) HI2.out rfl
          have HO := Aside0.mk hO
          clear hO hlast c4
          go_wp2
          go_ret
          rw [HO.out, HF.out]
          simp only [Int.toNat_natCast]
          exact ⟨_, rfl, Kd.R_set HR.out HI2.out (fun q hq => by
            change q ∈ ([98] : List Nat) at hq
            simp at hq
            subst hq
            decide) 2 _, blk_set HI2.out 2 _, (Upd.of_below (F := (· = g)) HB.out).setCell (p := ⟨g, 2, none⟩) (fun _ => rfl) _⟩
        · have hO : outTo n f1 f2 f5 = (fr : Int) := by
            unfold outTo mx mn
            have := HF.out
            have := HK.out
            repeat' split
            all_goals omega
          have hnil : (xs.take i).drop fr = [] := List.drop_eq_nil_of_le (by rw [List.length_take]; omega)
          obtain ⟨A3, k3, hv⟩ := Kd.R_slice HR.out
          rw [hnil] at hv
          subst hv
          have HO := Aside0.mk hO
          have HNIL := Aside0.mk hnil
          clear hO hnil c4
          go_wp2
          go_ret
          rw [HO.out, HF.out]
          simp only [Int.toNat_natCast]
          have el : List.drop fr (List.take fr xs) = List.drop fr (List.take i xs) := by rw [HNIL.out, List.drop_eq_nil_of_le (by rw [List.length_take]; omega)]
          have ef : f1 + (fr : Int) = f2 := by have := HF.out; omega
          rw [el, ef]
          exact ⟨_, rfl, HR.out, HI2.out, Upd.of_below HB.out⟩
      · have e1 : decide ((i : Int) < (n : Int)) = false := decide_eq_false (by omega)
        by_cases c4 : fr < i
        · have hlen : ((xs.take i).drop fr).length = i - fr := by rw [List.length_drop, List.length_take]; have := HK.out; have := HL.out; omega
          obtain ⟨A3, k3, hv⟩ := Kd.R_slice HR.out
          rw [hlen] at hv
          subst hv
          have hO : outTo n f1 f2 f5 = (i : Int) := by
            unfold outTo mx mn
            have := HF.out
            have := HK.out
            repeat' split
            all_goals omega
          obtain ⟨ad3, rfl, hy0, _⟩ := at_T98 (Kd.R_reads' HR.out).2.2 ((i - fr - 1 : Nat) : Int) (by omega) (by rw [hlen]; omega)
          have hlast : (rd_T98 ((xs.take i).drop fr) ((i - fr - 1 : Nat) : Int)).f0 = f1 + (i : Int) := by
            have e := HM.out (i - 1) (by have := HK.out; omega)
            have e2 : rd_T98 ((xs.take i).drop fr) ((i - fr - 1 : Nat) : Int) = rd_T98 xs ((i - 1 : Nat) : Int) := by
              unfold rd_T98
              rw [Int.toNat_natCast, Int.toNat_natCast, List.getD_eq_getElem?_getD, List.getD_eq_getElem?_getD, List.getElem?_drop, List.getElem?_take, if_pos (by omega), show fr + (i - fr - 1) = i - 1 from by omega]
            rw [e2, e]
            omega
          rw [hlast, Int.toNat_natCast] at hy0
          have e4 : decide (((i - fr : Nat) : Int) > 0) = true := decide_eq_true (by omega)
          have hw4 : wrap64 (((i - fr : Nat) : Int) - 1) = ((i - fr - 1 : Nat) : Int) := by rw [w64 (by have := HK.out; have := HN.out; omega) (by have := HK.out; have := HN.out; omega)]; omega
          have p5 : (i - fr - 1 < i - fr) = True := eq_true (by omega)
          have p7 : (0 < i - fr) = True := eq_true (by omega)
          have p6 : (((i - fr - 1 : Nat) : Int) < ((i - fr : Nat) : Int)) = True := eq_true (by omega)
          have hf2 := blk_frozen HI2.out 2
          have hc2 : wr.cell? ⟨g, 2, none⟩ = some (.int .i64 f2) := blk_at (i := 2) HI2.out rfl
          have HO := Aside0.mk hO
          clear hO hlast c4
          go_wp2
          go_ret
          rw [HO.out, HF.out]
          simp only [Int.toNat_natCast]
          exact ⟨_, rfl, Kd.R_set HR.out HI2.out (fun q hq => by
            change q ∈ ([98] : List Nat) at hq
            simp at hq
            subst hq
            decide) 2 _, blk_set HI2.out 2 _, (Upd.of_below (F := (· = g)) HB.out).setCell (p := ⟨g, 2, none⟩) (fun _ => rfl) _⟩
        · have hO : outTo n f1 f2 f5 = (fr : Int) := by
            unfold outTo mx mn
            have := HF.out
            have := HK.out
            repeat' split
            all_goals omega
          have hnil : (xs.take i).drop fr = [] := List.drop_eq_nil_of_le (by rw [List.length_take]; omega)
          obtain ⟨A3, k3, hv⟩ := Kd.R_slice HR.out
          rw [hnil] at hv
          subst hv
          have HO := Aside0.mk hO
          have HNIL := Aside0.mk hnil
          clear hO hnil c4
          go_wp2
          go_ret
          rw [HO.out, HF.out]
          simp only [Int.toNat_natCast]
          have el : List.drop fr (List.take fr xs) = List.drop fr (List.take i xs) := by rw [HNIL.out, List.drop_eq_nil_of_le (by rw [List.length_take]; omega)]
          have ef : f1 + (fr : Int) = f2 := by have := HF.out; omega
          rw [el, ef]
          exact ⟨_, rfl, HR.out, HI2.out, Upd.of_below HB.out⟩
end Go.Proofs.Ytmpgknemhmoboaa.S17
