import Derived.Test.YtmpgknemhmoboaaS17
import Derived.WalkSpells
/- Contracts of package hop, by hand: what is to be sent. -/
namespace Go.Proofs.Ytmpgknemhmoboaa.S17
set_option linter.unusedSimpArgs false
set_option linter.unusedVariables false
open Go.RowKit Go.Proofs.YtmpgknemhmoboaaW.PrintWords Go.Proofs.YtmpgknemhmoboaaW.PrintLast Go.Proofs.YtmpgknemhmoboaaW.PrintMore Go.Proofs.Ytmpgknemhmoboaa.Base Go.Proofs.Ytmpgknemhmoboaa.Q17h Go.Proofs.Ytmpgknemhmoboaa.Pl
theorem A_Qupd {w w' : World} {base g n c n2 c2 : Nat} {f0 f1 f2 f4 f5 f6 : Int} {A A2 : Option Addr} {xs : List S87} (h : IsA w g f0 f1 f2 A n c f4 f5 f6) (hq : Kd.Q k87 87 w base (fun _ => True) (.slice A2 n2 c2) xs) (hu : Upd (· = g) w w') : Kd.Q k87 87 w' base (fun _ => True) (.slice A2 n2 c2) xs :=
  Kd.Q_mono (Kd.Q_step (Kd.Q_types hq h (fun q hq => by
    change q ∈ ([87] : List Nat) at hq
    simp at hq
    subst hq
    decide)) (fun k hk hlt => hu.block k hlt hk.2)) (fun _ _ => trivial)
set_option maxRecDepth 100000 in
set_option maxHeartbeats 2000000 in
theorem A_Clone {w : World} {n c : Nat} {A : Option Addr} {xs : List S87} (h : Kd.C k87 w A n xs) (hn : n ≤ 64) :
    Calls Try.prog 47 #[.slice A n c] w fun e w' => ∃ v, e = .returned v ∧ Kd.R k87 87 w' w.heap.size (fun _ => True) v xs ∧ Below w.heap.size w w' := by
  have HB := Aside0.mk (Below.refl w.heap.size w)
  have HR0 := Aside0.mk h
  have HN := Aside0.mk hn
  cases A with
  | none =>
    have heq : ∀ w_ : World, (binOp .eql 54 (.slice none n c) (.slice none 0 0)).run Try.prog w_ = .ok (.bool true) w_ := fun w_ => Lib.run_eql_slice_nil w_ 54 87 none n c 0 0 Try.underlying54
    have hx : xs = [] := by
      have h1 := h.1
      rcases Nat.eq_zero_or_pos n with h0 | h0
      · exact List.length_eq_zero_iff.1 (h1.trans h0)
      · obtain ⟨ad, e, _⟩ := h.2.2 h0
        cases e
    subst hx
    clear h hn
    go_enter Try.func47, Try.ntmps47
    go_wp2
    go_ret
    exact ⟨_, rfl, Kd.R_nil _ _ _ _ _, HB.out⟩
  | some ad =>
    have heq : ∀ w_ : World, (binOp .eql 54 (.slice (some ad) n c) (.slice none 0 0)).run Try.prog w_ = .ok (.bool false) w_ := fun w_ => Lib.run_eql_slice_nil w_ 54 87 (some ad) n c 0 0 Try.underlying54
    clear h hn
    go_enter Try.func47, Try.ntmps47
    go_wp2_with (first | ((with_reducible refine gate_dst (N := 5) rfl ?_); refine Kd.R_lit k87 _ 87 ?hg (N := 5) ?hd (xs := ([] : List S87)) (inner := []) (ok := fun _ => True) (okp := fun _ => True) ?hr ?hp (fun _ hk => hk) trivial (Below.refl _ _) (Nat.le_refl _) (by simp) ?_; (case hd => rfl); (case hg => rfl); (case hr => first | (go_simp; done) | (go_simp; rfl)); (case hp => exact (Reps.none _ _)); intro v131 w3 ho4 hb hg_ hnew_; clear hg_ hnew_; have n0_ := Aside0.mk (Kd.R_lower ho4 (below_size (by repeat (first | (with_reducible first | exact HB.out | apply below_alloc | apply pw_below_drewN | apply below_drew1) | exact HB.out)))); have n1_ := Aside0.mk (below_step (by repeat (first | (with_reducible first | exact HB.out | apply below_alloc | apply pw_below_drewN | apply below_drew1) | exact HB.out)) hb); clear HB; have HO132 := n0_; have HB := n1_; clear n0_ n1_; clear hb ho4) | ((with_reducible refine gate_builtin (b := .append) (xs := #[.tmp 5, .tmp 6]) rfl ?_); at_builtin; refine Kd.R_append_rows k87 (w0 := w) w.heap.size rfl (.tmp 5) (.tmp 6) 54 87 (.agg #[(.int .i64 0), (.string ByteArray.empty)]) 24 rfl Try.underlying54 infoA rfl (by decide) (by omega) v131 [] xs _ _ _ (fun _ => True) (fun _ => False) rfl rfl ?aO ?aR (fun _ _ h => h) (fun _ h => h.elim) ?aF ?aB ?aS ?aL ?_; (case aR => repeat (first | exact (Kd.C_below HR0.out HB.out) | (with_reducible refine Kd.C_alloc ?_ _) | (with_reducible refine Kd.C_drewN ?_ _) | (with_reducible refine Kd.C_drew ?_))); (case aB => exact (by repeat (first | (with_reducible first | exact HB.out | apply below_alloc | apply pw_below_drewN | apply below_drew1) | exact HB.out))); (case aF => exact (fun _ _ => trivial)); (case aO => exact (by (with_reducible repeat (first | apply Kd.R_alloc | apply Kd.R_drewN | apply Kd.R_drew)); exact HO132.out)); (case aS => exact (below_size (by repeat (first | (with_reducible first | exact HB.out | apply below_alloc | apply pw_below_drewN | apply below_drew1) | exact HB.out)))); (case aL => have := HN.out; simp; omega); intro v134 w5 ho hb hg hat; have n0_ := Aside0.mk (hb); have n1_ := Aside0.mk (ho); clear HB; clear HO132; have HB := n0_; have HO135 := n1_; clear n0_ n1_; clear ho hb hg hat))
    go_ret
    exact ⟨_, rfl, by (with_reducible repeat (first | apply Kd.R_alloc | apply Kd.R_drewN | apply Kd.R_drew)); exact HO135.out, (by repeat (first | (with_reducible first | exact HB.out | apply below_alloc | apply pw_below_drewN | apply below_drew1) | exact HB.out))⟩
def outTo (n : Nat) (f1 f2 f5 : Int) : Int := mx (f2 - f1) (mn n f5)
set_option maxRecDepth 100000 in
set_option maxHeartbeats 4000000 in
theorem A_Out {w : World} {base g n c : Nat} {f0 f1 f2 f4 f5 f6 : Int} {A : Option Addr} {xs : List S87} (h : IsA w g f0 f1 f2 A n c f4 f5 f6) (hq : Kd.Q k87 87 w base (fun _ => True) (.slice A n c) xs) (hb : 0 ≤ f1 ∧ f1 ≤ 1099511627776 ∧ n ≤ 64) (hs : f1 ≤ f2 ∧ f2 ≤ f1 + n) (hw : 1 ≤ f5 ∧ f5 ≤ 16) :
    Calls Try.prog 27 #[.pointer (some ⟨g, 0, none⟩)] w fun e w' => ∃ v, e = .returned v ∧ Kd.R k87 87 w' w.heap.size (fun _ => True) v ((xs.take (outTo n f1 f2 f5).toNat).drop (f2 - f1).toNat) ∧ IsA w' g f0 f1 (f1 + outTo n f1 f2 f5) A n c f4 f5 f6 ∧ Upd (· = g) w w' := by
  have HI := Aside0.mk h
  have HN := Aside0.mk hb
  have HS := Aside0.mk hs
  have HQ := Aside0.mk hq
  have hn_c := (Kd.Q_reads' hq).2.1
  obtain ⟨fr, hfr⟩ : ∃ fr : Nat, f2 - f1 = fr := ⟨(f2 - f1).toNat, by omega⟩
  obtain ⟨q, hq1⟩ : ∃ q, mn (n : Int) f5 = q := ⟨_, rfl⟩
  have hTr : (fr : Int) ≤ mx fr q ∧ mx fr q ≤ n := by
    rw [← hq1]
    unfold mx mn
    repeat' split
    all_goals omega
  obtain ⟨to_, hto⟩ : ∃ t : Nat, mx (fr : Int) q = t := ⟨(mx (fr : Int) q).toNat, by omega⟩
  rw [hto] at hTr
  have hT : outTo n f1 f2 f5 = to_ := by unfold outTo; rw [hfr, hq1, hto]
  have HT : Aside0 (fr ≤ to_ ∧ to_ ≤ n ∧ n ≤ c) := ⟨by omega⟩
  have hw1 : wrap64 (f2 - f1) = fr := by rw [w64 (by omega) (by omega), hfr]
  have hw2 : wrap64 (f1 + to_) = f1 + to_ := w64 (by omega) (by omega)
  have p1 : (fr ≤ to_) = True := eq_true HT.out.1
  have p2 : (to_ ≤ c) = True := eq_true (by have := HT.out; omega)
  have p3 : ((fr : Int) ≤ (to_ : Int)) = True := eq_true (by have := HT.out; omega)
  have p4 : ((to_ : Int) ≤ (c : Int)) = True := eq_true (by have := HT.out; omega)
  rw [hT, hfr, Int.toNat_natCast, Int.toNat_natCast]
  have hm1 : (if f5 < (n : Int) then f5 else (n : Int)) = q := hq1
  have hm2 : (if (fr : Int) < q then q else (fr : Int)) = (to_ : Int) := hto
  have hc1 : w.cell? ⟨g, 1, none⟩ = some (.int .i64 f1) := blk_at (i := 1) HI.out rfl
  have hc2 : w.cell? ⟨g, 2, none⟩ = some (.int .i64 f2) := blk_at (i := 2) HI.out rfl
  have hc3 : w.cell? ⟨g, 3, none⟩ = some (.slice A n c) := blk_at (i := 3) HI.out rfl
  have hf2 := blk_frozen HI.out 2
  clear h hq hb hs hw hq1 hto hT hfr hTr hn_c
  go_enter Try.func27, Try.ntmps27
  go_wp2
  refine start_ (n := 10) (S := fun w' => w'.cell? ⟨g, 2, none⟩ = some (.int .i64 f2) ∧ w'.cell? ⟨g, 1, none⟩ = some (.int .i64 f1)) (ds := []) #[false, false, false, false, false, false, false, false, false, false] (by kernel_rfl) rfl rfl ⟨blk_at (i := 2) HI.out rfl, blk_at (i := 1) HI.out rfl⟩ (fun hHeld => ?_)
  refine pure_ (i := 0) (N := some 5) (v := ?_) (a' := ?_) #[true, false, false, false, false, false, false, false, false, false] rfl rfl (by kernel_rfl) (fun _ _ _ h => h) (Or.inl ⟨by rfl, ?_⟩) ?_ ?_
  rotate_left
  · intro w'
    go_simp
    with_reducible rfl
  rotate_left
  · simp only [Act.put, List.setIfInBounds_toArray, List.set_cons_zero, List.set_cons_succ, i64_w, i32_w]
    rfl
  refine pure_ (i := 1) (N := some 6) (v := ?_) (a' := ?_) #[true, true, false, false, false, false, false, false, false, false] rfl rfl (by kernel_rfl) (fun _ _ _ h => h) (Or.inl ⟨by rfl, ?_⟩) ?_ ?_
  rotate_left
  · intro w'
    go_simp
    with_reducible rfl
  rotate_left
  · simp only [Act.put, List.setIfInBounds_toArray, List.set_cons_zero, List.set_cons_succ, i64_w, i32_w]
    rfl
  refine pure_ (i := 2) (N := some 7) (v := ?_) (a' := ?_) #[true, true, true, false, false, false, false, false, false, false] rfl rfl (by kernel_rfl) (fun _ _ _ h => h) (Or.inl ⟨by rfl, ?_⟩) ?_ ?_
  rotate_left
  · intro w'
    go_simp
    with_reducible rfl
  rotate_left
  · simp only [Act.put, List.setIfInBounds_toArray, List.set_cons_zero, List.set_cons_succ, i64_w, i32_w]
    rfl
  refine pure_ (i := 4) (N := some 9) (v := ?_) (a' := ?_) #[true, true, true, false, true, false, false, false, false, false] rfl rfl (by kernel_rfl) (fun _ _ _ h => h) (Or.inl ⟨by rfl, ?_⟩) ?_ ?_
  rotate_left
  · intro w'
    go_simp
    with_reducible rfl
  rotate_left
  · simp only [Act.put, List.setIfInBounds_toArray, List.set_cons_zero, List.set_cons_succ, i64_w, i32_w]
    rfl
  refine pure_ (i := 5) (N := some 10) (v := ?_) (a' := ?_) #[true, true, true, false, true, true, false, false, false, false] rfl rfl (by kernel_rfl) (fun _ _ _ h => h) (Or.inl ⟨by rfl, ?_⟩) ?_ ?_
  rotate_left
  · intro w'
    go_simp
    with_reducible rfl
  rotate_left
  · simp only [Act.put, List.setIfInBounds_toArray, List.set_cons_zero, List.set_cons_succ, i64_w, i32_w]
    rfl
  refine pure_ (i := 6) (N := some 11) (v := ?_) (a' := ?_) #[true, true, true, false, true, true, true, false, false, false] rfl rfl (by kernel_rfl) (fun _ _ _ h => h) (Or.inl ⟨by rfl, ?_⟩) ?_ ?_
  rotate_left
  · intro w'
    go_simp
    with_reducible rfl
  rotate_left
  · simp only [Act.put, List.setIfInBounds_toArray, List.set_cons_zero, List.set_cons_succ, i64_w, i32_w]
    rfl
  refine take_ (i := 3) (N := some 8) (v := ?_) (a' := ?_) #[true, true, true, true, true, true, true, false, false, false] rfl rfl (by kernel_rfl) (fun _ _ _ h => h) (Or.inl ⟨by rfl, ?_⟩) hHeld ?_ ?_
  rotate_left
  · rintro w' ⟨s0, s1⟩
    go_simp
    with_reducible rfl
  rotate_left
  · simp only [Act.put, List.setIfInBounds_toArray, List.set_cons_zero, List.set_cons_succ, i64_w, i32_w]
    rfl
  refine take_ (i := 7) (N := some 12) (v := ?_) (a' := ?_) #[true, true, true, true, true, true, true, true, false, false] rfl rfl (by kernel_rfl) (fun _ _ _ h => h) (Or.inl ⟨by rfl, ?_⟩) hHeld ?_ ?_
  rotate_left
  · rintro w' ⟨s0, s1⟩
    go_simp
    with_reducible rfl
  rotate_left
  · simp only [Act.put, List.setIfInBounds_toArray, List.set_cons_zero, List.set_cons_succ, i64_w, i32_w]
    rfl
  refine pure_ (i := 8) (N := some 13) (v := ?_) (a' := ?_) #[true, true, true, true, true, true, true, true, true, false] rfl rfl (by kernel_rfl) (fun _ _ _ h => h) (Or.inl ⟨by rfl, ?_⟩) ?_ ?_
  rotate_left
  · intro w'
    go_simp
    with_reducible rfl
  rotate_left
  · simp only [Act.put, List.setIfInBounds_toArray, List.set_cons_zero, List.set_cons_succ, i64_w, i32_w]
    rfl
  refine pure_ (i := 9) (N := some 3) (v := ?_) (a' := ?_) #[true, true, true, true, true, true, true, true, true, true] rfl rfl (by kernel_rfl) (fun _ _ _ h => h) (Or.inl ⟨by rfl, ?_⟩) ?_ ?_
  rotate_left
  · intro w'
    go_simp
    with_reducible rfl
  rotate_left
  · simp only [Act.put, List.setIfInBounds_toArray, List.set_cons_zero, List.set_cons_succ, i64_w, i32_w]
    rfl
  refine done_ (by kernel_rfl) ?_
  go_wp2
  refine start_ (n := 13) (S := fun w' => w'.cell? ⟨g, 3, none⟩ = some (.slice A n c) ∧ w'.cell? ⟨g, 5, none⟩ = some (.int .i64 f5)) (ds := []) #[false, false, false, false, false, false, false, false, false, false, false, false, false] (by kernel_rfl) rfl rfl ⟨blk_at (i := 3) HI.out rfl, blk_at (i := 5) HI.out rfl⟩ (fun hHeld => ?_)
  refine pure_ (i := 0) (N := some 14) (v := ?_) (a' := ?_) #[true, false, false, false, false, false, false, false, false, false, false, false, false] rfl rfl (by kernel_rfl) (fun _ _ _ h => h) (Or.inl ⟨by rfl, ?_⟩) ?_ ?_
  rotate_left
  · intro w'
    go_simp
    with_reducible rfl
  rotate_left
  · simp only [Act.put, List.setIfInBounds_toArray, List.set_cons_zero, List.set_cons_succ, i64_w, i32_w]
    rfl
  refine pure_ (i := 1) (N := some 15) (v := ?_) (a' := ?_) #[true, true, false, false, false, false, false, false, false, false, false, false, false] rfl rfl (by kernel_rfl) (fun _ _ _ h => h) (Or.inl ⟨by rfl, ?_⟩) ?_ ?_
  rotate_left
  · intro w'
    go_simp
    with_reducible rfl
  rotate_left
  · simp only [Act.put, List.setIfInBounds_toArray, List.set_cons_zero, List.set_cons_succ, i64_w, i32_w]
    rfl
  refine pure_ (i := 2) (N := some 16) (v := ?_) (a' := ?_) #[true, true, true, false, false, false, false, false, false, false, false, false, false] rfl rfl (by kernel_rfl) (fun _ _ _ h => h) (Or.inl ⟨by rfl, ?_⟩) ?_ ?_
  rotate_left
  · intro w'
    go_simp
    with_reducible rfl
  rotate_left
  · simp only [Act.put, List.setIfInBounds_toArray, List.set_cons_zero, List.set_cons_succ, i64_w, i32_w]
    rfl
  refine pure_ (i := 3) (N := some 17) (v := ?_) (a' := ?_) #[true, true, true, true, false, false, false, false, false, false, false, false, false] rfl rfl (by kernel_rfl) (fun _ _ _ h => h) (Or.inl ⟨by rfl, ?_⟩) ?_ ?_
  rotate_left
  · intro w'
    go_simp
    with_reducible rfl
  rotate_left
  · simp only [Act.put, List.setIfInBounds_toArray, List.set_cons_zero, List.set_cons_succ, i64_w, i32_w]
    rfl
  refine pure_ (i := 6) (N := some 20) (v := ?_) (a' := ?_) #[true, true, true, true, false, false, true, false, false, false, false, false, false] rfl rfl (by kernel_rfl) (fun _ _ _ h => h) (Or.inl ⟨by rfl, ?_⟩) ?_ ?_
  rotate_left
  · intro w'
    go_simp
    with_reducible rfl
  rotate_left
  · simp only [Act.put, List.setIfInBounds_toArray, List.set_cons_zero, List.set_cons_succ, i64_w, i32_w]
    rfl
  refine pure_ (i := 7) (N := some 21) (v := ?_) (a' := ?_) #[true, true, true, true, false, false, true, true, false, false, false, false, false] rfl rfl (by kernel_rfl) (fun _ _ _ h => h) (Or.inl ⟨by rfl, ?_⟩) ?_ ?_
  rotate_left
  · intro w'
    go_simp
    with_reducible rfl
  rotate_left
  · simp only [Act.put, List.setIfInBounds_toArray, List.set_cons_zero, List.set_cons_succ, i64_w, i32_w]
    rfl
  refine pure_ (i := 8) (N := some 22) (v := ?_) (a' := ?_) #[true, true, true, true, false, false, true, true, true, false, false, false, false] rfl rfl (by kernel_rfl) (fun _ _ _ h => h) (Or.inl ⟨by rfl, ?_⟩) ?_ ?_
  rotate_left
  · intro w'
    go_simp
    with_reducible rfl
  rotate_left
  · simp only [Act.put, List.setIfInBounds_toArray, List.set_cons_zero, List.set_cons_succ, i64_w, i32_w]
    rfl
  refine take_ (i := 4) (N := some 18) (v := ?_) (a' := ?_) #[true, true, true, true, true, false, true, true, true, false, false, false, false] rfl rfl (by kernel_rfl) (fun _ _ _ h => h) (Or.inl ⟨by rfl, ?_⟩) hHeld ?_ ?_
  rotate_left
  · rintro w' ⟨s0, s1⟩
    go_simp
    with_reducible rfl
  rotate_left
  · simp only [Act.put, List.setIfInBounds_toArray, List.set_cons_zero, List.set_cons_succ, i64_w, i32_w]
    rfl
  refine pure_ (i := 5) (N := some 19) (v := ?_) (a' := ?_) #[true, true, true, true, true, true, true, true, true, false, false, false, false] rfl rfl (by kernel_rfl) (fun _ _ _ h => h) (Or.inl ⟨by rfl, ?_⟩) ?_ ?_
  rotate_left
  · intro w'
    go_simp
    with_reducible rfl
  rotate_left
  · simp only [Act.put, List.setIfInBounds_toArray, List.set_cons_zero, List.set_cons_succ, i64_w, i32_w]
    rfl
  refine take_ (i := 9) (N := some 23) (v := ?_) (a' := ?_) #[true, true, true, true, true, true, true, true, true, true, false, false, false] rfl rfl (by kernel_rfl) (fun _ _ _ h => h) (Or.inl ⟨by rfl, ?_⟩) hHeld ?_ ?_
  rotate_left
  · rintro w' ⟨s0, s1⟩
    go_simp
    with_reducible rfl
  rotate_left
  · simp only [Act.put, List.setIfInBounds_toArray, List.set_cons_zero, List.set_cons_succ, i64_w, i32_w]
    rfl
  refine pure_ (i := 10) (N := some 24) (v := ?_) (a' := ?_) #[true, true, true, true, true, true, true, true, true, true, true, false, false] rfl rfl (by kernel_rfl) (fun _ _ _ h => h) (Or.inl ⟨by rfl, ?_⟩) ?_ ?_
  rotate_left
  · intro w'
    go_simp
    with_reducible rfl
  rotate_left
  · simp only [Act.put, List.setIfInBounds_toArray, List.set_cons_zero, List.set_cons_succ, i64_w, i32_w]
    rfl
  refine pure_ (i := 11) (N := some 25) (v := ?_) (a' := ?_) #[true, true, true, true, true, true, true, true, true, true, true, true, false] rfl rfl (by kernel_rfl) (fun _ _ _ h => h) (Or.inl ⟨by rfl, ?_⟩) ?_ ?_
  rotate_left
  · intro w'
    go_simp
    with_reducible rfl
  rotate_left
  · simp only [Act.put, List.setIfInBounds_toArray, List.set_cons_zero, List.set_cons_succ, i64_w, i32_w]
    rfl
  refine pure_ (i := 12) (N := some 4) (v := ?_) (a' := ?_) #[true, true, true, true, true, true, true, true, true, true, true, true, true] rfl rfl (by kernel_rfl) (fun _ _ _ h => h) (Or.inl ⟨by rfl, ?_⟩) ?_ ?_
  rotate_left
  · intro w'
    go_simp
    with_reducible rfl
  rotate_left
  · simp only [Act.put, List.setIfInBounds_toArray, List.set_cons_zero, List.set_cons_succ, i64_w, i32_w]
    rfl
  refine done_ (by kernel_rfl) ?_
  have HQ1 := Aside0.mk (A_Qupd HI.out HQ.out (show Upd (· = g) w (w.setCell ⟨g, 2, none⟩ (.int .i64 (f1 + to_))) from (Upd.refl (· = g) _).setCell (p := ⟨g, 2, none⟩) (fun _ => rfl) _))
  have HI1 : Aside0 (IsA (w.setCell ⟨g, 2, none⟩ (.int .i64 (f1 + to_))) g f0 f1 (f1 + to_) A n c f4 f5 f6) := ⟨blk_set HI.out 2 _⟩
  have HU := Aside0.mk ((Upd.refl (· = g) w).setCell (p := ⟨g, 2, none⟩) (fun _ => rfl) (.int .i64 (f1 + to_)))
  by_cases ce : to_ = fr
  · subst ce
    go_wp2_with fail
    have hC := (Kd.Q_reads' (Kd.Q_take (Kd.Q_drew (Kd.Q_drew HQ1.out)) (m := 0) (Nat.zero_le _))).2.2
    refine (A_Clone hC (by simp)).mono ?_
    rintro e w1 ⟨v, rfl, hr, hb⟩
    have HR := Aside0.mk hr
    have HB := Aside0.mk hb
    clear hr hb
    go_wp2
    go_ret
    refine ⟨_, rfl, ?_, A_below (A_drew (A_drew HI1.out)) HB.out, (HU.out.drew.drew).below_ HB.out⟩
    have el : ∀ k : Nat, List.drop k (List.take k xs) = xs.take 0 := fun k => by rw [List.drop_eq_nil_of_le (by rw [List.length_take]; omega), List.take_zero]
    rw [el]
    exact Kd.R_lower HR.out HU.out.size
  · have hl := (Kd.Q_reads' HQ.out).1
    have hC := (Kd.Q_reads' (Kd.Q_drop (Kd.Q_take (Kd.Q_drew (Kd.Q_drew HQ1.out)) (m := to_) (by have := HT.out; omega)) (k := fr) (by rw [List.length_take]; have := HT.out; omega))).2.2
    have hsz : k87.sz = 2 := rfl
    have hlen : ((xs.take to_).drop fr).length = to_ - fr := by rw [List.length_drop, List.length_take]; have := HT.out; omega
    rw [if_neg (by have := HT.out; omega), hsz, hlen] at hC
    go_wp2_with fail
    refine (A_Clone hC (by have := HT.out; have := HN.out; omega)).mono ?_
    rintro e w1 ⟨v, rfl, hr, hb⟩
    have HR := Aside0.mk hr
    have HB := Aside0.mk hb
    clear hr hb
    go_wp2
    go_ret
    exact ⟨_, rfl, Kd.R_lower HR.out HU.out.size, A_below (A_drew (A_drew HI1.out)) HB.out, (HU.out.drew.drew).below_ HB.out⟩
end Go.Proofs.Ytmpgknemhmoboaa.S17
