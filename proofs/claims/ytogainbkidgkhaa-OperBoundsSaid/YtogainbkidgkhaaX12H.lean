import Derived.Test.YtogainbkidgkhaaX12G
/- The contract of watershedref12.Fold, by hand: records in their order, gathered key by key through a pointer to the last one. -/
namespace Go.Proofs.Ytogainbkidgkhaa.H12
set_option linter.unusedSimpArgs false
set_option linter.unusedVariables false
open Go.RowKit Go.Proofs.YtogainbkidgkhaaW.PrintWords Go.Proofs.YtogainbkidgkhaaW.PrintLast Go.Proofs.YtogainbkidgkhaaW.PrintMore Go.Proofs.Ytogainbkidgkhaa.Base Go.Proofs.Ytogainbkidgkhaa.Q12f
open Go.Proofs.Ytogainbkidgkhaa.F12 (infoR)
abbrev R := S25
def rdN (s : List R) (i : Nat) : R := s.getD i z25
def firstAt (s : List R) (i : Nat) : Bool := i == 0 || (rdN s i).f0 != (rdN s (i - 1)).f0
def upd (kind : Int) (first : Bool) (a v : Int) : Int := if kind = 11 then wrap64 (a + v) else if kind = 12 then wrap64 (a + 1) else if first = true ∨ kind = 14 then v else a
def putL (o : List R) (a : Int) : List R := o.set (o.length - 1) ⟨(rdN o (o.length - 1)).f0, a⟩
def grownR (first : Bool) (o : List R) (r : R) : List R := if first = true then o ++ [⟨r.f0, 0⟩] else o
def stepR (kind : Int) (first : Bool) (o : List R) (r : R) : List R := putL (grownR first o r) (upd kind first (rdN (grownR first o r) ((grownR first o r).length - 1)).f1 r.f1)
def outR (kind : Int) (s : List R) : Nat → List R
  | 0 => []
  | i + 1 => stepR kind (firstAt s i) (outR kind s i) (rdN s i)
theorem grownR_length (f : Bool) (o : List R) (r : R) : (grownR f o r).length = o.length + if f = true then 1 else 0 := by unfold grownR; split <;> simp
theorem outR_length (kind : Int) (s : List R) : ∀ i, (outR kind s i).length ≤ i ∧ (0 < i → 0 < (outR kind s i).length)
  | 0 => ⟨Nat.le_refl _, fun h => absurd h (by omega)⟩
  | i + 1 => by
    have ih := outR_length kind s i
    have h1 : (outR kind s (i + 1)).length = (outR kind s i).length + if firstAt s i = true then 1 else 0 := by
      show (stepR _ _ _ _).length = _
      unfold stepR putL
      rw [List.length_set, grownR_length]
    rw [h1]
    refine ⟨by split <;> omega, fun _ => ?_⟩
    by_cases hi : i = 0
    · subst hi
      simp [firstAt]
    · have := ih.2 (by omega)
      split <;> omega
theorem last_at {w : World} {base : Nat} {v : Value} {O : List R} {m : Nat} (h : Kd.R k25 25 w base (fun _ => True) v O) (hm : O.length = m + 1) :
    ∃ g cap, v = .slice (some ⟨g, 0, none⟩) (m + 1) cap ∧ base ≤ g ∧ w.cell? ⟨g, m * 2, none⟩ = some (.int .i64 (rdN O m).f0) ∧ w.cell? ⟨g, m * 2 + 1, none⟩ = some (.int .i64 (rdN O m).f1) ∧ w.frozen? ⟨g, m * 2 + 1, none⟩ = false := by
  obtain ⟨inner, hown⟩ := Kd.R_own h
  rcases hown.2 with ⟨_, h0⟩ | ⟨g, cap, cur, rfl, hbase, hh, _⟩
  · omega
  · obtain ⟨ad, hA, q0, q1⟩ := at_T25 (Kd.R_reads' h).2.2 (m : Int) (by omega) (by omega)
    cases hA
    rw [Int.toNat_natCast] at q0 q1
    rw [show rd_T25 O (m : Int) = rdN O m from by simp [rd_T25, rdN]] at q0 q1
    rw [add_plain] at q0 q1
    exact ⟨g, cap, by rw [hm], hbase, q0, q1, blk_frozen hh _⟩
theorem R_putL {w : World} {base g cap m : Nat} {O : List R} (h : Kd.R k25 25 w base (fun _ => True) (.slice (some ⟨g, 0, none⟩) (m + 1) cap) O) (a : Int) :
    Kd.R k25 25 (w.setCell ⟨g, m * 2 + 1, none⟩ (.int .i64 a)) base (fun _ => True) (.slice (some ⟨g, 0, none⟩) (m + 1) cap) (putL O a) := by
  have hn := (Kd.R_reads' h).1
  obtain ⟨g', cap', hv, _, q0, q1, _⟩ := last_at h hn.symm
  cases hv
  have := (Kd.R_seg (okp := fun _ => False) h (m : Int) (by omega) (by omega) (c := [.int .i64 (rdN O m).f0, .int .i64 (rdN O m).f1]) (seg := [.int .i64 a]) (j := 1) (x' := ⟨(rdN O m).f0, a⟩) rfl
    (fun j u hu => by
      rw [Int.toNat_natCast]
      match j, hu with
      | 0, hu => cases hu; exact q0
      | 1, hu => cases hu; exact q1) (show 1 + 1 ≤ 2 by omega) (k25_mkM _ _ _ _) (fun _ h => h.elim)).1
  rw [Int.toNat_natCast] at this
  unfold putL
  rw [← hn]
  exact this
set_option maxRecDepth 100000 in
set_option maxHeartbeats 4000000 in
theorem refFold_walk (kind : Int) (A : Option Addr) (c : Nat) (l s : List R) (w : World) (hr : Kd.C k25 w A l.length l) (hc : l.length ≤ c) (hs : watershedref11_Order.f 1000000 l = some s) (hl : s.length ≤ 1000) (hk : 11 ≤ kind ∧ kind ≤ 14) :
    Calls Try.prog 18 #[.int .i64 kind, .slice A l.length c] w fun e w' => ∃ v0_ : Value, e = .returned (.tuple #[v0_, .int .i64 0]) ∧ Kd.R k25 25 w' w.heap.size (fun _ => True) v0_ (outR kind s s.length) ∧ Below w.heap.size w w' := by
  have HR := Aside0.mk hr
  have HL : Aside0 (l.length ≤ c ∧ s.length ≤ 1000) := ⟨hc, hl⟩
  have HS := Aside0.mk hs
  have HK := Aside0.mk hk
  clear hr hc hl hs hk
  go_enter Try.func18, Try.ntmps18
  go_wp2_with fail
  refine (watershedref12_Keeps.calls kind true _ (by unfold watershedref12_Keeps.f; have := HK.out; rw [if_pos (by omega)]; simp; omega)).mono ?_
  rintro e w1 ⟨rfl, nd, rfl⟩
  have HB : Aside0 (Below w.heap.size w (w.drewN nd)) := ⟨pw_below_drewN (Below.refl _ _) nd⟩
  generalize w.drewN nd = w1 at HB ⊢
  go_wp2_with fail
  refine (watershedref11_Order.calls 1000000 A c l s _ (Kd.C_below HR.out HB.out) HL.out.1 HS.out).mono ?_
  rintro e w2 ⟨vs, rfl, hq, hb⟩
  obtain ⟨As, cs, rfl⟩ := Kd.R_slice hq
  have HC := Aside0.mk (Kd.R_reads' hq).2.2
  have HB2 := Aside0.mk (below_step HB.out hb)
  clear hq hb HB HR HS
  go_upto_block 0 with (fail)
  go_wp2
  go_loopg [6, 7] (s.length + 1) (fun kq v6 v7 W' => ∃ (i : Nat), v7 = .int .i64 i ∧ Aside0 (i ≤ s.length ∧ i + kq = s.length + 1) ∧ Aside0 (Kd.R k25 25 W' w2.heap.size (fun _ => True) v6 (outR kind s i)) ∧ Aside0 (Below w2.heap.size w2 W'))
  case atStart => exact ⟨0, rfl, ⟨by omega, by omega⟩, ⟨Kd.R_nil _ _ _ _ _⟩, ⟨Below.refl _ _⟩⟩
  case round =>
    obtain ⟨i, rfl, HI, HO, HBo⟩ := hrel
    by_cases c1 : i < s.length
    · have e1 : decide ((i : Int) < (s.length : Int)) = true := decide_eq_true (by omega)
      have p1 : (i < s.length) = True := eq_true c1
      have p2 : ((i : Int) < (s.length : Int)) = True := eq_true (by omega)
      have HLT := Aside0.mk c1
      obtain ⟨fb, hfb⟩ : ∃ fb, fb = firstAt s i := ⟨_, rfl⟩
      obtain ⟨x, hx⟩ : ∃ x, x = rdN s i := ⟨_, rfl⟩
      have HX : Aside0 (fb = firstAt s i ∧ x = rdN s i) := ⟨hfb, hx⟩
      obtain ⟨ad, hA, q0, q1⟩ := at_T25 (Kd.C_below HC.out HBo.out) (i : Int) (by omega) (by omega)
      rw [Int.toNat_natCast] at q0 q1
      rw [show rd_T25 s (i : Int) = x from by rw [hx]; simp [rd_T25, rdN]] at q0 q1
      have HQ : Aside0 (As = some ad) := ⟨hA⟩
      clear c1 hx
      go_upto_region 8 with (fail)
      go_cut [8] from 21 to 36 (fun v8 wc => v8 = .bool fb ∧ Aside0 (Below wr.heap.size wr wc))
      case first =>
        subst hA
        by_cases c2 : i = 0
        · have e2 : ((i : Int) == 0) = true := beq_iff_eq.mpr (by omega)
          have hf : fb = true := by rw [hfb, c2]; rfl
          subst hf
          clear hfb c2
          refine start_ (n := 17) (S := fun w' => True) (ds := []) #[false, false, false, false, false, false, false, false, false, false, false, false, false, false, false, false, false] (by kernel_rfl) rfl rfl trivial (fun hHeld => ?_)
          refine pure_ (i := 0) (N := some 21) (v := ?_) (a' := ?_) #[true, false, false, false, false, false, false, false, false, false, false, false, false, false, false, false, false] rfl rfl (by kernel_rfl) (fun _ _ _ h => h) (Or.inl ⟨by rfl, ?_⟩) ?_ ?_
          rotate_left
          · intro w'
            go_simp
            with_reducible rfl
          rotate_left
          · simp only [Act.put, List.setIfInBounds_toArray, List.set_cons_zero, List.set_cons_succ, i64_w, i32_w]
            rfl
          refine pure_ (i := 1) (N := some 22) (v := ?_) (a' := ?_) #[true, true, false, false, false, false, false, false, false, false, false, false, false, false, false, false, false] rfl rfl (by kernel_rfl) (fun _ _ _ h => h) (Or.inl ⟨by rfl, ?_⟩) ?_ ?_
          rotate_left
          · intro w'
            go_simp
            with_reducible rfl
          rotate_left
          · simp only [Act.put, List.setIfInBounds_toArray, List.set_cons_zero, List.set_cons_succ, i64_w, i32_w]
            rfl
          refine pure_ (i := 2) (N := some 23) (v := ?_) (a' := ?_) #[true, true, true, false, false, false, false, false, false, false, false, false, false, false, false, false, false] rfl rfl (by kernel_rfl) (fun _ _ _ h => h) (Or.inl ⟨by rfl, ?_⟩) ?_ ?_
          rotate_left
          · intro w'
            go_simp
            with_reducible rfl
          rotate_left
          · simp only [Act.put, List.setIfInBounds_toArray, List.set_cons_zero, List.set_cons_succ, i64_w, i32_w]
            rfl
          refine pure_ (i := 3) (N := some 24) (v := undef) (a' := ?_) #[true, true, true, true, false, false, false, false, false, false, false, false, false, false, false, false, false] rfl rfl (by kernel_rfl) (fun _ _ _ h => h) (Or.inr ⟨by rfl, rfl⟩) ?_ ?_
          rotate_left
          · simp only [Act.put, List.setIfInBounds_toArray, List.set_cons_zero, List.set_cons_succ, i64_w, i32_w]
            rfl
          refine pure_ (i := 4) (N := some 25) (v := undef) (a' := ?_) #[true, true, true, true, true, false, false, false, false, false, false, false, false, false, false, false, false] rfl rfl (by kernel_rfl) (fun _ _ _ h => h) (Or.inr ⟨by rfl, rfl⟩) ?_ ?_
          rotate_left
          · simp only [Act.put, List.setIfInBounds_toArray, List.set_cons_zero, List.set_cons_succ, i64_w, i32_w]
            rfl
          refine pure_ (i := 5) (N := some 26) (v := undef) (a' := ?_) #[true, true, true, true, true, true, false, false, false, false, false, false, false, false, false, false, false] rfl rfl (by kernel_rfl) (fun _ _ _ h => h) (Or.inr ⟨by rfl, rfl⟩) ?_ ?_
          rotate_left
          · simp only [Act.put, List.setIfInBounds_toArray, List.set_cons_zero, List.set_cons_succ, i64_w, i32_w]
            rfl
          refine pure_ (i := 6) (N := some 27) (v := undef) (a' := ?_) #[true, true, true, true, true, true, true, false, false, false, false, false, false, false, false, false, false] rfl rfl (by kernel_rfl) (fun _ _ _ h => h) (Or.inr ⟨by rfl, rfl⟩) ?_ ?_
          rotate_left
          · simp only [Act.put, List.setIfInBounds_toArray, List.set_cons_zero, List.set_cons_succ, i64_w, i32_w]
            rfl
          refine pure_ (i := 7) (N := some 28) (v := undef) (a' := ?_) #[true, true, true, true, true, true, true, true, false, false, false, false, false, false, false, false, false] rfl rfl (by kernel_rfl) (fun _ _ _ h => h) (Or.inr ⟨by rfl, rfl⟩) ?_ ?_
          rotate_left
          · simp only [Act.put, List.setIfInBounds_toArray, List.set_cons_zero, List.set_cons_succ, i64_w, i32_w]
            rfl
          refine pure_ (i := 8) (N := some 29) (v := undef) (a' := ?_) #[true, true, true, true, true, true, true, true, true, false, false, false, false, false, false, false, false] rfl rfl (by kernel_rfl) (fun _ _ _ h => h) (Or.inr ⟨by rfl, rfl⟩) ?_ ?_
          rotate_left
          · simp only [Act.put, List.setIfInBounds_toArray, List.set_cons_zero, List.set_cons_succ, i64_w, i32_w]
            rfl
          refine pure_ (i := 9) (N := some 30) (v := undef) (a' := ?_) #[true, true, true, true, true, true, true, true, true, true, false, false, false, false, false, false, false] rfl rfl (by kernel_rfl) (fun _ _ _ h => h) (Or.inr ⟨by rfl, rfl⟩) ?_ ?_
          rotate_left
          · simp only [Act.put, List.setIfInBounds_toArray, List.set_cons_zero, List.set_cons_succ, i64_w, i32_w]
            rfl
          refine pure_ (i := 10) (N := some 31) (v := undef) (a' := ?_) #[true, true, true, true, true, true, true, true, true, true, true, false, false, false, false, false, false] rfl rfl (by kernel_rfl) (fun _ _ _ h => h) (Or.inr ⟨by rfl, rfl⟩) ?_ ?_
          rotate_left
          · simp only [Act.put, List.setIfInBounds_toArray, List.set_cons_zero, List.set_cons_succ, i64_w, i32_w]
            rfl
          refine pure_ (i := 11) (N := some 32) (v := undef) (a' := ?_) #[true, true, true, true, true, true, true, true, true, true, true, true, false, false, false, false, false] rfl rfl (by kernel_rfl) (fun _ _ _ h => h) (Or.inr ⟨by rfl, rfl⟩) ?_ ?_
          rotate_left
          · simp only [Act.put, List.setIfInBounds_toArray, List.set_cons_zero, List.set_cons_succ, i64_w, i32_w]
            rfl
          refine pure_ (i := 12) (N := some 33) (v := undef) (a' := ?_) #[true, true, true, true, true, true, true, true, true, true, true, true, true, false, false, false, false] rfl rfl (by kernel_rfl) (fun _ _ _ h => h) (Or.inr ⟨by rfl, rfl⟩) ?_ ?_
          rotate_left
          · simp only [Act.put, List.setIfInBounds_toArray, List.set_cons_zero, List.set_cons_succ, i64_w, i32_w]
            rfl
          refine pure_ (i := 13) (N := some 34) (v := undef) (a' := ?_) #[true, true, true, true, true, true, true, true, true, true, true, true, true, true, false, false, false] rfl rfl (by kernel_rfl) (fun _ _ _ h => h) (Or.inr ⟨by rfl, rfl⟩) ?_ ?_
          rotate_left
          · simp only [Act.put, List.setIfInBounds_toArray, List.set_cons_zero, List.set_cons_succ, i64_w, i32_w]
            rfl
          refine pure_ (i := 14) (N := some 35) (v := undef) (a' := ?_) #[true, true, true, true, true, true, true, true, true, true, true, true, true, true, true, false, false] rfl rfl (by kernel_rfl) (fun _ _ _ h => h) (Or.inr ⟨by rfl, rfl⟩) ?_ ?_
          rotate_left
          · simp only [Act.put, List.setIfInBounds_toArray, List.set_cons_zero, List.set_cons_succ, i64_w, i32_w]
            rfl
          refine pure_ (i := 15) (N := some 36) (v := ?_) (a' := ?_) #[true, true, true, true, true, true, true, true, true, true, true, true, true, true, true, true, false] rfl rfl (by kernel_rfl) (fun _ _ _ h => h) (Or.inl ⟨by rfl, ?_⟩) ?_ ?_
          rotate_left
          · intro w'
            go_simp
            with_reducible rfl
          rotate_left
          · simp only [Act.put, List.setIfInBounds_toArray, List.set_cons_zero, List.set_cons_succ, i64_w, i32_w]
            rfl
          refine pure_ (i := 16) (N := some 8) (v := ?_) (a' := ?_) #[true, true, true, true, true, true, true, true, true, true, true, true, true, true, true, true, true] rfl rfl (by kernel_rfl) (fun _ _ _ h => h) (Or.inl ⟨by rfl, ?_⟩) ?_ ?_
          rotate_left
          · intro w'
            go_simp
            with_reducible rfl
          rotate_left
          · simp only [Act.put, List.setIfInBounds_toArray, List.set_cons_zero, List.set_cons_succ, i64_w, i32_w]
            rfl
          refine done_ (by kernel_rfl) ?_
          go_wp2
          go_meet
          case rel => exact ⟨rfl, ⟨below_drew (Below.refl _ _)⟩⟩
        · have e2 : ((i : Int) == 0) = false := beq_eq_false_iff_ne.mpr (by omega)
          obtain ⟨ad2, hA2, q2, q3⟩ := at_T25 (Kd.C_below HC.out HBo.out) ((i - 1 : Nat) : Int) (by omega) (by have := HLT.out; omega)
          rw [Int.toNat_natCast] at q2 q3
          obtain ⟨j, hj⟩ : ∃ j, j = i - 1 := ⟨_, rfl⟩
          have hf : fb = (x.f0 != (rdN s j).f0) := by rw [hfb, HX.out.2, hj]; unfold firstAt; rw [beq_eq_false_iff_ne.mpr c2, Bool.false_or]
          rw [← hj] at q2
          rw [show rd_T25 s (j : Int) = rdN s j from by simp [rd_T25, rdN]] at q2
          have w0 : wrap64 ((i : Int) - 1) = (j : Int) := by rw [Pl.w64 (by omega) (by have := HLT.out; have := HL.out; omega)]; omega
          have p3 : (j < s.length) = True := eq_true (by have := HLT.out; omega)
          have p4 : ((j : Int) < (s.length : Int)) = True := eq_true (by have := HLT.out; omega)
          generalize (rdN s j).f0 = y at q2 hf
          cases hA2
          subst hf
          clear hfb hj q1 q3 c2
          refine start_ (n := 17) (S := fun w' => w'.cell? (ad.add (i * 2)) = some (.int .i64 x.f0) ∧ w'.cell? (ad.add (j * 2)) = some (.int .i64 y)) (ds := []) #[false, false, false, false, false, false, false, false, false, false, false, false, false, false, false, false, false] (by kernel_rfl) rfl rfl ⟨q0, q2⟩ (fun hHeld => ?_)
          refine pure_ (i := 0) (N := some 21) (v := ?_) (a' := ?_) #[true, false, false, false, false, false, false, false, false, false, false, false, false, false, false, false, false] rfl rfl (by kernel_rfl) (fun _ _ _ h => h) (Or.inl ⟨by rfl, ?_⟩) ?_ ?_
          rotate_left
          · intro w'
            go_simp
            with_reducible rfl
          rotate_left
          · simp only [Act.put, List.setIfInBounds_toArray, List.set_cons_zero, List.set_cons_succ, i64_w, i32_w]
            rfl
          refine pure_ (i := 1) (N := some 22) (v := ?_) (a' := ?_) #[true, true, false, false, false, false, false, false, false, false, false, false, false, false, false, false, false] rfl rfl (by kernel_rfl) (fun _ _ _ h => h) (Or.inl ⟨by rfl, ?_⟩) ?_ ?_
          rotate_left
          · intro w'
            go_simp
            with_reducible rfl
          rotate_left
          · simp only [Act.put, List.setIfInBounds_toArray, List.set_cons_zero, List.set_cons_succ, i64_w, i32_w]
            rfl
          refine pure_ (i := 2) (N := some 23) (v := ?_) (a' := ?_) #[true, true, true, false, false, false, false, false, false, false, false, false, false, false, false, false, false] rfl rfl (by kernel_rfl) (fun _ _ _ h => h) (Or.inl ⟨by rfl, ?_⟩) ?_ ?_
          rotate_left
          · intro w'
            go_simp
            with_reducible rfl
          rotate_left
          · simp only [Act.put, List.setIfInBounds_toArray, List.set_cons_zero, List.set_cons_succ, i64_w, i32_w]
            rfl
          refine pure_ (i := 3) (N := some 24) (v := ?_) (a' := ?_) #[true, true, true, true, false, false, false, false, false, false, false, false, false, false, false, false, false] rfl rfl (by kernel_rfl) (fun _ _ _ h => h) (Or.inl ⟨by rfl, ?_⟩) ?_ ?_
          rotate_left
          · intro w'
            go_simp
            with_reducible rfl
          rotate_left
          · simp only [Act.put, List.setIfInBounds_toArray, List.set_cons_zero, List.set_cons_succ, i64_w, i32_w]
            rfl
          refine pure_ (i := 4) (N := some 25) (v := ?_) (a' := ?_) #[true, true, true, true, true, false, false, false, false, false, false, false, false, false, false, false, false] rfl rfl (by kernel_rfl) (fun _ _ _ h => h) (Or.inl ⟨by rfl, ?_⟩) ?_ ?_
          rotate_left
          · intro w'
            go_simp
            with_reducible rfl
          rotate_left
          · simp only [Act.put, List.setIfInBounds_toArray, List.set_cons_zero, List.set_cons_succ, i64_w, i32_w]
            rfl
          refine pure_ (i := 5) (N := some 26) (v := ?_) (a' := ?_) #[true, true, true, true, true, true, false, false, false, false, false, false, false, false, false, false, false] rfl rfl (by kernel_rfl) (fun _ _ _ h => h) (Or.inl ⟨by rfl, ?_⟩) ?_ ?_
          rotate_left
          · intro w'
            go_simp
            with_reducible rfl
          rotate_left
          · simp only [Act.put, List.setIfInBounds_toArray, List.set_cons_zero, List.set_cons_succ, i64_w, i32_w]
            rfl
          refine pure_ (i := 6) (N := some 27) (v := ?_) (a' := ?_) #[true, true, true, true, true, true, true, false, false, false, false, false, false, false, false, false, false] rfl rfl (by kernel_rfl) (fun _ _ _ h => h) (Or.inl ⟨by rfl, ?_⟩) ?_ ?_
          rotate_left
          · intro w'
            go_simp
            with_reducible rfl
          rotate_left
          · simp only [Act.put, List.setIfInBounds_toArray, List.set_cons_zero, List.set_cons_succ, i64_w, i32_w]
            rfl
          refine pure_ (i := 8) (N := some 29) (v := ?_) (a' := ?_) #[true, true, true, true, true, true, true, false, true, false, false, false, false, false, false, false, false] rfl rfl (by kernel_rfl) (fun _ _ _ h => h) (Or.inl ⟨by rfl, ?_⟩) ?_ ?_
          rotate_left
          · intro w'
            go_simp
            with_reducible rfl
          rotate_left
          · simp only [Act.put, List.setIfInBounds_toArray, List.set_cons_zero, List.set_cons_succ, i64_w, i32_w]
            rfl
          refine pure_ (i := 9) (N := some 30) (v := ?_) (a' := ?_) #[true, true, true, true, true, true, true, false, true, true, false, false, false, false, false, false, false] rfl rfl (by kernel_rfl) (fun _ _ _ h => h) (Or.inl ⟨by rfl, ?_⟩) ?_ ?_
          rotate_left
          · intro w'
            go_simp
            with_reducible rfl
          rotate_left
          · simp only [Act.put, List.setIfInBounds_toArray, List.set_cons_zero, List.set_cons_succ, i64_w, i32_w]
            rfl
          refine pure_ (i := 10) (N := some 31) (v := ?_) (a' := ?_) #[true, true, true, true, true, true, true, false, true, true, true, false, false, false, false, false, false] rfl rfl (by kernel_rfl) (fun _ _ _ h => h) (Or.inl ⟨by rfl, ?_⟩) ?_ ?_
          rotate_left
          · intro w'
            go_simp
            with_reducible rfl
          rotate_left
          · simp only [Act.put, List.setIfInBounds_toArray, List.set_cons_zero, List.set_cons_succ, i64_w, i32_w]
            rfl
          refine pure_ (i := 11) (N := some 32) (v := ?_) (a' := ?_) #[true, true, true, true, true, true, true, false, true, true, true, true, false, false, false, false, false] rfl rfl (by kernel_rfl) (fun _ _ _ h => h) (Or.inl ⟨by rfl, ?_⟩) ?_ ?_
          rotate_left
          · intro w'
            go_simp
            with_reducible rfl
          rotate_left
          · simp only [Act.put, List.setIfInBounds_toArray, List.set_cons_zero, List.set_cons_succ, i64_w, i32_w]
            rfl
          refine pure_ (i := 12) (N := some 33) (v := ?_) (a' := ?_) #[true, true, true, true, true, true, true, false, true, true, true, true, true, false, false, false, false] rfl rfl (by kernel_rfl) (fun _ _ _ h => h) (Or.inl ⟨by rfl, ?_⟩) ?_ ?_
          rotate_left
          · intro w'
            go_simp
            with_reducible rfl
          rotate_left
          · simp only [Act.put, List.setIfInBounds_toArray, List.set_cons_zero, List.set_cons_succ, i64_w, i32_w]
            rfl
          refine take_ (i := 7) (N := some 28) (v := ?_) (a' := ?_) #[true, true, true, true, true, true, true, true, true, true, true, true, true, false, false, false, false] rfl rfl (by kernel_rfl) (fun _ _ _ h => h) (Or.inl ⟨by rfl, ?_⟩) hHeld ?_ ?_
          rotate_left
          · rintro w' ⟨s0, s1⟩
            go_simp
            with_reducible rfl
          rotate_left
          · simp only [Act.put, List.setIfInBounds_toArray, List.set_cons_zero, List.set_cons_succ, i64_w, i32_w]
            rfl
          refine take_ (i := 13) (N := some 34) (v := ?_) (a' := ?_) #[true, true, true, true, true, true, true, true, true, true, true, true, true, true, false, false, false] rfl rfl (by kernel_rfl) (fun _ _ _ h => h) (Or.inl ⟨by rfl, ?_⟩) hHeld ?_ ?_
          rotate_left
          · rintro w' ⟨s0, s1⟩
            go_simp
            with_reducible rfl
          rotate_left
          · simp only [Act.put, List.setIfInBounds_toArray, List.set_cons_zero, List.set_cons_succ, i64_w, i32_w]
            rfl
          refine pure_ (i := 14) (N := some 35) (v := ?_) (a' := ?_) #[true, true, true, true, true, true, true, true, true, true, true, true, true, true, true, false, false] rfl rfl (by kernel_rfl) (fun _ _ _ h => h) (Or.inl ⟨by rfl, ?_⟩) ?_ ?_
          rotate_left
          · intro w'
            go_simp
            with_reducible rfl
          rotate_left
          · simp only [Act.put, List.setIfInBounds_toArray, List.set_cons_zero, List.set_cons_succ, i64_w, i32_w]
            rfl
          refine pure_ (i := 15) (N := some 36) (v := ?_) (a' := ?_) #[true, true, true, true, true, true, true, true, true, true, true, true, true, true, true, true, false] rfl rfl (by kernel_rfl) (fun _ _ _ h => h) (Or.inl ⟨by rfl, ?_⟩) ?_ ?_
          rotate_left
          · intro w'
            go_simp
            with_reducible rfl
          rotate_left
          · simp only [Act.put, List.setIfInBounds_toArray, List.set_cons_zero, List.set_cons_succ, i64_w, i32_w]
            rfl
          refine pure_ (i := 16) (N := some 8) (v := ?_) (a' := ?_) #[true, true, true, true, true, true, true, true, true, true, true, true, true, true, true, true, true] rfl rfl (by kernel_rfl) (fun _ _ _ h => h) (Or.inl ⟨by rfl, ?_⟩) ?_ ?_
          rotate_left
          · intro w'
            go_simp
            with_reducible rfl
          rotate_left
          · simp only [Act.put, List.setIfInBounds_toArray, List.set_cons_zero, List.set_cons_succ, i64_w, i32_w]
            rfl
          refine done_ (by kernel_rfl) ?_
          go_wp2
          go_meet
          case rel => exact ⟨rfl, ⟨below_drew (Below.refl _ _)⟩⟩
      case rest =>
        obtain ⟨rfl, HBc⟩ := hcut
        have hO1 := Kd.R_below HO.out HBc.out
        have hB1 := HBo.out.trans ⟨HBc.out.os, HBc.out.tape, HBc.out.output, HBc.out.size, fun i hi => HBc.out.block i (Nat.lt_of_lt_of_le hi HBo.out.size)⟩
        have HO1 := Aside0.mk hO1
        have HB1 := Aside0.mk hB1
        clear hO1 hB1 HO HBo HBc q0 q1 hfb
        subst hA
        obtain ⟨ad1, hA1, q0, q1⟩ := at_T25 (Kd.C_below HC.out HB1.out) (i : Int) (by omega) (by have := HLT.out; omega)
        cases hA1
        rw [Int.toNat_natCast] at q0 q1
        rw [show rd_T25 s (i : Int) = x from by rw [HX.out.2]; simp [rd_T25, rdN]] at q0 q1
        have hs1 := HB1.out.size
        have HS1 := Aside0.mk hs1
        clear hs1
        go_upto_if 37 with (fail)
        go_cut [6] (fun v6 wd => Aside0 (Kd.R k25 25 wd w2.heap.size (fun _ => True) v6 (grownR fb (outR kind s i) x)) ∧ Aside0 (Below w2.heap.size w2 wd))
        case first =>
          cases fb with
          | true =>
            go_wp2_with (first
              | ((with_reducible refine gate_builtin (b := .append) (xs := #[.tmp 38, .tmp 45]) rfl ?_); at_builtin; refine Kd.R_append k25 (w0 := w2) w2.heap.size rfl (.tmp 38) (.tmp 45) 26 25 (.agg #[.int .i64 0, .int .i64 0]) 16 rfl Try.underlying26 infoR rfl (by decide) (by omega) u6 (outR kind s i) ⟨x.f0, 0⟩ [.int .i64 x.f0, .int .i64 0] (fun _ => True) (fun _ => False) rfl rfl ?aP (fun _ hk => hk.elim) ?aF ?aO ?aB ?aS ?aL ?_; (case aP => exact k25_mkM _ _ _ _); (case aB => exact HB1.out); (case aF => exact (fun _ _ => trivial)); (case aO => exact HO1.out); (case aS => exact HS1.out); (case aL => (have := HLT.out; have := (outR_length kind s i).1; have := HL.out; omega)); intro va w8 hq hb hg hat7)
              | go_in)
            have HQ8 := Aside0.mk hq
            have HB8 := Aside0.mk hb
            clear hq hb hg hat7
            go_wp2
            go_meet
            case rel => exact ⟨HQ8, HB8⟩
          | false =>
            go_wp2
            go_meet
            case rel => exact ⟨HO1, HB1⟩
        case rest =>
          obtain ⟨HO2, HB2'⟩ := hcut
          clear HO1 HB1 HS1 q0 q1
          obtain ⟨O, hO⟩ : ∃ O, O = grownR fb (outR kind s i) x := ⟨_, rfl⟩
          rw [← hO] at HO2
          have hn : 0 < O.length ∧ O.length ≤ 1000 := by
            have h1 := outR_length kind s i
            have := HLT.out
            have := HL.out
            rw [hO, grownR_length]
            by_cases q : i = 0
            · subst q
              have : fb = true := by rw [HX.out.1]; rfl
              rw [this]
              simp
              omega
            · have := h1.2 (by omega)
              constructor
              · split <;> omega
              · split <;> omega
          obtain ⟨m, hm⟩ : ∃ m, O.length = m + 1 := ⟨O.length - 1, by omega⟩
          obtain ⟨g, cap, rfl, hbg, r0, r1, rz⟩ := last_at HO2.out hm
          have HN : Aside0 (O.length = m + 1 ∧ m < 1000 ∧ w2.heap.size ≤ g) := ⟨hm, by omega, hbg⟩
          have HGO := Aside0.mk hO
          have w0 : wrap64 (((m + 1 : Nat) : Int) - 1) = (m : Int) := by rw [Pl.w64 (by omega) (by omega)]; omega
          have w1_ : wrap64 ((m : Int) + 1 - 1) = (m : Int) := by rw [Pl.w64 (by omega) (by omega)]; omega
          have w2_ : wrap64 (m : Int) = (m : Int) := Pl.w64 (by omega) (by omega)
          have p5 : (m < m + 1) = True := eq_true (by omega)
          have p6 : ((m : Int) < (m : Int) + 1) = True := eq_true (by omega)
          have hpa : (⟨g, 0, none⟩ : Addr).add (m * 2) = ⟨g, m * 2, none⟩ := add_plain _ _
          obtain ⟨ad1, hA1, q0, q1⟩ := at_T25 (Kd.C_below HC.out HB2'.out) (i : Int) (by omega) (by have := HLT.out; omega)
          cases hA1
          rw [Int.toNat_natCast] at q0 q1
          rw [show rd_T25 s (i : Int) = x from by rw [HX.out.2]; simp [rd_T25, rdN]] at q0 q1
          clear hm hn hbg hO q0
          go_upto_block 2 with (fail)
          clear w0 w1_ w2_ p5 p6 hpa
          have hG : ∀ v : Int, v = upd kind fb (rdN O m).f1 x.f1 → outR kind s (i + 1) = putL O v := fun v hv => by
            show stepR kind (firstAt s i) (outR kind s i) (rdN s i) = _
            rw [← HX.out.1, ← HX.out.2, hv]
            unfold stepR
            rw [← HGO.out, HN.out.1]
            rfl
          have HGv := Aside0.mk hG
          have HP0 : Aside0 (putL O (rdN O m).f1 = O) := ⟨by
            unfold putL
            rw [HN.out.1]
            have hm := HN.out.1
            have : m < O.length := by omega
            show O.set m ⟨(rdN O m).f0, (rdN O m).f1⟩ = O
            have e : (⟨(rdN O m).f0, (rdN O m).f1⟩ : R) = O[m] := by
              unfold rdN
              rw [List.getD_eq_getElem?_getD, List.getElem?_eq_getElem this]
              rfl
            rw [e, List.set_getElem_self]⟩
          clear hG
          by_cases k11 : kind = 11
          · have e11 : (kind == 11) = true := beq_iff_eq.mpr k11
            have K11 := Aside0.mk k11
            clear k11
            go_upto_region 13 with (fail)
            refine start_ (n := 14) (S := fun w' => w'.cell? ⟨g, m * 2 + 1, none⟩ = some (.int .i64 (rdN O m).f1) ∧ w'.cell? ⟨(ad.add (i * 2)).block, (ad.add (i * 2)).off + 1, none⟩ = some (.int .i64 x.f1)) (ds := [13]) #[false, false, false, false, false, false, false, false, false, false, false, false, false, false] (by kernel_rfl) rfl rfl ⟨r1, q1⟩ (fun hHeld => ?_)
            refine pure_ (i := 0) (N := some 55) (v := ?_) (a' := ?_) #[true, false, false, false, false, false, false, false, false, false, false, false, false, false] rfl rfl (by kernel_rfl) (fun _ _ _ h => h) (Or.inl ⟨by rfl, ?_⟩) ?_ ?_
            rotate_left
            · intro w'
              go_simp
              with_reducible rfl
            rotate_left
            · simp only [Act.put, List.setIfInBounds_toArray, List.set_cons_zero, List.set_cons_succ, i64_w, i32_w]
              rfl
            refine pure_ (i := 1) (N := some 56) (v := ?_) (a' := ?_) #[true, true, false, false, false, false, false, false, false, false, false, false, false, false] rfl rfl (by kernel_rfl) (fun _ _ _ h => h) (Or.inl ⟨by rfl, ?_⟩) ?_ ?_
            rotate_left
            · intro w'
              go_simp
              with_reducible rfl
            rotate_left
            · simp only [Act.put, List.setIfInBounds_toArray, List.set_cons_zero, List.set_cons_succ, i64_w, i32_w]
              rfl
            refine pure_ (i := 2) (N := some 57) (v := ?_) (a' := ?_) #[true, true, true, false, false, false, false, false, false, false, false, false, false, false] rfl rfl (by kernel_rfl) (fun _ _ _ h => h) (Or.inl ⟨by rfl, ?_⟩) ?_ ?_
            rotate_left
            · intro w'
              go_simp
              with_reducible rfl
            rotate_left
            · simp only [Act.put, List.setIfInBounds_toArray, List.set_cons_zero, List.set_cons_succ, i64_w, i32_w]
              rfl
            refine pure_ (i := 3) (N := some 58) (v := ?_) (a' := ?_) #[true, true, true, true, false, false, false, false, false, false, false, false, false, false] rfl rfl (by kernel_rfl) (fun _ _ _ h => h) (Or.inl ⟨by rfl, ?_⟩) ?_ ?_
            rotate_left
            · intro w'
              go_simp
              with_reducible rfl
            rotate_left
            · simp only [Act.put, List.setIfInBounds_toArray, List.set_cons_zero, List.set_cons_succ, i64_w, i32_w]
              rfl
            refine pure_ (i := 5) (N := some 60) (v := ?_) (a' := ?_) #[true, true, true, true, false, true, false, false, false, false, false, false, false, false] rfl rfl (by kernel_rfl) (fun _ _ _ h => h) (Or.inl ⟨by rfl, ?_⟩) ?_ ?_
            rotate_left
            · intro w'
              go_simp
              with_reducible rfl
            rotate_left
            · simp only [Act.put, List.setIfInBounds_toArray, List.set_cons_zero, List.set_cons_succ, i64_w, i32_w]
              rfl
            refine pure_ (i := 6) (N := some 61) (v := ?_) (a' := ?_) #[true, true, true, true, false, true, true, false, false, false, false, false, false, false] rfl rfl (by kernel_rfl) (fun _ _ _ h => h) (Or.inl ⟨by rfl, ?_⟩) ?_ ?_
            rotate_left
            · intro w'
              go_simp
              with_reducible rfl
            rotate_left
            · simp only [Act.put, List.setIfInBounds_toArray, List.set_cons_zero, List.set_cons_succ, i64_w, i32_w]
              rfl
            refine pure_ (i := 7) (N := some 62) (v := ?_) (a' := ?_) #[true, true, true, true, false, true, true, true, false, false, false, false, false, false] rfl rfl (by kernel_rfl) (fun _ _ _ h => h) (Or.inl ⟨by rfl, ?_⟩) ?_ ?_
            rotate_left
            · intro w'
              go_simp
              with_reducible rfl
            rotate_left
            · simp only [Act.put, List.setIfInBounds_toArray, List.set_cons_zero, List.set_cons_succ, i64_w, i32_w]
              rfl
            refine pure_ (i := 8) (N := some 63) (v := ?_) (a' := ?_) #[true, true, true, true, false, true, true, true, true, false, false, false, false, false] rfl rfl (by kernel_rfl) (fun _ _ _ h => h) (Or.inl ⟨by rfl, ?_⟩) ?_ ?_
            rotate_left
            · intro w'
              go_simp
              with_reducible rfl
            rotate_left
            · simp only [Act.put, List.setIfInBounds_toArray, List.set_cons_zero, List.set_cons_succ, i64_w, i32_w]
              rfl
            refine take_ (i := 4) (N := some 59) (v := ?_) (a' := ?_) #[true, true, true, true, true, true, true, true, true, false, false, false, false, false] rfl rfl (by kernel_rfl) (fun _ _ _ h => h) (Or.inl ⟨by rfl, ?_⟩) hHeld ?_ ?_
            rotate_left
            · rintro w' ⟨s0, s1⟩
              go_simp
              with_reducible rfl
            rotate_left
            · simp only [Act.put, List.setIfInBounds_toArray, List.set_cons_zero, List.set_cons_succ, i64_w, i32_w]
              rfl
            refine take_ (i := 9) (N := some 64) (v := ?_) (a' := ?_) #[true, true, true, true, true, true, true, true, true, true, false, false, false, false] rfl rfl (by kernel_rfl) (fun _ _ _ h => h) (Or.inl ⟨by rfl, ?_⟩) hHeld ?_ ?_
            rotate_left
            · rintro w' ⟨s0, s1⟩
              go_simp
              with_reducible rfl
            rotate_left
            · simp only [Act.put, List.setIfInBounds_toArray, List.set_cons_zero, List.set_cons_succ, i64_w, i32_w]
              rfl
            refine pure_ (i := 10) (N := some 65) (v := ?_) (a' := ?_) #[true, true, true, true, true, true, true, true, true, true, true, false, false, false] rfl rfl (by kernel_rfl) (fun _ _ _ h => h) (Or.inl ⟨by rfl, ?_⟩) ?_ ?_
            rotate_left
            · intro w'
              go_simp
              with_reducible rfl
            rotate_left
            · simp only [Act.put, List.setIfInBounds_toArray, List.set_cons_zero, List.set_cons_succ, i64_w, i32_w]
              rfl
            refine pure_ (i := 11) (N := some 66) (v := ?_) (a' := ?_) #[true, true, true, true, true, true, true, true, true, true, true, true, false, false] rfl rfl (by kernel_rfl) (fun _ _ _ h => h) (Or.inl ⟨by rfl, ?_⟩) ?_ ?_
            rotate_left
            · intro w'
              go_simp
              with_reducible rfl
            rotate_left
            · simp only [Act.put, List.setIfInBounds_toArray, List.set_cons_zero, List.set_cons_succ, i64_w, i32_w]
              rfl
            refine pure_ (i := 12) (N := some 67) (v := ?_) (a' := ?_) #[true, true, true, true, true, true, true, true, true, true, true, true, true, false] rfl rfl (by kernel_rfl) (fun _ _ _ h => h) (Or.inl ⟨by rfl, ?_⟩) ?_ ?_
            rotate_left
            · intro w'
              go_simp
              with_reducible rfl
            rotate_left
            · simp only [Act.put, List.setIfInBounds_toArray, List.set_cons_zero, List.set_cons_succ, i64_w, i32_w]
              rfl
            refine last_ (i := 13) (N := none) #[true, true, true, true, true, true, true, true, true, true, true, true, true, true] rfl rfl (by kernel_rfl) (by decide) (fun K hK => ?_)
            refine skip_ (w1 := ?_) (by rfl) rfl ?_ ?_
            rotate_left
            · go_simp
              rfl
            refine hK.out _ _ ?_
            clear hK K
            refine done_ (by kernel_rfl) ?_
            have HO3 : Aside0 (Kd.R k25 25 (wc.setCell ⟨g, m * 2 + 1, none⟩ (.int .i64 (wrap64 ((rdN O m).f1 + x.f1)))).drew w2.heap.size (fun _ => True) (.slice (some ⟨g, 0, none⟩) (m + 1) cap) (outR kind s (i + 1))) := ⟨by
              rw [HGv.out (wrap64 ((rdN O m).f1 + x.f1)) (by unfold upd; rw [if_pos K11.out])]
              exact Kd.R_below (R_putL HO2.out _) (below_drew (Below.refl _ _))⟩
            have HB3 : Aside0 (Below w2.heap.size w2 (wc.setCell ⟨g, m * 2 + 1, none⟩ (.int .i64 (wrap64 ((rdN O m).f1 + x.f1)))).drew) := ⟨below_drew (HB2'.out.setCell HN.out.2.2 _)⟩
            clear HO2 HB2' HGv HP0 r0 r1 q1 rz
            generalize World.drew _ = wz at HO3 HB3 ⊢
            go_wp2
            go_roundg (gk - 1)
            case measure => have := HI.out; omega
            case rel => exact ⟨i + 1, by first | rfl | (rw [Pl.w64 (by omega) (by have := HLT.out; have := HL.out; omega)]; rfl), ⟨by have := HI.out; have := HLT.out; omega⟩, HO3, HB3⟩
          · have e11 : (kind == 11) = false := beq_eq_false_iff_ne.mpr k11
            have K11 := Aside0.mk k11
            clear k11
            by_cases k12 : kind = 12
            · have e12 : (kind == 12) = true := beq_iff_eq.mpr k12
              have K12 := Aside0.mk k12
              clear k12
              go_wp2
              have HO3 : Aside0 (Kd.R k25 25 (wc.setCell ⟨g, m * 2 + 1, none⟩ (.int .i64 (wrap64 ((rdN O m).f1 + 1)))) w2.heap.size (fun _ => True) (.slice (some ⟨g, 0, none⟩) (m + 1) cap) (outR kind s (i + 1))) := ⟨by
                rw [HGv.out (wrap64 ((rdN O m).f1 + 1)) (by unfold upd; rw [if_neg K11.out, if_pos K12.out])]
                exact R_putL HO2.out _⟩
              have HB3 : Aside0 (Below w2.heap.size w2 (wc.setCell ⟨g, m * 2 + 1, none⟩ (.int .i64 (wrap64 ((rdN O m).f1 + 1))))) := ⟨HB2'.out.setCell HN.out.2.2 _⟩
              clear HO2 HB2' HGv HP0 r0 r1 q1 rz
              generalize World.setCell _ _ _ = wz at HO3 HB3 ⊢
              go_roundg (gk - 1)
              case measure => have := HI.out; omega
              case rel => exact ⟨i + 1, by first | rfl | (rw [Pl.w64 (by omega) (by have := HLT.out; have := HL.out; omega)]; rfl), ⟨by have := HI.out; have := HLT.out; omega⟩, HO3, HB3⟩
            · have e12 : (kind == 12) = false := beq_eq_false_iff_ne.mpr k12
              have K12 := Aside0.mk k12
              clear k12
              cases fb with
              | true =>
                go_wp2
                have HO3 : Aside0 (Kd.R k25 25 (wc.setCell ⟨g, m * 2 + 1, none⟩ (.int .i64 x.f1)) w2.heap.size (fun _ => True) (.slice (some ⟨g, 0, none⟩) (m + 1) cap) (outR kind s (i + 1))) := ⟨by
                  rw [HGv.out x.f1 (by unfold upd; rw [if_neg K11.out, if_neg K12.out, if_pos (.inl rfl)])]
                  exact R_putL HO2.out _⟩
                have HB3 : Aside0 (Below w2.heap.size w2 (wc.setCell ⟨g, m * 2 + 1, none⟩ (.int .i64 x.f1))) := ⟨HB2'.out.setCell HN.out.2.2 _⟩
                clear HO2 HB2' HGv HP0 r0 r1 q1 rz
                generalize World.setCell _ _ _ = wz at HO3 HB3 ⊢
                go_roundg (gk - 1)
                case measure => have := HI.out; omega
                case rel => exact ⟨i + 1, by first | rfl | (rw [Pl.w64 (by omega) (by have := HLT.out; have := HL.out; omega)]; rfl), ⟨by have := HI.out; have := HLT.out; omega⟩, HO3, HB3⟩
              | false =>
                by_cases k14 : kind = 14
                · have e14 : (kind == 14) = true := beq_iff_eq.mpr k14
                  have K14 := Aside0.mk k14
                  clear k14
                  go_wp2
                  have HO3 : Aside0 (Kd.R k25 25 (wc.setCell ⟨g, m * 2 + 1, none⟩ (.int .i64 x.f1)) w2.heap.size (fun _ => True) (.slice (some ⟨g, 0, none⟩) (m + 1) cap) (outR kind s (i + 1))) := ⟨by
                    rw [HGv.out x.f1 (by unfold upd; rw [if_neg K11.out, if_neg K12.out, if_pos (.inr K14.out)])]
                    exact R_putL HO2.out _⟩
                  have HB3 : Aside0 (Below w2.heap.size w2 (wc.setCell ⟨g, m * 2 + 1, none⟩ (.int .i64 x.f1))) := ⟨HB2'.out.setCell HN.out.2.2 _⟩
                  clear HO2 HB2' HGv HP0 r0 r1 q1 rz
                  generalize World.setCell _ _ _ = wz at HO3 HB3 ⊢
                  go_roundg (gk - 1)
                  case measure => have := HI.out; omega
                  case rel => exact ⟨i + 1, by first | rfl | (rw [Pl.w64 (by omega) (by have := HLT.out; have := HL.out; omega)]; rfl), ⟨by have := HI.out; have := HLT.out; omega⟩, HO3, HB3⟩
                · have e14 : (kind == 14) = false := beq_eq_false_iff_ne.mpr k14
                  have K14 := Aside0.mk k14
                  clear k14
                  go_wp2
                  have HO3 : Aside0 (Kd.R k25 25 (wc) w2.heap.size (fun _ => True) (.slice (some ⟨g, 0, none⟩) (m + 1) cap) (outR kind s (i + 1))) := ⟨by
                    rw [HGv.out (rdN O m).f1 (by unfold upd; rw [if_neg K11.out, if_neg K12.out, if_neg (by have := K14.out; simp [this])])]
                    rw [HP0.out]; exact HO2.out⟩
                  have HB3 : Aside0 (Below w2.heap.size w2 (wc)) := ⟨HB2'.out⟩
                  clear HO2 HB2' HGv HP0 r0 r1 q1 rz
                  go_roundg (gk - 1)
                  case measure => have := HI.out; omega
                  case rel => exact ⟨i + 1, by first | rfl | (rw [Pl.w64 (by omega) (by have := HLT.out; have := HL.out; omega)]; rfl), ⟨by have := HI.out; have := HLT.out; omega⟩, HO3, HB3⟩
    · have e1 : decide ((i : Int) < (s.length : Int)) = false := decide_eq_false (by omega)
      have p1 : (i < s.length) = False := eq_false c1
      have p2 : ((i : Int) < (s.length : Int)) = False := eq_false (by omega)
      obtain rfl : i = s.length := by have := HI.out; omega
      clear c1 HI
      go_wp2
      go_ret2
      exact ⟨u6, rfl, Kd.R_lower HO.out HB2.out.size, below_step HB2.out HBo.out⟩
theorem refFold_not (kind : Int) (A : Option Addr) (c n : Nat) (w : World) (hk : ¬ (11 ≤ kind ∧ kind ≤ 14)) :
    Calls Try.prog 18 #[.int .i64 kind, .slice A n c] w fun e w' => e = .returned (.tuple #[.slice none 0 0, .int .i64 70]) ∧ Below w.heap.size w w' := by
  go_enter Try.func18, Try.ntmps18
  go_wp2_with fail
  refine (watershedref12_Keeps.calls kind false _ (by unfold watershedref12_Keeps.f; by_cases q : kind ≥ 11 <;> simp [q] <;> omega)).mono ?_
  rintro e w1 ⟨rfl, nd, rfl⟩
  go_wp2
  go_ret2
  exact ⟨rfl, pw_below_drewN (Below.refl _ _) nd⟩
end Go.Proofs.Ytogainbkidgkhaa.H12
namespace Go.Proofs.Ytogainbkidgkhaa.Ext
open Go.RowKit Go.Proofs.YtogainbkidgkhaaW.PrintWords Go.Proofs.YtogainbkidgkhaaW.PrintLast Go.Proofs.YtogainbkidgkhaaW.PrintMore Go.Proofs.Ytogainbkidgkhaa.Base Go.Proofs.Ytogainbkidgkhaa.Q12f H12
def watershedref12_Fold.f (kind : Int) (l : List H12.R) : Option (List H12.R × Int) :=
  if 11 ≤ kind ∧ kind ≤ 14 then (watershedref11_Order.f 1000000 l).bind fun s => if s.length ≤ 1000 then some (outR kind s s.length, 0) else none else some ([], 70)
theorem watershedref12_Fold.calls (a0 : Int) (A1 : Option Addr) (c1 : Nat) (l1 : List H12.R) (r1 : List H12.R) (r2 : Int) (w : World) (hr1 : Kd.C k25 w A1 l1.length l1) (hc1 : l1.length ≤ c1) (h : watershedref12_Fold.f a0 l1 = some (r1, r2)) :
    Calls Try.prog 18 #[.int .i64 a0, .slice A1 l1.length c1] w fun e w' => ∃ v0_ : Value, e = .returned (.tuple #[v0_, .int .i64 r2]) ∧ Kd.R k25 25 w' w.heap.size (fun _ => True) v0_ r1 ∧ Below w.heap.size w w' := by
  unfold watershedref12_Fold.f at h
  split at h
  · rename_i hk
    obtain ⟨s, hs, h⟩ := Option.bind_eq_some_iff.1 h
    split at h
    · rename_i hl
      injection h with h
      injection h with h1 h2
      subst h1 h2
      exact refFold_walk a0 A1 c1 l1 s w hr1 hc1 hs hl hk
    · cases h
  · rename_i hk
    injection h with h
    injection h with h1 h2
    subst h1 h2
    refine (refFold_not a0 A1 c1 l1.length w hk).mono ?_
    rintro e w' ⟨rfl, hb⟩
    exact ⟨_, rfl, Kd.R_nil _ _ _ _ _, hb⟩
end Go.Proofs.Ytogainbkidgkhaa.Ext
