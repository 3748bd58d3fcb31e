import Derived.Test.YtljmamlceofcfaaX06S
import Derived.Test.YtljmamlceofcfaaSh5
/- Contracts of package chain that ask a function of each time: times, Holds, LE. -/
namespace Go.Proofs.Ytljmamlceofcfaa.V06
set_option linter.unusedSimpArgs false
set_option linter.unusedVariables false
open Go Go.Proofs Go.RowKit Go.Sort Go.Proofs.YtljmamlceofcfaaW.PrintWords Go.Proofs.YtljmamlceofcfaaW.PrintLast Go.Proofs.YtljmamlceofcfaaW.PrintMore Go.Proofs.Ytljmamlceofcfaa.Base Go.Proofs.Ytljmamlceofcfaa.Q06t
open M06 (sgc orZ cmpT cmpR ltR leR chkR)
abbrev fCF : Nat := 73
abbrev fIF : Nat := 114
theorem index_none (A : Option Addr) (c : Nat) (f : Value) (w : World) : Calls Try.prog fIF #[.slice A 0 c, f] w fun e w' => e = .returned (.int .i64 (-1)) ∧ Below w.heap.size w w' := by
  have HB := Aside0.mk (Below.refl w.heap.size w)
  go_enter Try.func114, Try.ntmps114
  go_wp2
  refine wp_loop_rounds 1 ?_
  rw [rounds_succ]
  go_wp2
  go_ret
  exact ⟨rfl, HB.out⟩
theorem contains_none (A : Option Addr) (c : Nat) (f : Value) (w : World) : Calls Try.prog fCF #[.slice A 0 c, f] w fun e w' => e = .returned (.bool false) ∧ Below w.heap.size w w' := by
  have HI := Aside0.mk (index_none A c f w)
  go_enter Try.func73, Try.ntmps73
  go_wp2_with fail
  refine HI.out.mono ?_
  rintro e w1 ⟨rfl, hb⟩
  have HB := Aside0.mk hb
  clear hb
  go_wp2
  go_ret
  exact ⟨rfl, HB.out⟩
theorem contains_c (p : R → Bool) (g : Nat) (lb : Array Value) (eg : ∀ args w, (callFunc g args).run Try.prog w = .ok (.enter g args) w) (A : Option Addr) (c : Nat) (l : List R) (w : World) (hr : Kd.C k26 w A l.length l) (hl : l.length ≤ 1000000)
    (hp : PredBelow Try.prog g lb (fun x => .agg (encL x).toArray) p w) :
    Calls Try.prog fCF #[.slice A l.length c, .func (.func g) #[] lb] w fun e w' => e = .returned (.bool (l.any p)) ∧ Below w.heap.size w w' := by
  by_cases h0 : l.length = 0
  · obtain rfl := List.eq_nil_of_length_eq_zero h0
    exact contains_none A c _ w
  · obtain ⟨b, off, rfl, hb, hc⟩ := at_C hr (by omega)
    have := AnyQ.slices_ContainsFunc Sh.containsf 5 Try.isAgg26 Try.sizeOf26 encL (fun _ => rfl) p g lb eg b off l.length c l w hp (Nat.le_refl _) (by omega) hb (fun j hj i v hi => by
      have h1 := hc j hj
      rw [getElem!_pos l j hj] at hi
      match i, hi with
      | 0, hi => simp [encL] at hi; rw [← hi]; exact h1.1
      | 1, hi => simp [encL] at hi; rw [← hi]; exact h1.2.1
      | 2, hi => simp [encL] at hi; rw [← hi]; exact h1.2.2.1
      | 3, hi => simp [encL] at hi; rw [← hi]; exact h1.2.2.2.1
      | 4, hi => simp [encL] at hi; rw [← hi]; exact h1.2.2.2.2
      | i + 5, hi => simp [encL] at hi)
    rw [List.take_length] at this
    exact this
/-! ### Holds -/
abbrev tC (x : R) : Obj := .cells #[.int .u32 x.f0, .int .i64 x.f1, .int .u32 x.f2.f0, .int .u32 x.f2.f1, .int .u32 x.f2.f2] 26
theorem holds1 (t : R) (B : Nat) (w : World) (hb : w.heap[B]? = some (tC t)) :
    PredBelow Try.prog 74 #[.pointer (some ⟨B, 0, none⟩)] (fun x => .agg (encL x).toArray) (fun x => leR x t) w := fun W x hbw => by
  have HG := blk_below hb (hbw)
  have HL := Aside0.mk (Ext.stamp_LE_c x.f0 x.f1 x.f2.f0 x.f2.f1 x.f2.f2 t.f0 t.f1 t.f2.f0 t.f2.f1 t.f2.f2)
  have HBW := Aside0.mk hbw
  have r0 := blk_at (i := 0) HG rfl
  have r1 := blk_at (i := 1) HG rfl
  have r2 := blk_at (i := 2) HG rfl
  have r3 := blk_at (i := 3) HG rfl
  have r4 := blk_at (i := 4) HG rfl
  have hlt : B < W.heap.size := (Array.getElem?_eq_some_iff.1 HG).1
  have hne : B ≠ W.heap.size := by omega
  clear HG hb
  show Calls Try.prog 74 #[.agg #[.int .u32 x.f0, .int .i64 x.f1, .int .u32 x.f2.f0, .int .u32 x.f2.f1, .int .u32 x.f2.f2], .pointer (some ⟨B, 0, none⟩)] W _
  go_enter Try.func74, Try.ntmps74
  go_wp2_with fail
  refine (HL.out _).mono ?_
  rintro e w1 ⟨rfl, hb1⟩
  have HB1 := Aside0.mk hb1
  clear hb1
  go_wp2
  go_ret
  exact ⟨rfl, (HBW.out.alloc HBW.out.size _).trans (HB1.out.mono (by simp; have := HBW.out.size; omega))⟩
theorem holds_c (A0 : Option Addr) (c0 : Nat) (l0 : List R) (t : R) (w : World) (hr0 : Kd.C k26 w A0 l0.length l0) (hl : l0.length ≤ 1000000) :
    Calls Try.prog 21 #[.slice A0 l0.length c0, .agg #[.int .u32 t.f0, .int .i64 t.f1, .int .u32 t.f2.f0, .int .u32 t.f2.f1, .int .u32 t.f2.f2]] w fun e w' => e = .returned (.bool (Fr.holds leR l0 t)) ∧ Below w.heap.size w w' := by
  have hb0 := below_alloc (Below.refl w.heap.size w) (tC t)
  have HC := Aside0.mk (contains_c (fun x => leR x t) 74 #[.pointer (some ⟨w.heap.size, 0, none⟩)] (enters_of Try.func74 (by kernel_rfl) rfl) A0 c0 l0 (w.alloc (tC t)) (Kd.C_below hr0 hb0) hl (holds1 t w.heap.size _ (blk_new w (tC t))))
  have HB := Aside0.mk hb0
  clear hb0 hr0
  go_enter Try.func21, Try.ntmps21
  go_wp2_with fail
  refine HC.out.mono ?_
  rintro e w1 ⟨rfl, hb1⟩
  have HB1 := Aside0.mk (below_step HB.out hb1)
  clear hb1
  go_wp2
  go_ret
  exact ⟨rfl, HB1.out⟩
/-! ### LE -/
theorem le1 (a : List R) (A : Option Addr) (c : Nat) (hl : a.length ≤ 1000000) (B : Nat) (w : World) (hr : Kd.C k26 w A a.length a) (hb : w.heap[B]? = some (.cells #[.slice A a.length c] TS (0, 0))) :
    PredBelow Try.prog 81 #[.pointer (some ⟨B, 0, none⟩)] (fun x => .agg (encL x).toArray) (fun x => !Fr.holds leR a x) w := fun W x hbw => by
  have HG := blk_below hb (hbw)
  have hbx := below_alloc (Below.refl W.heap.size W) (tC x)
  have HL := Aside0.mk (holds_c A c a x (W.alloc (tC x)) (Kd.C_below (Kd.C_below hr hbw) hbx) hl)
  have HBW := Aside0.mk hbw
  have r0 := blk_at (i := 0) HG rfl
  have hlt : B < W.heap.size := (Array.getElem?_eq_some_iff.1 HG).1
  have hne : B ≠ W.heap.size := by omega
  clear HG hb hbx hr
  show Calls Try.prog 81 #[.agg #[.int .u32 x.f0, .int .i64 x.f1, .int .u32 x.f2.f0, .int .u32 x.f2.f1, .int .u32 x.f2.f2], .pointer (some ⟨B, 0, none⟩)] W _
  go_enter Try.func81, Try.ntmps81
  go_wp2_with fail
  refine HL.out.mono ?_
  rintro e w1 ⟨rfl, hb1⟩
  have HB1 := Aside0.mk hb1
  clear hb1
  go_wp2
  go_ret
  exact ⟨rfl, (HBW.out.alloc HBW.out.size _).trans (HB1.out.mono (by simp; have := HBW.out.size; omega))⟩
theorem le_c (A0 : Option Addr) (c0 : Nat) (l0 : List R) (A1 : Option Addr) (c1 : Nat) (l1 : List R) (w : World) (hr0 : Kd.C k26 w A0 l0.length l0) (hr1 : Kd.C k26 w A1 l1.length l1) (hl0 : l0.length ≤ 1000000) (hl1 : l1.length ≤ 1000000) :
    Calls Try.prog 27 #[.slice A0 l0.length c0, .slice A1 l1.length c1] w fun e w' => e = .returned (.bool (Fr.leF leR l0 l1)) ∧ Below w.heap.size w w' := by
  have hb0 := below_alloc (Below.refl w.heap.size w) (.cells #[.slice A0 l0.length c0] TS)
  have HC := Aside0.mk (contains_c (fun x => !Fr.holds leR l0 x) 81 #[.pointer (some ⟨w.heap.size, 0, none⟩)] (enters_of Try.func81 (by kernel_rfl) rfl) A1 c1 l1 (w.alloc (.cells #[.slice A0 l0.length c0] TS)) (Kd.C_below hr1 hb0) hl1 (le1 l0 A0 c0 hl0 w.heap.size _ (Kd.C_below hr0 hb0) (blk_new w _)))
  have HB := Aside0.mk hb0
  have HX : Aside0 ((!(l1.any fun x => !Fr.holds leR l0 x)) = Fr.leF leR l0 l1) := ⟨by unfold Fr.leF; rw [List.not_any_eq_all_not]; simp⟩
  clear hb0 hr0 hr1
  go_enter Try.func27, Try.ntmps27
  go_wp2_with fail
  refine HC.out.mono ?_
  rintro e w1 ⟨rfl, hb1⟩
  have HB1 := Aside0.mk (below_step HB.out hb1)
  clear hb1
  generalize (l1.any fun x => !Fr.holds leR l0 x) = q at HX ⊢
  go_wp2
  go_ret
  exact ⟨by rw [HX.out]; rfl, HB1.out⟩
/-! ### times -/
def timesF : List R → Int
  | [] => 0
  | x :: t => if chkR x ≠ 0 then chkR x else timesF t
def sameDepth (l : List R) : Bool := !(l.any fun x => !(x.f1 == (l.headD z26).f1))
def timesE (l : List R) : Int := if timesF l ≠ 0 then timesF l else if sameDepth l then 0 else 10
theorem times1 (l : List R) (b off c : Nat) (B : Nat) (w : World) (h0 : 0 < l.length) (hc : w.cell? ⟨b, off + 1, none⟩ = some (.int .i64 l[0].f1)) (hbb : b < w.heap.size) (hb : w.heap[B]? = some (.cells #[.slice (some ⟨b, off, none⟩) l.length c] TS (0, 0))) :
    PredBelow Try.prog 106 #[.pointer (some ⟨B, 0, none⟩)] (fun x => .agg (encL x).toArray) (fun x => !(x.f1 == (l.headD z26).f1)) w := fun W x hbw => by
  have HG := blk_below hb hbw
  have HBW := Aside0.mk hbw
  have r0 := blk_at (i := 0) HG rfl
  have r1 : W.cell? ⟨b, off + 1, none⟩ = some (.int .i64 (l.headD z26).f1) := by
    rw [hbw.cell (p := ⟨b, off + 1, none⟩) hbb, hc]
    cases l with
    | nil => simp at h0
    | cons y t => rfl
  have hlt : B < W.heap.size := (Array.getElem?_eq_some_iff.1 HG).1
  have hne : B ≠ W.heap.size := by omega
  have hbs : b < W.heap.size := Nat.lt_of_lt_of_le hbb hbw.size
  have hne2 : b ≠ W.heap.size := by omega
  have hpos : (0 : Int) < (l.length : Int) := by omega
  generalize l.headD z26 = y at r1 ⊢
  generalize l.length = n at r0 hpos
  obtain ⟨n, rfl⟩ : ∃ m, n = m + 1 := ⟨n - 1, by omega⟩
  clear HG hb hc hbb hbw h0
  show Calls Try.prog 106 #[.agg #[.int .u32 x.f0, .int .i64 x.f1, .int .u32 x.f2.f0, .int .u32 x.f2.f1, .int .u32 x.f2.f2], .pointer (some ⟨B, 0, none⟩)] W _
  go_enter Try.func106, Try.ntmps106
  go_upto_region 1 with (fail)
  have HB1 := Aside0.mk (HBW.out.alloc HBW.out.size (tC x))
  have s0 := blk_at (i := 1) (blk_new W (tC x)) rfl
  have s1 := (World.cell?_alloc_lt W (tC x) ⟨B, 0, none⟩ hlt).trans r0
  have s2 := (World.cell?_alloc_lt W (tC x) ⟨b, off + 1, none⟩ hbs).trans r1
  clear r0 r1
  unfold tC at s0 s1 s2 HB1
  generalize W.alloc (.cells #[.int .u32 x.f0, .int .i64 x.f1, .int .u32 x.f2.f0, .int .u32 x.f2.f1, .int .u32 x.f2.f2] 26) = w1 at s0 s1 s2 HB1 ⊢
  generalize W.heap.size = g at s0 ⊢
  refine start_ (n := 8) (S := fun w' => w'.cell? ⟨g, 1, none⟩ = some (.int .i64 x.f1) ∧ w'.cell? ⟨B, 0, none⟩ = some (.slice (some ⟨b, off, none⟩) (n + 1) c) ∧ w'.cell? ⟨b, off + 1, none⟩ = some (.int .i64 y.f1)) (ds := []) #[false, false, false, false, false, false, false, false] (by kernel_rfl) rfl rfl ⟨s0, s1, s2⟩ (fun hHeld => ?_)
  refine pure_ (i := 0) (N := some 4) (v := ?_) (a' := ?_) #[true, false, false, false, false, false, false, false] rfl rfl (by kernel_rfl) (fun _ _ _ h => h) (Or.inl ⟨by rfl, ?_⟩) ?_ ?_
  rotate_left
  · intro w'
    go_simp
    with_reducible rfl
  rotate_left
  · simp only [Act.put, List.setIfInBounds_toArray, List.set_cons_zero, List.set_cons_succ, i64_w, i32_w]
    rfl
  refine take_ (i := 1) (N := some 5) (v := ?_) (a' := ?_) #[true, true, false, false, false, false, false, false] rfl rfl (by kernel_rfl) (fun _ _ _ h => h) (Or.inl ⟨by rfl, ?_⟩) hHeld ?_ ?_
  rotate_left
  · rintro w' ⟨s0, s1, s2⟩
    go_simp
    with_reducible rfl
  rotate_left
  · simp only [Act.put, List.setIfInBounds_toArray, List.set_cons_zero, List.set_cons_succ, i64_w, i32_w]
    rfl
  refine take_ (i := 2) (N := some 6) (v := ?_) (a' := ?_) #[true, true, true, false, false, false, false, false] rfl rfl (by kernel_rfl) (fun _ _ _ h => h) (Or.inl ⟨by rfl, ?_⟩) hHeld ?_ ?_
  rotate_left
  · rintro w' ⟨s0, s1, s2⟩
    go_simp
    with_reducible rfl
  rotate_left
  · simp only [Act.put, List.setIfInBounds_toArray, List.set_cons_zero, List.set_cons_succ, i64_w, i32_w]
    rfl
  refine pure_ (i := 3) (N := some 7) (v := ?_) (a' := ?_) #[true, true, true, true, false, false, false, false] rfl rfl (by kernel_rfl) (fun _ _ _ h => h) (Or.inl ⟨by rfl, ?_⟩) ?_ ?_
  rotate_left
  · intro w'
    go_simp
    with_reducible rfl
  rotate_left
  · simp only [Act.put, List.setIfInBounds_toArray, List.set_cons_zero, List.set_cons_succ, i64_w, i32_w]
    rfl
  refine pure_ (i := 4) (N := some 8) (v := ?_) (a' := ?_) #[true, true, true, true, true, false, false, false] rfl rfl (by kernel_rfl) (fun _ _ _ h => h) (Or.inl ⟨by rfl, ?_⟩) ?_ ?_
  rotate_left
  · intro w'
    go_simp
    with_reducible rfl
  rotate_left
  · simp only [Act.put, List.setIfInBounds_toArray, List.set_cons_zero, List.set_cons_succ, i64_w, i32_w]
    rfl
  refine take_ (i := 5) (N := some 9) (v := ?_) (a' := ?_) #[true, true, true, true, true, true, false, false] rfl rfl (by kernel_rfl) (fun _ _ _ h => h) (Or.inl ⟨by rfl, ?_⟩) hHeld ?_ ?_
  rotate_left
  · rintro w' ⟨s0, s1, s2⟩
    go_simp
    with_reducible rfl
  rotate_left
  · simp only [Act.put, List.setIfInBounds_toArray, List.set_cons_zero, List.set_cons_succ, i64_w, i32_w]
    rfl
  refine pure_ (i := 6) (N := some 10) (v := ?_) (a' := ?_) #[true, true, true, true, true, true, true, false] rfl rfl (by kernel_rfl) (fun _ _ _ h => h) (Or.inl ⟨by rfl, ?_⟩) ?_ ?_
  rotate_left
  · intro w'
    go_simp
    with_reducible rfl
  rotate_left
  · simp only [Act.put, List.setIfInBounds_toArray, List.set_cons_zero, List.set_cons_succ, i64_w, i32_w]
    rfl
  refine pure_ (i := 7) (N := some 3) (v := ?_) (a' := ?_) #[true, true, true, true, true, true, true, true] rfl rfl (by kernel_rfl) (fun _ _ _ h => h) (Or.inl ⟨by rfl, ?_⟩) ?_ ?_
  rotate_left
  · intro w'
    go_simp
    with_reducible rfl
  rotate_left
  · simp only [Act.put, List.setIfInBounds_toArray, List.set_cons_zero, List.set_cons_succ, i64_w, i32_w]
    rfl
  refine done_ (by kernel_rfl) ?_
  go_wp2
  go_ret
  exact ⟨rfl, HB1.out.drew⟩
theorem timesF_drop {l : List R} {k : Nat} (h : k < l.length) : timesF (l.drop k) = if chkR l[k] ≠ 0 then chkR l[k] else timesF (l.drop (k + 1)) := by
  rw [List.drop_eq_getElem_cons h, timesF]
set_option maxRecDepth 100000 in
set_option maxHeartbeats 4000000 in
theorem times_c (A0 : Option Addr) (c0 : Nat) (l0 : List R) (w : World) (hr0 : Kd.C k26 w A0 l0.length l0) (hl : l0.length ≤ 1000000) :
    Calls Try.prog 65 #[.slice A0 l0.length c0] w fun e w' => e = .returned (.int .i64 (timesE l0)) ∧ Below w.heap.size w w' := by
  have hb0 := below_alloc (Below.refl w.heap.size w) (.cells #[.slice A0 l0.length c0] TS)
  have HR := Aside0.mk (Kd.C_below hr0 hb0)
  have HB := Aside0.mk hb0
  have HG := Aside0.mk (blk_new w (.cells #[.slice A0 l0.length c0] TS))
  have HLL := Aside0.mk hl
  clear hb0 hr0 hl
  go_enter Try.func65, Try.ntmps65
  go_upto_region 1 with (fail)
  have HZ : Aside0 ((w.alloc (.cells #[.slice A0 l0.length c0] TS)).heap.size = w.heap.size + 1) := ⟨by simp⟩
  generalize w.alloc (.cells #[.slice A0 l0.length c0] TS) = w1 at HR HB HG HZ ⊢
  obtain ⟨g, HGG⟩ : ∃ g, Aside0 (g = w.heap.size) := ⟨_, ⟨rfl⟩⟩
  rw [← HGG.out] at HG HB HZ ⊢
  have rb := blk_at (i := 0) HG.out rfl
  go_wp2
  clear rb
  go_loopg [8] (l0.length + 1) (fun kq v8 W' => ∃ k : Nat, v8 = .int .i64 k ∧ Aside0 (k ≤ l0.length ∧ k + kq = l0.length + 1) ∧ Aside0 (timesF (l0.drop k) = timesF l0) ∧ Aside0 (Below (g + 1) w1 W'))
  case atStart => exact ⟨0, rfl, ⟨⟨by omega, by omega⟩⟩, ⟨rfl⟩, ⟨Below.refl _ _⟩⟩
  case round =>
    obtain ⟨k, rfl, HK, HT, HW⟩ := hrel
    by_cases hlt : k < l0.length
    · have c1 : decide ((k : Int) < (l0.length : Int)) = true := decide_eq_true (by omega)
      obtain ⟨b, off, rfl, hb, hc⟩ := at_C HR.out (by omega)
      have hbg : b < g + 1 := by rw [← HZ.out]; exact hb
      obtain ⟨q0, q1, q2, q3, q4⟩ := hc k hlt
      have q0 := (HW.out.cell (p := ⟨b, off + k * 5, none⟩) hbg).trans q0
      have q1 := (HW.out.cell (p := ⟨b, off + k * 5 + 1, none⟩) hbg).trans q1
      have q2 := (HW.out.cell (p := ⟨b, off + k * 5 + 2, none⟩) hbg).trans q2
      have q3 := (HW.out.cell (p := ⟨b, off + k * 5 + 3, none⟩) hbg).trans q3
      have q4 := (HW.out.cell (p := ⟨b, off + k * 5 + 4, none⟩) hbg).trans q4
      have HD := Aside0.mk (timesF_drop hlt)
      have HC := Aside0.mk fun W => Ext.stamp_chk.calls l0[k].f0 l0[k].f1 l0[k].f2.f0 l0[k].f2.f1 l0[k].f2.f2 (chkR l0[k]) W rfl
      have HSZ := Aside0.mk HW.out.size
      clear hc hb hbg
      have HWR : Aside0 (wrap64 ((k : Int) + 1) = ((k + 1 : Nat) : Int)) := ⟨by have := HLL.out; unfold wrap64; omega⟩
      obtain ⟨z, hz⟩ : ∃ z, z = chkR l0[k] := ⟨_, rfl⟩
      rw [← hz] at HD HC
      clear hz
      by_cases hz0 : z = 0
      · subst hz0
        go_wp2_with (go_at_call 105; refine (HC.out _).mono ?_; rintro e w2 ⟨rfl, hb1⟩; have HB1 := Aside0.mk hb1; clear hb1)
        go_roundg (l0.length - k)
        case measure => have := HK.out; omega
        case rel => exact ⟨k + 1, by rw [HWR.out], ⟨by have := HK.out; omega⟩, ⟨by rw [← HT.out, HD.out]; rfl⟩, ⟨HW.out.trans (below_step (below_alloc (Below.refl _ _) _) HB1.out |>.mono (by rw [← HZ.out]; exact HSZ.out))⟩⟩
      · have c2 : (z != 0) = true := by simpa using hz0
        have HE : Aside0 (timesE l0 = z) := ⟨by
          have : timesF l0 = z := by rw [← HT.out, HD.out, if_pos hz0]
          unfold timesE
          rw [this, if_pos hz0]⟩
        clear hz0
        go_wp2_with (go_at_call 105; refine (HC.out _).mono ?_; rintro e w2 ⟨rfl, hb1⟩; have HB1 := Aside0.mk hb1; clear hb1)
        go_ret
        rw [HE.out]
        exact ⟨rfl, by rw [← HGG.out]; exact (HB.out.trans (HW.out.mono (by omega))).trans ((below_step (below_alloc (Below.refl _ _) _) HB1.out).mono (by have := HSZ.out; have := HZ.out; omega))⟩
    · have c1 : decide ((k : Int) < (l0.length : Int)) = false := decide_eq_false (by omega)
      have HT0 : Aside0 (timesF l0 = 0) := ⟨by rw [← HT.out, List.drop_eq_nil_of_le (by omega)]; rfl⟩
      have rb : wr.cell? ⟨g, 0, none⟩ = some (.slice A0 l0.length c0) := (HW.out.cell (p := ⟨g, 0, none⟩) (by show g < g + 1; omega)).trans (blk_at (i := 0) HG.out rfl)
      have HBW : Below w1.heap.size w1 wr := by rw [HZ.out]; exact HW.out
      have HC : Aside0 (Calls Try.prog fCF #[.slice A0 l0.length c0, .func (.func 106) #[] #[.pointer (some ⟨g, 0, none⟩)]] wr fun e w' => e = .returned (.bool (!sameDepth l0)) ∧ Below wr.heap.size wr w') := ⟨by
        by_cases h0 : l0.length = 0
        · obtain rfl := List.eq_nil_of_length_eq_zero h0
          exact contains_none A0 c0 _ wr
        · have hsd : (!sameDepth l0) = l0.any fun x => !(x.f1 == (l0.headD z26).f1) := by unfold sameDepth; rw [Bool.not_not]
          rw [hsd]
          obtain ⟨b, off, rfl, hb, hc⟩ := at_C (Kd.C_below HR.out HBW) (by omega)
          refine contains_c (fun x => !(x.f1 == (l0.headD z26).f1)) 106 #[.pointer (some ⟨g, 0, none⟩)] (enters_of Try.func106 (by kernel_rfl) rfl) (some ⟨b, off, none⟩) c0 l0 wr (Kd.C_below HR.out HBW) HLL.out (times1 l0 b off c0 g wr (by omega) ?_ hb (blk_below HG.out HBW))
          have := (hc 0 (by omega)).2.1
          rw [Nat.zero_mul, Nat.add_zero] at this
          exact this⟩
      have HE : Aside0 (timesE l0 = if sameDepth l0 then 0 else 10) := ⟨by
        unfold timesE
        rw [HT0.out]
        rfl⟩
      have HBB : Aside0 (Below w.heap.size w wr) := ⟨by rw [← HGG.out]; exact HB.out.trans (HW.out.mono (by omega))⟩
      clear HBW
      generalize hsd : sameDepth l0 = sd at HC HE
      clear hsd HT HT0 HK HW c1
      have c1 : decide (k < l0.length) = false := decide_eq_false hlt
      clear hlt
      cases sd with
      | true =>
        go_wp2_with (go_at_call 73; refine HC.out.mono ?_; rintro e w2 ⟨rfl, hb1⟩; have HB1 := Aside0.mk hb1; clear hb1)
        go_ret
        rw [HE.out]
        exact ⟨rfl, below_step HBB.out HB1.out⟩
      | false =>
        go_wp2_with (go_at_call 73; refine HC.out.mono ?_; rintro e w2 ⟨rfl, hb1⟩; have HB1 := Aside0.mk hb1; clear hb1)
        go_ret
        rw [HE.out]
        exact ⟨rfl, below_step HBB.out HB1.out⟩
end Go.Proofs.Ytljmamlceofcfaa.V06
