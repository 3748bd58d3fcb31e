import Derived.Test.YtjkbgcdhhiakmaaC02p
import Derived.Test.YtjkbgcdhhiakmaaC02s
import Derived.Test.YtjkbgcdhhiakmaaAr
/- stamp.Read, and the document's: the next time of a reader. -/
namespace Go.Proofs.Ytjkbgcdhhiakmaa.C02
set_option linter.unusedSimpArgs false
open Go.RowKit Go.Proofs.YtjkbgcdhhiakmaaW.PrintWords Go.Proofs.YtjkbgcdhhiakmaaW.PrintLast Go.Proofs.YtjkbgcdhhiakmaaW.PrintMore Go.Proofs.Ytjkbgcdhhiakmaa.Base Go.Proofs.Ytjkbgcdhhiakmaa.Ar Go.Proofs.Ytjkbgcdhhiakmaa.M02

theorem RD.upd {F : Nat → Prop} {w w' : World} {g : Nat} {l : List Int} {e : Int} (h : RD w g l e) (k : Upd F w w') (hn : ¬ F g) : RD w' g l e := by
  obtain ⟨s, hG, hs⟩ := h
  exact ⟨s, k.blk hG hn, hs⟩
theorem RD.below {w w' : World} {g : Nat} {l : List Int} {e : Int} (h : RD w g l e) (k : Below w.heap.size w w') : RD w' g l e := h.upd (Upd.of_below (F := fun _ => False) k) (fun x => x)
theorem RD.lt {w : World} {g : Nat} {l : List Int} {e : Int} (h : RD w g l e) : g < w.heap.size := by
  obtain ⟨s, hG, _⟩ := h
  exact blk_lt hG

theorem RD.range {w : World} {g : Nat} {l : List Int} {e : Int} (hR : RD w g l e) : ∀ b ∈ l, 0 ≤ b ∧ b ≤ 255 := by
  obtain ⟨s, _, rfl, _⟩ := hR
  exact bytes_range s
theorem rdInt_r {m : Int} {l : List Int} {e : Int} (hl : ∀ b ∈ l, 0 ≤ b ∧ b ≤ 255) : 0 ≤ (rdInt m l e).1 ∧ ((rdInt m l e).2.2 ≠ 0 → (rdInt m l e).1 = 0) ∧ ((rdInt m l e).2.2 = 0 → (rdInt m l e).1 ≤ m) ∧ ((rdInt m l e).1 = 0 ∨ (rdInt m l e).1 ≤ m) := by
  have := rdNum_range (e := e) hl
  by_cases h : (rdNum l e).2.2 = 0
  · by_cases h2 : m < 0 ∨ (rdNum l e).1 > m
    · rw [(rdInt_fail h2).1]; exact ⟨by simp, fun _ => rfl, fun h3 => absurd h3 (rdInt_fail h2).2, .inl rfl⟩
    · rw [rdInt_ok h h2]; exact ⟨this.1, this.2.2, fun _ => by omega, .inr (by omega)⟩
  · rw [rdInt_err h]; exact ⟨by simp, fun _ => rfl, fun h3 => absurd h3 h, .inl rfl⟩

theorem upd5 {F : Nat → Prop} {a w : World} {g : Nat} (h : Upd F a w) (hp : g < a.heap.size → F g) (u0 u1 u2 u3 u4 : Value) : Upd F a (((((w.setCell ⟨g, 0, none⟩ u0).setCell ⟨g, 1, none⟩ u1).setCell ⟨g, 2, none⟩ u2).setCell ⟨g, 3, none⟩ u3).setCell ⟨g, 4, none⟩ u4) :=
  ((((h.setCell (p := ⟨g, 0, none⟩) hp u0).setCell (p := ⟨g, 1, none⟩) hp u1).setCell (p := ⟨g, 2, none⟩) hp u2).setCell (p := ⟨g, 3, none⟩) hp u3).setCell (p := ⟨g, 4, none⟩) hp u4
/-- The next time that bytes tell, what is left, and what is wrong. -/
def rdTime (l : List Int) (e : Int) : (Int × Int × Int × Int × Int) × List Int × Int :=
  let x := rdInt 3 l e
  let y := rdInt 1048576 x.2.1 x.2.2
  let p := if 0 < x.1 then rdInt 1048576 y.2.1 y.2.2 else (0, y.2)
  let q := if 1 < x.1 then rdInt 1048576 p.2.1 p.2.2 else (0, p.2)
  let r := if 2 < x.1 then rdInt 1048576 q.2.1 q.2.2 else (0, q.2)
  (if r.2.2 ≠ 0 then (0, 0, 0, 0, 0) else (y.1, x.1, p.1, q.1, r.1), r.2)
def tv (x : Int × Int × Int × Int × Int) : Value := .agg #[.int .u32 x.1, .int .i64 x.2.1, .int .u32 x.2.2.1, .int .u32 x.2.2.2.1, .int .u32 x.2.2.2.2]
-- by stampread.py
set_option maxRecDepth 100000 in
set_option maxHeartbeats 8000000 in
theorem rd_Time (g : Nat) (l : List Int) (e : Int) (w : World) (hR : RD w g l e) :
    Calls Try.prog 17 #[.pointer (some ⟨g, 0, none⟩)] w fun en w' => en = .returned (tv (rdTime l e).1) ∧ RD w' g (rdTime l e).2.1 (rdTime l e).2.2 ∧ Upd (· = g) w w' := by
  have HR := Aside0.mk hR
  have HL := Aside0.mk hR.lt
  have hx := rdInt_r (m := 3) (e := e) hR.range
  obtain ⟨⟨D, l0, e0⟩, hI⟩ : ∃ x, x = rdInt 3 l e := ⟨_, rfl⟩
  have I0 := hI.symm
  rw [I0] at hx
  simp only at hx
  obtain ⟨⟨v1, l1, e1⟩, hI1⟩ : ∃ x, x = rdInt 1048576 l0 e0 := ⟨_, rfl⟩
  have I1 := hI1.symm
  obtain ⟨⟨v2, l2, e2⟩, hI2⟩ : ∃ x, x = rdInt 1048576 l1 e1 := ⟨_, rfl⟩
  have I2 := hI2.symm
  obtain ⟨⟨v3, l3, e3⟩, hI3⟩ : ∃ x, x = rdInt 1048576 l2 e2 := ⟨_, rfl⟩
  have I3 := hI3.symm
  obtain ⟨⟨v4, l4, e4⟩, hI4⟩ : ∃ x, x = rdInt 1048576 l3 e3 := ⟨_, rfl⟩
  have I4 := hI4.symm
  have I0 := Aside0.mk I0
  have I1 := Aside0.mk I1
  have I2 := Aside0.mk I2
  have I3 := Aside0.mk I3
  have I4 := Aside0.mk I4
  clear hR hI hI1 hI2 hI3 hI4
  have hD : D = 0 ∨ D = 1 ∨ D = 2 ∨ D = 3 := by omega
  clear hx
  rcases hD with rfl | rfl | rfl | rfl
  · by_cases ce : e1 = 0
    rotate_left
    · have ce0 : (e1 != 0) = true := bne_iff_ne.mpr ce
      have HX : Aside0 (rdTime l e = ((0, 0, 0, 0, 0), l1, e1)) := ⟨by unfold rdTime; simp [I0.out, I1.out, ce]⟩
      clear ce
      go_enter Try.func17, Try.ntmps17
      go_wp2_with fail
      refine (rd_Int 3 _ _ _ _ (HR.out.below (below_alloc (Below.refl _ _) _)) (by omega)).mono ?_
      rintro en w1 ⟨rfl, hR, hU⟩
      rw [I0.out] at hR ⊢
      have HGB := Aside0.mk (hU.blk (blk_new w (.cells #[.int .u32 0, .int .i64 0, .int .u32 0, .int .u32 0, .int .u32 0] 25)) (fun h => by have := HL.out; omega))
      have HU := Aside0.mk (((Upd.refl (· = g) w).alloc _).then_ hU)
      have HN : Aside0 (g < w1.heap.size ∧ w.heap.size < w1.heap.size ∧ g ≠ w.heap.size) := ⟨hR.lt, blk_lt HGB.out, by have := HL.out; omega⟩
      replace HR := Aside0.mk hR
      clear hR hU
      go_wp2_with fail
      have HG := Aside0.mk (blk_new w1 (.cells #[.int .u32 0, .int .i64 0, .int .u32 0, .int .u32 0, .int .u32 0] 25))
      replace HGB := Aside0.mk (Base.blk_alloc HGB.out (.cells #[.int .u32 0, .int .i64 0, .int .u32 0, .int .u32 0, .int .u32 0] 25))
      replace HU := Aside0.mk (HU.out.alloc (.cells #[.int .u32 0, .int .i64 0, .int .u32 0, .int .u32 0, .int .u32 0] 25))
      replace HR := Aside0.mk (HR.out.below (below_alloc (Below.refl _ _) (.cells #[.int .u32 0, .int .i64 0, .int .u32 0, .int .u32 0, .int .u32 0] 25)))
      obtain ⟨b, hb⟩ : ∃ b, b = w1.heap.size := ⟨_, rfl⟩
      rw [← hb] at HN HG ⊢
      generalize w1.alloc _ = W1 at HG HGB HU HR ⊢
      clear hb
      refine (rd_Int 1048576 _ _ _ _ HR.out (by omega)).mono ?_
      rintro en w2 ⟨rfl, hR, hU⟩
      have hr := rdInt_r (m := 1048576) (l := l0) (e := e0) HR.out.range
      rw [I1.out] at hr hR ⊢
      have u1 : IntKind.u32.wrap v1 = v1 := (IntKind.wrap_u32 _).trans (by simp only at hr; omega)
      replace HG := Aside0.mk (hU.blk HG.out (fun h => by have := HN.out; omega))
      replace HGB := Aside0.mk (hU.blk HGB.out (fun h => by have := HN.out; omega))
      replace HU := Aside0.mk (HU.out.then_ hU)
      replace HR := Aside0.mk hR
      clear hR hU hr
      have q0 := blk_at (i := 0) HG.out rfl
      have q1 := blk_at (i := 1) HG.out rfl
      have q2 := blk_at (i := 2) HG.out rfl
      have q3 := blk_at (i := 3) HG.out rfl
      have q4 := blk_at (i := 4) HG.out rfl
      have f0 := blk_frozen HG.out 0
      have f1 := blk_frozen HG.out 1
      have f2 := blk_frozen HG.out 2
      have f3 := blk_frozen HG.out 3
      have f4 := blk_frozen HG.out 4
      go_wp2_with fail
      clear q0 q1 q2 q3 q4 f0 f1 f2 f3 f4
      obtain ⟨W2, hW⟩ : ∃ W, W = w2.setCell ⟨b, 0, none⟩ (.int .u32 v1) := ⟨_, rfl⟩
      rw [← hW]
      replace HGB : Aside0 (W2.heap[w.heap.size]? = _) := ⟨hW ▸ blk_far HGB.out (p := ⟨b, 0, none⟩) (by have := HN.out; simp only; omega) _⟩
      replace HG : Aside0 (W2.heap[b]? = some (.cells #[.int .u32 v1, .int .i64 0, .int .u32 0, .int .u32 0, .int .u32 0] 25 (0, 0))) := ⟨hW ▸ blk_put HG.out 0 _ rfl⟩
      replace HU : Aside0 (Upd (· = g) w W2) := ⟨hW ▸ HU.out.setCell (p := ⟨b, 0, none⟩) (fun h => by have := HN.out; simp only at h; omega) _⟩
      replace HR : Aside0 (RD W2 g l1 e1) := ⟨hW ▸ HR.out.upd ((Upd.refl (· = b) _).setCell (p := ⟨b, 0, none⟩) (fun _ => rfl) _) (fun h => by have := HN.out; omega)⟩
      clear hW
      have q0 := blk_at (i := 0) HG.out rfl
      have q1 := blk_at (i := 1) HG.out rfl
      have q2 := blk_at (i := 2) HG.out rfl
      have q3 := blk_at (i := 3) HG.out rfl
      have q4 := blk_at (i := 4) HG.out rfl
      have f0 := blk_frozen HG.out 0
      have f1 := blk_frozen HG.out 1
      have f2 := blk_frozen HG.out 2
      have f3 := blk_frozen HG.out 3
      have f4 := blk_frozen HG.out 4
      refine wp_loop_rounds 1 ?_
      rw [rounds_succ]
      have z0 := blk_at (i := 0) HGB.out rfl
      have z1 := blk_at (i := 1) HGB.out rfl
      have z2 := blk_at (i := 2) HGB.out rfl
      have z3 := blk_at (i := 3) HGB.out rfl
      have z4 := blk_at (i := 4) HGB.out rfl
      have y0 := blk_frozen HGB.out 0
      have y1 := blk_frozen HGB.out 1
      have y2 := blk_frozen HGB.out 2
      have y3 := blk_frozen HGB.out 3
      have y4 := blk_frozen HGB.out 4
      go_wp2_with fail
      refine (rd_Err _ _ _ _ HR.out).mono ?_
      rintro en wz ⟨rfl, rfl⟩
      go_wp2_with fail
      rw [HX.out]
      exact bodyPost_ret (v := .agg #[.int .u32 0, .int .i64 0, .int .u32 0, .int .u32 0, .int .u32 0]) (by simp [results, Try.results17, go_sem, z0, z1, z2, z3, z4]) rfl ⟨rfl, HR.out.upd (F := (· = w.heap.size)) (upd5 (F := fun x => x = w.heap.size) (g := w.heap.size) (Upd.refl _ _) (fun _ => rfl) _ _ _ _ _) (fun h => by have := HN.out; omega), upd5 HU.out (fun h => absurd h (Nat.lt_irrefl _)) _ _ _ _ _⟩
    · have ce0 : (e1 != 0) = false := by rw [ce]; rfl
      have HX : Aside0 (rdTime l e = ((v1, 0, 0, 0, 0), l1, e1)) := ⟨by unfold rdTime; simp [I0.out, I1.out, ce]⟩
      have HCE := Aside0.mk ce
      clear ce
      go_enter Try.func17, Try.ntmps17
      go_wp2_with fail
      refine (rd_Int 3 _ _ _ _ (HR.out.below (below_alloc (Below.refl _ _) _)) (by omega)).mono ?_
      rintro en w1 ⟨rfl, hR, hU⟩
      rw [I0.out] at hR ⊢
      have HGB := Aside0.mk (hU.blk (blk_new w (.cells #[.int .u32 0, .int .i64 0, .int .u32 0, .int .u32 0, .int .u32 0] 25)) (fun h => by have := HL.out; omega))
      have HU := Aside0.mk (((Upd.refl (· = g) w).alloc _).then_ hU)
      have HN : Aside0 (g < w1.heap.size ∧ w.heap.size < w1.heap.size ∧ g ≠ w.heap.size) := ⟨hR.lt, blk_lt HGB.out, by have := HL.out; omega⟩
      replace HR := Aside0.mk hR
      clear hR hU
      go_wp2_with fail
      have HG := Aside0.mk (blk_new w1 (.cells #[.int .u32 0, .int .i64 0, .int .u32 0, .int .u32 0, .int .u32 0] 25))
      replace HGB := Aside0.mk (Base.blk_alloc HGB.out (.cells #[.int .u32 0, .int .i64 0, .int .u32 0, .int .u32 0, .int .u32 0] 25))
      replace HU := Aside0.mk (HU.out.alloc (.cells #[.int .u32 0, .int .i64 0, .int .u32 0, .int .u32 0, .int .u32 0] 25))
      replace HR := Aside0.mk (HR.out.below (below_alloc (Below.refl _ _) (.cells #[.int .u32 0, .int .i64 0, .int .u32 0, .int .u32 0, .int .u32 0] 25)))
      obtain ⟨b, hb⟩ : ∃ b, b = w1.heap.size := ⟨_, rfl⟩
      rw [← hb] at HN HG ⊢
      generalize w1.alloc _ = W1 at HG HGB HU HR ⊢
      clear hb
      refine (rd_Int 1048576 _ _ _ _ HR.out (by omega)).mono ?_
      rintro en w2 ⟨rfl, hR, hU⟩
      have hr := rdInt_r (m := 1048576) (l := l0) (e := e0) HR.out.range
      rw [I1.out] at hr hR ⊢
      have u1 : IntKind.u32.wrap v1 = v1 := (IntKind.wrap_u32 _).trans (by simp only at hr; omega)
      replace HG := Aside0.mk (hU.blk HG.out (fun h => by have := HN.out; omega))
      replace HGB := Aside0.mk (hU.blk HGB.out (fun h => by have := HN.out; omega))
      replace HU := Aside0.mk (HU.out.then_ hU)
      replace HR := Aside0.mk hR
      clear hR hU hr
      have q0 := blk_at (i := 0) HG.out rfl
      have q1 := blk_at (i := 1) HG.out rfl
      have q2 := blk_at (i := 2) HG.out rfl
      have q3 := blk_at (i := 3) HG.out rfl
      have q4 := blk_at (i := 4) HG.out rfl
      have f0 := blk_frozen HG.out 0
      have f1 := blk_frozen HG.out 1
      have f2 := blk_frozen HG.out 2
      have f3 := blk_frozen HG.out 3
      have f4 := blk_frozen HG.out 4
      go_wp2_with fail
      clear q0 q1 q2 q3 q4 f0 f1 f2 f3 f4
      obtain ⟨W2, hW⟩ : ∃ W, W = w2.setCell ⟨b, 0, none⟩ (.int .u32 v1) := ⟨_, rfl⟩
      rw [← hW]
      replace HGB : Aside0 (W2.heap[w.heap.size]? = _) := ⟨hW ▸ blk_far HGB.out (p := ⟨b, 0, none⟩) (by have := HN.out; simp only; omega) _⟩
      replace HG : Aside0 (W2.heap[b]? = some (.cells #[.int .u32 v1, .int .i64 0, .int .u32 0, .int .u32 0, .int .u32 0] 25 (0, 0))) := ⟨hW ▸ blk_put HG.out 0 _ rfl⟩
      replace HU : Aside0 (Upd (· = g) w W2) := ⟨hW ▸ HU.out.setCell (p := ⟨b, 0, none⟩) (fun h => by have := HN.out; simp only at h; omega) _⟩
      replace HR : Aside0 (RD W2 g l1 e1) := ⟨hW ▸ HR.out.upd ((Upd.refl (· = b) _).setCell (p := ⟨b, 0, none⟩) (fun _ => rfl) _) (fun h => by have := HN.out; omega)⟩
      clear hW
      have q0 := blk_at (i := 0) HG.out rfl
      have q1 := blk_at (i := 1) HG.out rfl
      have q2 := blk_at (i := 2) HG.out rfl
      have q3 := blk_at (i := 3) HG.out rfl
      have q4 := blk_at (i := 4) HG.out rfl
      have f0 := blk_frozen HG.out 0
      have f1 := blk_frozen HG.out 1
      have f2 := blk_frozen HG.out 2
      have f3 := blk_frozen HG.out 3
      have f4 := blk_frozen HG.out 4
      refine wp_loop_rounds 1 ?_
      rw [rounds_succ]
      have z0 := blk_at (i := 0) HGB.out rfl
      have z1 := blk_at (i := 1) HGB.out rfl
      have z2 := blk_at (i := 2) HGB.out rfl
      have z3 := blk_at (i := 3) HGB.out rfl
      have z4 := blk_at (i := 4) HGB.out rfl
      have y0 := blk_frozen HGB.out 0
      have y1 := blk_frozen HGB.out 1
      have y2 := blk_frozen HGB.out 2
      have y3 := blk_frozen HGB.out 3
      have y4 := blk_frozen HGB.out 4
      go_wp2_with fail
      refine (rd_Err _ _ _ _ HR.out).mono ?_
      rintro en wz ⟨rfl, rfl⟩
      go_wp2_with fail
      rw [HX.out]
      exact bodyPost_ret (v := .agg #[.int .u32 v1, .int .i64 0, .int .u32 0, .int .u32 0, .int .u32 0]) (by simp [results, Try.results17, go_sem, z0, z1, z2, z3, z4]) rfl ⟨rfl, HR.out.upd (F := (· = w.heap.size)) (upd5 (F := fun x => x = w.heap.size) (g := w.heap.size) (Upd.refl _ _) (fun _ => rfl) _ _ _ _ _) (fun h => by have := HN.out; omega), upd5 HU.out (fun h => absurd h (Nat.lt_irrefl _)) _ _ _ _ _⟩
  · by_cases ce : e2 = 0
    rotate_left
    · have ce0 : (e2 != 0) = true := bne_iff_ne.mpr ce
      have HX : Aside0 (rdTime l e = ((0, 0, 0, 0, 0), l2, e2)) := ⟨by unfold rdTime; simp [I0.out, I1.out, I2.out, ce]⟩
      clear ce
      go_enter Try.func17, Try.ntmps17
      go_wp2_with fail
      refine (rd_Int 3 _ _ _ _ (HR.out.below (below_alloc (Below.refl _ _) _)) (by omega)).mono ?_
      rintro en w1 ⟨rfl, hR, hU⟩
      rw [I0.out] at hR ⊢
      have HGB := Aside0.mk (hU.blk (blk_new w (.cells #[.int .u32 0, .int .i64 0, .int .u32 0, .int .u32 0, .int .u32 0] 25)) (fun h => by have := HL.out; omega))
      have HU := Aside0.mk (((Upd.refl (· = g) w).alloc _).then_ hU)
      have HN : Aside0 (g < w1.heap.size ∧ w.heap.size < w1.heap.size ∧ g ≠ w.heap.size) := ⟨hR.lt, blk_lt HGB.out, by have := HL.out; omega⟩
      replace HR := Aside0.mk hR
      clear hR hU
      go_wp2_with fail
      have HG := Aside0.mk (blk_new w1 (.cells #[.int .u32 0, .int .i64 1, .int .u32 0, .int .u32 0, .int .u32 0] 25))
      replace HGB := Aside0.mk (Base.blk_alloc HGB.out (.cells #[.int .u32 0, .int .i64 1, .int .u32 0, .int .u32 0, .int .u32 0] 25))
      replace HU := Aside0.mk (HU.out.alloc (.cells #[.int .u32 0, .int .i64 1, .int .u32 0, .int .u32 0, .int .u32 0] 25))
      replace HR := Aside0.mk (HR.out.below (below_alloc (Below.refl _ _) (.cells #[.int .u32 0, .int .i64 1, .int .u32 0, .int .u32 0, .int .u32 0] 25)))
      obtain ⟨b, hb⟩ : ∃ b, b = w1.heap.size := ⟨_, rfl⟩
      rw [← hb] at HN HG ⊢
      generalize w1.alloc _ = W1 at HG HGB HU HR ⊢
      clear hb
      refine (rd_Int 1048576 _ _ _ _ HR.out (by omega)).mono ?_
      rintro en w2 ⟨rfl, hR, hU⟩
      have hr := rdInt_r (m := 1048576) (l := l0) (e := e0) HR.out.range
      rw [I1.out] at hr hR ⊢
      have u1 : IntKind.u32.wrap v1 = v1 := (IntKind.wrap_u32 _).trans (by simp only at hr; omega)
      replace HG := Aside0.mk (hU.blk HG.out (fun h => by have := HN.out; omega))
      replace HGB := Aside0.mk (hU.blk HGB.out (fun h => by have := HN.out; omega))
      replace HU := Aside0.mk (HU.out.then_ hU)
      replace HR := Aside0.mk hR
      clear hR hU hr
      have q0 := blk_at (i := 0) HG.out rfl
      have q1 := blk_at (i := 1) HG.out rfl
      have q2 := blk_at (i := 2) HG.out rfl
      have q3 := blk_at (i := 3) HG.out rfl
      have q4 := blk_at (i := 4) HG.out rfl
      have f0 := blk_frozen HG.out 0
      have f1 := blk_frozen HG.out 1
      have f2 := blk_frozen HG.out 2
      have f3 := blk_frozen HG.out 3
      have f4 := blk_frozen HG.out 4
      go_wp2_with fail
      clear q0 q1 q2 q3 q4 f0 f1 f2 f3 f4
      obtain ⟨W2, hW⟩ : ∃ W, W = w2.setCell ⟨b, 0, none⟩ (.int .u32 v1) := ⟨_, rfl⟩
      rw [← hW]
      replace HGB : Aside0 (W2.heap[w.heap.size]? = _) := ⟨hW ▸ blk_far HGB.out (p := ⟨b, 0, none⟩) (by have := HN.out; simp only; omega) _⟩
      replace HG : Aside0 (W2.heap[b]? = some (.cells #[.int .u32 v1, .int .i64 1, .int .u32 0, .int .u32 0, .int .u32 0] 25 (0, 0))) := ⟨hW ▸ blk_put HG.out 0 _ rfl⟩
      replace HU : Aside0 (Upd (· = g) w W2) := ⟨hW ▸ HU.out.setCell (p := ⟨b, 0, none⟩) (fun h => by have := HN.out; simp only at h; omega) _⟩
      replace HR : Aside0 (RD W2 g l1 e1) := ⟨hW ▸ HR.out.upd ((Upd.refl (· = b) _).setCell (p := ⟨b, 0, none⟩) (fun _ => rfl) _) (fun h => by have := HN.out; omega)⟩
      clear hW
      have q0 := blk_at (i := 0) HG.out rfl
      have q1 := blk_at (i := 1) HG.out rfl
      have q2 := blk_at (i := 2) HG.out rfl
      have q3 := blk_at (i := 3) HG.out rfl
      have q4 := blk_at (i := 4) HG.out rfl
      have f0 := blk_frozen HG.out 0
      have f1 := blk_frozen HG.out 1
      have f2 := blk_frozen HG.out 2
      have f3 := blk_frozen HG.out 3
      have f4 := blk_frozen HG.out 4
      refine wp_loop_rounds 2 ?_
      rw [rounds_succ]
      go_wp2_with fail
      clear q0 q1 q2 q3 q4 f0 f1 f2 f3 f4
      refine (rd_Int 1048576 _ _ _ _ HR.out (by omega)).mono ?_
      rintro en w3 ⟨rfl, hR, hU⟩
      have hr := rdInt_r (m := 1048576) (l := l1) (e := e1) HR.out.range
      rw [I2.out] at hr hR ⊢
      have u2 : IntKind.u32.wrap v2 = v2 := (IntKind.wrap_u32 _).trans (by simp only at hr; omega)
      replace HG := Aside0.mk (hU.blk HG.out (fun h => by have := HN.out; omega))
      replace HGB := Aside0.mk (hU.blk HGB.out (fun h => by have := HN.out; omega))
      replace HU := Aside0.mk (HU.out.then_ hU)
      replace HR := Aside0.mk hR
      clear hR hU hr
      have q0 := blk_at (i := 0) HG.out rfl
      have q1 := blk_at (i := 1) HG.out rfl
      have q2 := blk_at (i := 2) HG.out rfl
      have q3 := blk_at (i := 3) HG.out rfl
      have q4 := blk_at (i := 4) HG.out rfl
      have f0 := blk_frozen HG.out 0
      have f1 := blk_frozen HG.out 1
      have f2 := blk_frozen HG.out 2
      have f3 := blk_frozen HG.out 3
      have f4 := blk_frozen HG.out 4
      go_wp2_with fail
      clear q0 q1 q2 q3 q4 f0 f1 f2 f3 f4
      obtain ⟨W3, hW⟩ : ∃ W, W = w3.setCell ⟨b, 2, none⟩ (.int .u32 v2) := ⟨_, rfl⟩
      rw [← hW]
      replace HGB : Aside0 (W3.heap[w.heap.size]? = _) := ⟨hW ▸ blk_far HGB.out (p := ⟨b, 2, none⟩) (by have := HN.out; simp only; omega) _⟩
      replace HG : Aside0 (W3.heap[b]? = some (.cells #[.int .u32 v1, .int .i64 1, .int .u32 v2, .int .u32 0, .int .u32 0] 25 (0, 0))) := ⟨hW ▸ blk_put HG.out 2 _ rfl⟩
      replace HU : Aside0 (Upd (· = g) w W3) := ⟨hW ▸ HU.out.setCell (p := ⟨b, 2, none⟩) (fun h => by have := HN.out; simp only at h; omega) _⟩
      replace HR : Aside0 (RD W3 g l2 e2) := ⟨hW ▸ HR.out.upd ((Upd.refl (· = b) _).setCell (p := ⟨b, 2, none⟩) (fun _ => rfl) _) (fun h => by have := HN.out; omega)⟩
      clear hW
      have q0 := blk_at (i := 0) HG.out rfl
      have q1 := blk_at (i := 1) HG.out rfl
      have q2 := blk_at (i := 2) HG.out rfl
      have q3 := blk_at (i := 3) HG.out rfl
      have q4 := blk_at (i := 4) HG.out rfl
      have f0 := blk_frozen HG.out 0
      have f1 := blk_frozen HG.out 1
      have f2 := blk_frozen HG.out 2
      have f3 := blk_frozen HG.out 3
      have f4 := blk_frozen HG.out 4
      rw [rounds_succ]
      have z0 := blk_at (i := 0) HGB.out rfl
      have z1 := blk_at (i := 1) HGB.out rfl
      have z2 := blk_at (i := 2) HGB.out rfl
      have z3 := blk_at (i := 3) HGB.out rfl
      have z4 := blk_at (i := 4) HGB.out rfl
      have y0 := blk_frozen HGB.out 0
      have y1 := blk_frozen HGB.out 1
      have y2 := blk_frozen HGB.out 2
      have y3 := blk_frozen HGB.out 3
      have y4 := blk_frozen HGB.out 4
      go_wp2_with fail
      refine (rd_Err _ _ _ _ HR.out).mono ?_
      rintro en wz ⟨rfl, rfl⟩
      go_wp2_with fail
      rw [HX.out]
      exact bodyPost_ret (v := .agg #[.int .u32 0, .int .i64 0, .int .u32 0, .int .u32 0, .int .u32 0]) (by simp [results, Try.results17, go_sem, z0, z1, z2, z3, z4]) rfl ⟨rfl, HR.out.upd (F := (· = w.heap.size)) (upd5 (F := fun x => x = w.heap.size) (g := w.heap.size) (Upd.refl _ _) (fun _ => rfl) _ _ _ _ _) (fun h => by have := HN.out; omega), upd5 HU.out (fun h => absurd h (Nat.lt_irrefl _)) _ _ _ _ _⟩
    · have ce0 : (e2 != 0) = false := by rw [ce]; rfl
      have HX : Aside0 (rdTime l e = ((v1, 1, v2, 0, 0), l2, e2)) := ⟨by unfold rdTime; simp [I0.out, I1.out, I2.out, ce]⟩
      have HCE := Aside0.mk ce
      clear ce
      go_enter Try.func17, Try.ntmps17
      go_wp2_with fail
      refine (rd_Int 3 _ _ _ _ (HR.out.below (below_alloc (Below.refl _ _) _)) (by omega)).mono ?_
      rintro en w1 ⟨rfl, hR, hU⟩
      rw [I0.out] at hR ⊢
      have HGB := Aside0.mk (hU.blk (blk_new w (.cells #[.int .u32 0, .int .i64 0, .int .u32 0, .int .u32 0, .int .u32 0] 25)) (fun h => by have := HL.out; omega))
      have HU := Aside0.mk (((Upd.refl (· = g) w).alloc _).then_ hU)
      have HN : Aside0 (g < w1.heap.size ∧ w.heap.size < w1.heap.size ∧ g ≠ w.heap.size) := ⟨hR.lt, blk_lt HGB.out, by have := HL.out; omega⟩
      replace HR := Aside0.mk hR
      clear hR hU
      go_wp2_with fail
      have HG := Aside0.mk (blk_new w1 (.cells #[.int .u32 0, .int .i64 1, .int .u32 0, .int .u32 0, .int .u32 0] 25))
      replace HGB := Aside0.mk (Base.blk_alloc HGB.out (.cells #[.int .u32 0, .int .i64 1, .int .u32 0, .int .u32 0, .int .u32 0] 25))
      replace HU := Aside0.mk (HU.out.alloc (.cells #[.int .u32 0, .int .i64 1, .int .u32 0, .int .u32 0, .int .u32 0] 25))
      replace HR := Aside0.mk (HR.out.below (below_alloc (Below.refl _ _) (.cells #[.int .u32 0, .int .i64 1, .int .u32 0, .int .u32 0, .int .u32 0] 25)))
      obtain ⟨b, hb⟩ : ∃ b, b = w1.heap.size := ⟨_, rfl⟩
      rw [← hb] at HN HG ⊢
      generalize w1.alloc _ = W1 at HG HGB HU HR ⊢
      clear hb
      refine (rd_Int 1048576 _ _ _ _ HR.out (by omega)).mono ?_
      rintro en w2 ⟨rfl, hR, hU⟩
      have hr := rdInt_r (m := 1048576) (l := l0) (e := e0) HR.out.range
      rw [I1.out] at hr hR ⊢
      have u1 : IntKind.u32.wrap v1 = v1 := (IntKind.wrap_u32 _).trans (by simp only at hr; omega)
      replace HG := Aside0.mk (hU.blk HG.out (fun h => by have := HN.out; omega))
      replace HGB := Aside0.mk (hU.blk HGB.out (fun h => by have := HN.out; omega))
      replace HU := Aside0.mk (HU.out.then_ hU)
      replace HR := Aside0.mk hR
      clear hR hU hr
      have q0 := blk_at (i := 0) HG.out rfl
      have q1 := blk_at (i := 1) HG.out rfl
      have q2 := blk_at (i := 2) HG.out rfl
      have q3 := blk_at (i := 3) HG.out rfl
      have q4 := blk_at (i := 4) HG.out rfl
      have f0 := blk_frozen HG.out 0
      have f1 := blk_frozen HG.out 1
      have f2 := blk_frozen HG.out 2
      have f3 := blk_frozen HG.out 3
      have f4 := blk_frozen HG.out 4
      go_wp2_with fail
      clear q0 q1 q2 q3 q4 f0 f1 f2 f3 f4
      obtain ⟨W2, hW⟩ : ∃ W, W = w2.setCell ⟨b, 0, none⟩ (.int .u32 v1) := ⟨_, rfl⟩
      rw [← hW]
      replace HGB : Aside0 (W2.heap[w.heap.size]? = _) := ⟨hW ▸ blk_far HGB.out (p := ⟨b, 0, none⟩) (by have := HN.out; simp only; omega) _⟩
      replace HG : Aside0 (W2.heap[b]? = some (.cells #[.int .u32 v1, .int .i64 1, .int .u32 0, .int .u32 0, .int .u32 0] 25 (0, 0))) := ⟨hW ▸ blk_put HG.out 0 _ rfl⟩
      replace HU : Aside0 (Upd (· = g) w W2) := ⟨hW ▸ HU.out.setCell (p := ⟨b, 0, none⟩) (fun h => by have := HN.out; simp only at h; omega) _⟩
      replace HR : Aside0 (RD W2 g l1 e1) := ⟨hW ▸ HR.out.upd ((Upd.refl (· = b) _).setCell (p := ⟨b, 0, none⟩) (fun _ => rfl) _) (fun h => by have := HN.out; omega)⟩
      clear hW
      have q0 := blk_at (i := 0) HG.out rfl
      have q1 := blk_at (i := 1) HG.out rfl
      have q2 := blk_at (i := 2) HG.out rfl
      have q3 := blk_at (i := 3) HG.out rfl
      have q4 := blk_at (i := 4) HG.out rfl
      have f0 := blk_frozen HG.out 0
      have f1 := blk_frozen HG.out 1
      have f2 := blk_frozen HG.out 2
      have f3 := blk_frozen HG.out 3
      have f4 := blk_frozen HG.out 4
      refine wp_loop_rounds 2 ?_
      rw [rounds_succ]
      go_wp2_with fail
      clear q0 q1 q2 q3 q4 f0 f1 f2 f3 f4
      refine (rd_Int 1048576 _ _ _ _ HR.out (by omega)).mono ?_
      rintro en w3 ⟨rfl, hR, hU⟩
      have hr := rdInt_r (m := 1048576) (l := l1) (e := e1) HR.out.range
      rw [I2.out] at hr hR ⊢
      have u2 : IntKind.u32.wrap v2 = v2 := (IntKind.wrap_u32 _).trans (by simp only at hr; omega)
      replace HG := Aside0.mk (hU.blk HG.out (fun h => by have := HN.out; omega))
      replace HGB := Aside0.mk (hU.blk HGB.out (fun h => by have := HN.out; omega))
      replace HU := Aside0.mk (HU.out.then_ hU)
      replace HR := Aside0.mk hR
      clear hR hU hr
      have q0 := blk_at (i := 0) HG.out rfl
      have q1 := blk_at (i := 1) HG.out rfl
      have q2 := blk_at (i := 2) HG.out rfl
      have q3 := blk_at (i := 3) HG.out rfl
      have q4 := blk_at (i := 4) HG.out rfl
      have f0 := blk_frozen HG.out 0
      have f1 := blk_frozen HG.out 1
      have f2 := blk_frozen HG.out 2
      have f3 := blk_frozen HG.out 3
      have f4 := blk_frozen HG.out 4
      go_wp2_with fail
      clear q0 q1 q2 q3 q4 f0 f1 f2 f3 f4
      obtain ⟨W3, hW⟩ : ∃ W, W = w3.setCell ⟨b, 2, none⟩ (.int .u32 v2) := ⟨_, rfl⟩
      rw [← hW]
      replace HGB : Aside0 (W3.heap[w.heap.size]? = _) := ⟨hW ▸ blk_far HGB.out (p := ⟨b, 2, none⟩) (by have := HN.out; simp only; omega) _⟩
      replace HG : Aside0 (W3.heap[b]? = some (.cells #[.int .u32 v1, .int .i64 1, .int .u32 v2, .int .u32 0, .int .u32 0] 25 (0, 0))) := ⟨hW ▸ blk_put HG.out 2 _ rfl⟩
      replace HU : Aside0 (Upd (· = g) w W3) := ⟨hW ▸ HU.out.setCell (p := ⟨b, 2, none⟩) (fun h => by have := HN.out; simp only at h; omega) _⟩
      replace HR : Aside0 (RD W3 g l2 e2) := ⟨hW ▸ HR.out.upd ((Upd.refl (· = b) _).setCell (p := ⟨b, 2, none⟩) (fun _ => rfl) _) (fun h => by have := HN.out; omega)⟩
      clear hW
      have q0 := blk_at (i := 0) HG.out rfl
      have q1 := blk_at (i := 1) HG.out rfl
      have q2 := blk_at (i := 2) HG.out rfl
      have q3 := blk_at (i := 3) HG.out rfl
      have q4 := blk_at (i := 4) HG.out rfl
      have f0 := blk_frozen HG.out 0
      have f1 := blk_frozen HG.out 1
      have f2 := blk_frozen HG.out 2
      have f3 := blk_frozen HG.out 3
      have f4 := blk_frozen HG.out 4
      rw [rounds_succ]
      have z0 := blk_at (i := 0) HGB.out rfl
      have z1 := blk_at (i := 1) HGB.out rfl
      have z2 := blk_at (i := 2) HGB.out rfl
      have z3 := blk_at (i := 3) HGB.out rfl
      have z4 := blk_at (i := 4) HGB.out rfl
      have y0 := blk_frozen HGB.out 0
      have y1 := blk_frozen HGB.out 1
      have y2 := blk_frozen HGB.out 2
      have y3 := blk_frozen HGB.out 3
      have y4 := blk_frozen HGB.out 4
      go_wp2_with fail
      refine (rd_Err _ _ _ _ HR.out).mono ?_
      rintro en wz ⟨rfl, rfl⟩
      go_wp2_with fail
      rw [HX.out]
      exact bodyPost_ret (v := .agg #[.int .u32 v1, .int .i64 1, .int .u32 v2, .int .u32 0, .int .u32 0]) (by simp [results, Try.results17, go_sem, z0, z1, z2, z3, z4]) rfl ⟨rfl, HR.out.upd (F := (· = w.heap.size)) (upd5 (F := fun x => x = w.heap.size) (g := w.heap.size) (Upd.refl _ _) (fun _ => rfl) _ _ _ _ _) (fun h => by have := HN.out; omega), upd5 HU.out (fun h => absurd h (Nat.lt_irrefl _)) _ _ _ _ _⟩
  · by_cases ce : e3 = 0
    rotate_left
    · have ce0 : (e3 != 0) = true := bne_iff_ne.mpr ce
      have HX : Aside0 (rdTime l e = ((0, 0, 0, 0, 0), l3, e3)) := ⟨by unfold rdTime; simp [I0.out, I1.out, I2.out, I3.out, ce]⟩
      clear ce
      go_enter Try.func17, Try.ntmps17
      go_wp2_with fail
      refine (rd_Int 3 _ _ _ _ (HR.out.below (below_alloc (Below.refl _ _) _)) (by omega)).mono ?_
      rintro en w1 ⟨rfl, hR, hU⟩
      rw [I0.out] at hR ⊢
      have HGB := Aside0.mk (hU.blk (blk_new w (.cells #[.int .u32 0, .int .i64 0, .int .u32 0, .int .u32 0, .int .u32 0] 25)) (fun h => by have := HL.out; omega))
      have HU := Aside0.mk (((Upd.refl (· = g) w).alloc _).then_ hU)
      have HN : Aside0 (g < w1.heap.size ∧ w.heap.size < w1.heap.size ∧ g ≠ w.heap.size) := ⟨hR.lt, blk_lt HGB.out, by have := HL.out; omega⟩
      replace HR := Aside0.mk hR
      clear hR hU
      go_wp2_with fail
      have HG := Aside0.mk (blk_new w1 (.cells #[.int .u32 0, .int .i64 2, .int .u32 0, .int .u32 0, .int .u32 0] 25))
      replace HGB := Aside0.mk (Base.blk_alloc HGB.out (.cells #[.int .u32 0, .int .i64 2, .int .u32 0, .int .u32 0, .int .u32 0] 25))
      replace HU := Aside0.mk (HU.out.alloc (.cells #[.int .u32 0, .int .i64 2, .int .u32 0, .int .u32 0, .int .u32 0] 25))
      replace HR := Aside0.mk (HR.out.below (below_alloc (Below.refl _ _) (.cells #[.int .u32 0, .int .i64 2, .int .u32 0, .int .u32 0, .int .u32 0] 25)))
      obtain ⟨b, hb⟩ : ∃ b, b = w1.heap.size := ⟨_, rfl⟩
      rw [← hb] at HN HG ⊢
      generalize w1.alloc _ = W1 at HG HGB HU HR ⊢
      clear hb
      refine (rd_Int 1048576 _ _ _ _ HR.out (by omega)).mono ?_
      rintro en w2 ⟨rfl, hR, hU⟩
      have hr := rdInt_r (m := 1048576) (l := l0) (e := e0) HR.out.range
      rw [I1.out] at hr hR ⊢
      have u1 : IntKind.u32.wrap v1 = v1 := (IntKind.wrap_u32 _).trans (by simp only at hr; omega)
      replace HG := Aside0.mk (hU.blk HG.out (fun h => by have := HN.out; omega))
      replace HGB := Aside0.mk (hU.blk HGB.out (fun h => by have := HN.out; omega))
      replace HU := Aside0.mk (HU.out.then_ hU)
      replace HR := Aside0.mk hR
      clear hR hU hr
      have q0 := blk_at (i := 0) HG.out rfl
      have q1 := blk_at (i := 1) HG.out rfl
      have q2 := blk_at (i := 2) HG.out rfl
      have q3 := blk_at (i := 3) HG.out rfl
      have q4 := blk_at (i := 4) HG.out rfl
      have f0 := blk_frozen HG.out 0
      have f1 := blk_frozen HG.out 1
      have f2 := blk_frozen HG.out 2
      have f3 := blk_frozen HG.out 3
      have f4 := blk_frozen HG.out 4
      go_wp2_with fail
      clear q0 q1 q2 q3 q4 f0 f1 f2 f3 f4
      obtain ⟨W2, hW⟩ : ∃ W, W = w2.setCell ⟨b, 0, none⟩ (.int .u32 v1) := ⟨_, rfl⟩
      rw [← hW]
      replace HGB : Aside0 (W2.heap[w.heap.size]? = _) := ⟨hW ▸ blk_far HGB.out (p := ⟨b, 0, none⟩) (by have := HN.out; simp only; omega) _⟩
      replace HG : Aside0 (W2.heap[b]? = some (.cells #[.int .u32 v1, .int .i64 2, .int .u32 0, .int .u32 0, .int .u32 0] 25 (0, 0))) := ⟨hW ▸ blk_put HG.out 0 _ rfl⟩
      replace HU : Aside0 (Upd (· = g) w W2) := ⟨hW ▸ HU.out.setCell (p := ⟨b, 0, none⟩) (fun h => by have := HN.out; simp only at h; omega) _⟩
      replace HR : Aside0 (RD W2 g l1 e1) := ⟨hW ▸ HR.out.upd ((Upd.refl (· = b) _).setCell (p := ⟨b, 0, none⟩) (fun _ => rfl) _) (fun h => by have := HN.out; omega)⟩
      clear hW
      have q0 := blk_at (i := 0) HG.out rfl
      have q1 := blk_at (i := 1) HG.out rfl
      have q2 := blk_at (i := 2) HG.out rfl
      have q3 := blk_at (i := 3) HG.out rfl
      have q4 := blk_at (i := 4) HG.out rfl
      have f0 := blk_frozen HG.out 0
      have f1 := blk_frozen HG.out 1
      have f2 := blk_frozen HG.out 2
      have f3 := blk_frozen HG.out 3
      have f4 := blk_frozen HG.out 4
      refine wp_loop_rounds 3 ?_
      rw [rounds_succ]
      go_wp2_with fail
      clear q0 q1 q2 q3 q4 f0 f1 f2 f3 f4
      refine (rd_Int 1048576 _ _ _ _ HR.out (by omega)).mono ?_
      rintro en w3 ⟨rfl, hR, hU⟩
      have hr := rdInt_r (m := 1048576) (l := l1) (e := e1) HR.out.range
      rw [I2.out] at hr hR ⊢
      have u2 : IntKind.u32.wrap v2 = v2 := (IntKind.wrap_u32 _).trans (by simp only at hr; omega)
      replace HG := Aside0.mk (hU.blk HG.out (fun h => by have := HN.out; omega))
      replace HGB := Aside0.mk (hU.blk HGB.out (fun h => by have := HN.out; omega))
      replace HU := Aside0.mk (HU.out.then_ hU)
      replace HR := Aside0.mk hR
      clear hR hU hr
      have q0 := blk_at (i := 0) HG.out rfl
      have q1 := blk_at (i := 1) HG.out rfl
      have q2 := blk_at (i := 2) HG.out rfl
      have q3 := blk_at (i := 3) HG.out rfl
      have q4 := blk_at (i := 4) HG.out rfl
      have f0 := blk_frozen HG.out 0
      have f1 := blk_frozen HG.out 1
      have f2 := blk_frozen HG.out 2
      have f3 := blk_frozen HG.out 3
      have f4 := blk_frozen HG.out 4
      go_wp2_with fail
      clear q0 q1 q2 q3 q4 f0 f1 f2 f3 f4
      obtain ⟨W3, hW⟩ : ∃ W, W = w3.setCell ⟨b, 2, none⟩ (.int .u32 v2) := ⟨_, rfl⟩
      rw [← hW]
      replace HGB : Aside0 (W3.heap[w.heap.size]? = _) := ⟨hW ▸ blk_far HGB.out (p := ⟨b, 2, none⟩) (by have := HN.out; simp only; omega) _⟩
      replace HG : Aside0 (W3.heap[b]? = some (.cells #[.int .u32 v1, .int .i64 2, .int .u32 v2, .int .u32 0, .int .u32 0] 25 (0, 0))) := ⟨hW ▸ blk_put HG.out 2 _ rfl⟩
      replace HU : Aside0 (Upd (· = g) w W3) := ⟨hW ▸ HU.out.setCell (p := ⟨b, 2, none⟩) (fun h => by have := HN.out; simp only at h; omega) _⟩
      replace HR : Aside0 (RD W3 g l2 e2) := ⟨hW ▸ HR.out.upd ((Upd.refl (· = b) _).setCell (p := ⟨b, 2, none⟩) (fun _ => rfl) _) (fun h => by have := HN.out; omega)⟩
      clear hW
      have q0 := blk_at (i := 0) HG.out rfl
      have q1 := blk_at (i := 1) HG.out rfl
      have q2 := blk_at (i := 2) HG.out rfl
      have q3 := blk_at (i := 3) HG.out rfl
      have q4 := blk_at (i := 4) HG.out rfl
      have f0 := blk_frozen HG.out 0
      have f1 := blk_frozen HG.out 1
      have f2 := blk_frozen HG.out 2
      have f3 := blk_frozen HG.out 3
      have f4 := blk_frozen HG.out 4
      rw [rounds_succ]
      go_wp2_with fail
      clear q0 q1 q2 q3 q4 f0 f1 f2 f3 f4
      refine (rd_Int 1048576 _ _ _ _ HR.out (by omega)).mono ?_
      rintro en w4 ⟨rfl, hR, hU⟩
      have hr := rdInt_r (m := 1048576) (l := l2) (e := e2) HR.out.range
      rw [I3.out] at hr hR ⊢
      have u3 : IntKind.u32.wrap v3 = v3 := (IntKind.wrap_u32 _).trans (by simp only at hr; omega)
      replace HG := Aside0.mk (hU.blk HG.out (fun h => by have := HN.out; omega))
      replace HGB := Aside0.mk (hU.blk HGB.out (fun h => by have := HN.out; omega))
      replace HU := Aside0.mk (HU.out.then_ hU)
      replace HR := Aside0.mk hR
      clear hR hU hr
      have q0 := blk_at (i := 0) HG.out rfl
      have q1 := blk_at (i := 1) HG.out rfl
      have q2 := blk_at (i := 2) HG.out rfl
      have q3 := blk_at (i := 3) HG.out rfl
      have q4 := blk_at (i := 4) HG.out rfl
      have f0 := blk_frozen HG.out 0
      have f1 := blk_frozen HG.out 1
      have f2 := blk_frozen HG.out 2
      have f3 := blk_frozen HG.out 3
      have f4 := blk_frozen HG.out 4
      go_wp2_with fail
      clear q0 q1 q2 q3 q4 f0 f1 f2 f3 f4
      obtain ⟨W4, hW⟩ : ∃ W, W = w4.setCell ⟨b, 3, none⟩ (.int .u32 v3) := ⟨_, rfl⟩
      rw [← hW]
      replace HGB : Aside0 (W4.heap[w.heap.size]? = _) := ⟨hW ▸ blk_far HGB.out (p := ⟨b, 3, none⟩) (by have := HN.out; simp only; omega) _⟩
      replace HG : Aside0 (W4.heap[b]? = some (.cells #[.int .u32 v1, .int .i64 2, .int .u32 v2, .int .u32 v3, .int .u32 0] 25 (0, 0))) := ⟨hW ▸ blk_put HG.out 3 _ rfl⟩
      replace HU : Aside0 (Upd (· = g) w W4) := ⟨hW ▸ HU.out.setCell (p := ⟨b, 3, none⟩) (fun h => by have := HN.out; simp only at h; omega) _⟩
      replace HR : Aside0 (RD W4 g l3 e3) := ⟨hW ▸ HR.out.upd ((Upd.refl (· = b) _).setCell (p := ⟨b, 3, none⟩) (fun _ => rfl) _) (fun h => by have := HN.out; omega)⟩
      clear hW
      have q0 := blk_at (i := 0) HG.out rfl
      have q1 := blk_at (i := 1) HG.out rfl
      have q2 := blk_at (i := 2) HG.out rfl
      have q3 := blk_at (i := 3) HG.out rfl
      have q4 := blk_at (i := 4) HG.out rfl
      have f0 := blk_frozen HG.out 0
      have f1 := blk_frozen HG.out 1
      have f2 := blk_frozen HG.out 2
      have f3 := blk_frozen HG.out 3
      have f4 := blk_frozen HG.out 4
      rw [rounds_succ]
      have z0 := blk_at (i := 0) HGB.out rfl
      have z1 := blk_at (i := 1) HGB.out rfl
      have z2 := blk_at (i := 2) HGB.out rfl
      have z3 := blk_at (i := 3) HGB.out rfl
      have z4 := blk_at (i := 4) HGB.out rfl
      have y0 := blk_frozen HGB.out 0
      have y1 := blk_frozen HGB.out 1
      have y2 := blk_frozen HGB.out 2
      have y3 := blk_frozen HGB.out 3
      have y4 := blk_frozen HGB.out 4
      go_wp2_with fail
      refine (rd_Err _ _ _ _ HR.out).mono ?_
      rintro en wz ⟨rfl, rfl⟩
      go_wp2_with fail
      rw [HX.out]
      exact bodyPost_ret (v := .agg #[.int .u32 0, .int .i64 0, .int .u32 0, .int .u32 0, .int .u32 0]) (by simp [results, Try.results17, go_sem, z0, z1, z2, z3, z4]) rfl ⟨rfl, HR.out.upd (F := (· = w.heap.size)) (upd5 (F := fun x => x = w.heap.size) (g := w.heap.size) (Upd.refl _ _) (fun _ => rfl) _ _ _ _ _) (fun h => by have := HN.out; omega), upd5 HU.out (fun h => absurd h (Nat.lt_irrefl _)) _ _ _ _ _⟩
    · have ce0 : (e3 != 0) = false := by rw [ce]; rfl
      have HX : Aside0 (rdTime l e = ((v1, 2, v2, v3, 0), l3, e3)) := ⟨by unfold rdTime; simp [I0.out, I1.out, I2.out, I3.out, ce]⟩
      have HCE := Aside0.mk ce
      clear ce
      go_enter Try.func17, Try.ntmps17
      go_wp2_with fail
      refine (rd_Int 3 _ _ _ _ (HR.out.below (below_alloc (Below.refl _ _) _)) (by omega)).mono ?_
      rintro en w1 ⟨rfl, hR, hU⟩
      rw [I0.out] at hR ⊢
      have HGB := Aside0.mk (hU.blk (blk_new w (.cells #[.int .u32 0, .int .i64 0, .int .u32 0, .int .u32 0, .int .u32 0] 25)) (fun h => by have := HL.out; omega))
      have HU := Aside0.mk (((Upd.refl (· = g) w).alloc _).then_ hU)
      have HN : Aside0 (g < w1.heap.size ∧ w.heap.size < w1.heap.size ∧ g ≠ w.heap.size) := ⟨hR.lt, blk_lt HGB.out, by have := HL.out; omega⟩
      replace HR := Aside0.mk hR
      clear hR hU
      go_wp2_with fail
      have HG := Aside0.mk (blk_new w1 (.cells #[.int .u32 0, .int .i64 2, .int .u32 0, .int .u32 0, .int .u32 0] 25))
      replace HGB := Aside0.mk (Base.blk_alloc HGB.out (.cells #[.int .u32 0, .int .i64 2, .int .u32 0, .int .u32 0, .int .u32 0] 25))
      replace HU := Aside0.mk (HU.out.alloc (.cells #[.int .u32 0, .int .i64 2, .int .u32 0, .int .u32 0, .int .u32 0] 25))
      replace HR := Aside0.mk (HR.out.below (below_alloc (Below.refl _ _) (.cells #[.int .u32 0, .int .i64 2, .int .u32 0, .int .u32 0, .int .u32 0] 25)))
      obtain ⟨b, hb⟩ : ∃ b, b = w1.heap.size := ⟨_, rfl⟩
      rw [← hb] at HN HG ⊢
      generalize w1.alloc _ = W1 at HG HGB HU HR ⊢
      clear hb
      refine (rd_Int 1048576 _ _ _ _ HR.out (by omega)).mono ?_
      rintro en w2 ⟨rfl, hR, hU⟩
      have hr := rdInt_r (m := 1048576) (l := l0) (e := e0) HR.out.range
      rw [I1.out] at hr hR ⊢
      have u1 : IntKind.u32.wrap v1 = v1 := (IntKind.wrap_u32 _).trans (by simp only at hr; omega)
      replace HG := Aside0.mk (hU.blk HG.out (fun h => by have := HN.out; omega))
      replace HGB := Aside0.mk (hU.blk HGB.out (fun h => by have := HN.out; omega))
      replace HU := Aside0.mk (HU.out.then_ hU)
      replace HR := Aside0.mk hR
      clear hR hU hr
      have q0 := blk_at (i := 0) HG.out rfl
      have q1 := blk_at (i := 1) HG.out rfl
      have q2 := blk_at (i := 2) HG.out rfl
      have q3 := blk_at (i := 3) HG.out rfl
      have q4 := blk_at (i := 4) HG.out rfl
      have f0 := blk_frozen HG.out 0
      have f1 := blk_frozen HG.out 1
      have f2 := blk_frozen HG.out 2
      have f3 := blk_frozen HG.out 3
      have f4 := blk_frozen HG.out 4
      go_wp2_with fail
      clear q0 q1 q2 q3 q4 f0 f1 f2 f3 f4
      obtain ⟨W2, hW⟩ : ∃ W, W = w2.setCell ⟨b, 0, none⟩ (.int .u32 v1) := ⟨_, rfl⟩
      rw [← hW]
      replace HGB : Aside0 (W2.heap[w.heap.size]? = _) := ⟨hW ▸ blk_far HGB.out (p := ⟨b, 0, none⟩) (by have := HN.out; simp only; omega) _⟩
      replace HG : Aside0 (W2.heap[b]? = some (.cells #[.int .u32 v1, .int .i64 2, .int .u32 0, .int .u32 0, .int .u32 0] 25 (0, 0))) := ⟨hW ▸ blk_put HG.out 0 _ rfl⟩
      replace HU : Aside0 (Upd (· = g) w W2) := ⟨hW ▸ HU.out.setCell (p := ⟨b, 0, none⟩) (fun h => by have := HN.out; simp only at h; omega) _⟩
      replace HR : Aside0 (RD W2 g l1 e1) := ⟨hW ▸ HR.out.upd ((Upd.refl (· = b) _).setCell (p := ⟨b, 0, none⟩) (fun _ => rfl) _) (fun h => by have := HN.out; omega)⟩
      clear hW
      have q0 := blk_at (i := 0) HG.out rfl
      have q1 := blk_at (i := 1) HG.out rfl
      have q2 := blk_at (i := 2) HG.out rfl
      have q3 := blk_at (i := 3) HG.out rfl
      have q4 := blk_at (i := 4) HG.out rfl
      have f0 := blk_frozen HG.out 0
      have f1 := blk_frozen HG.out 1
      have f2 := blk_frozen HG.out 2
      have f3 := blk_frozen HG.out 3
      have f4 := blk_frozen HG.out 4
      refine wp_loop_rounds 3 ?_
      rw [rounds_succ]
      go_wp2_with fail
      clear q0 q1 q2 q3 q4 f0 f1 f2 f3 f4
      refine (rd_Int 1048576 _ _ _ _ HR.out (by omega)).mono ?_
      rintro en w3 ⟨rfl, hR, hU⟩
      have hr := rdInt_r (m := 1048576) (l := l1) (e := e1) HR.out.range
      rw [I2.out] at hr hR ⊢
      have u2 : IntKind.u32.wrap v2 = v2 := (IntKind.wrap_u32 _).trans (by simp only at hr; omega)
      replace HG := Aside0.mk (hU.blk HG.out (fun h => by have := HN.out; omega))
      replace HGB := Aside0.mk (hU.blk HGB.out (fun h => by have := HN.out; omega))
      replace HU := Aside0.mk (HU.out.then_ hU)
      replace HR := Aside0.mk hR
      clear hR hU hr
      have q0 := blk_at (i := 0) HG.out rfl
      have q1 := blk_at (i := 1) HG.out rfl
      have q2 := blk_at (i := 2) HG.out rfl
      have q3 := blk_at (i := 3) HG.out rfl
      have q4 := blk_at (i := 4) HG.out rfl
      have f0 := blk_frozen HG.out 0
      have f1 := blk_frozen HG.out 1
      have f2 := blk_frozen HG.out 2
      have f3 := blk_frozen HG.out 3
      have f4 := blk_frozen HG.out 4
      go_wp2_with fail
      clear q0 q1 q2 q3 q4 f0 f1 f2 f3 f4
      obtain ⟨W3, hW⟩ : ∃ W, W = w3.setCell ⟨b, 2, none⟩ (.int .u32 v2) := ⟨_, rfl⟩
      rw [← hW]
      replace HGB : Aside0 (W3.heap[w.heap.size]? = _) := ⟨hW ▸ blk_far HGB.out (p := ⟨b, 2, none⟩) (by have := HN.out; simp only; omega) _⟩
      replace HG : Aside0 (W3.heap[b]? = some (.cells #[.int .u32 v1, .int .i64 2, .int .u32 v2, .int .u32 0, .int .u32 0] 25 (0, 0))) := ⟨hW ▸ blk_put HG.out 2 _ rfl⟩
      replace HU : Aside0 (Upd (· = g) w W3) := ⟨hW ▸ HU.out.setCell (p := ⟨b, 2, none⟩) (fun h => by have := HN.out; simp only at h; omega) _⟩
      replace HR : Aside0 (RD W3 g l2 e2) := ⟨hW ▸ HR.out.upd ((Upd.refl (· = b) _).setCell (p := ⟨b, 2, none⟩) (fun _ => rfl) _) (fun h => by have := HN.out; omega)⟩
      clear hW
      have q0 := blk_at (i := 0) HG.out rfl
      have q1 := blk_at (i := 1) HG.out rfl
      have q2 := blk_at (i := 2) HG.out rfl
      have q3 := blk_at (i := 3) HG.out rfl
      have q4 := blk_at (i := 4) HG.out rfl
      have f0 := blk_frozen HG.out 0
      have f1 := blk_frozen HG.out 1
      have f2 := blk_frozen HG.out 2
      have f3 := blk_frozen HG.out 3
      have f4 := blk_frozen HG.out 4
      rw [rounds_succ]
      go_wp2_with fail
      clear q0 q1 q2 q3 q4 f0 f1 f2 f3 f4
      refine (rd_Int 1048576 _ _ _ _ HR.out (by omega)).mono ?_
      rintro en w4 ⟨rfl, hR, hU⟩
      have hr := rdInt_r (m := 1048576) (l := l2) (e := e2) HR.out.range
      rw [I3.out] at hr hR ⊢
      have u3 : IntKind.u32.wrap v3 = v3 := (IntKind.wrap_u32 _).trans (by simp only at hr; omega)
      replace HG := Aside0.mk (hU.blk HG.out (fun h => by have := HN.out; omega))
      replace HGB := Aside0.mk (hU.blk HGB.out (fun h => by have := HN.out; omega))
      replace HU := Aside0.mk (HU.out.then_ hU)
      replace HR := Aside0.mk hR
      clear hR hU hr
      have q0 := blk_at (i := 0) HG.out rfl
      have q1 := blk_at (i := 1) HG.out rfl
      have q2 := blk_at (i := 2) HG.out rfl
      have q3 := blk_at (i := 3) HG.out rfl
      have q4 := blk_at (i := 4) HG.out rfl
      have f0 := blk_frozen HG.out 0
      have f1 := blk_frozen HG.out 1
      have f2 := blk_frozen HG.out 2
      have f3 := blk_frozen HG.out 3
      have f4 := blk_frozen HG.out 4
      go_wp2_with fail
      clear q0 q1 q2 q3 q4 f0 f1 f2 f3 f4
      obtain ⟨W4, hW⟩ : ∃ W, W = w4.setCell ⟨b, 3, none⟩ (.int .u32 v3) := ⟨_, rfl⟩
      rw [← hW]
      replace HGB : Aside0 (W4.heap[w.heap.size]? = _) := ⟨hW ▸ blk_far HGB.out (p := ⟨b, 3, none⟩) (by have := HN.out; simp only; omega) _⟩
      replace HG : Aside0 (W4.heap[b]? = some (.cells #[.int .u32 v1, .int .i64 2, .int .u32 v2, .int .u32 v3, .int .u32 0] 25 (0, 0))) := ⟨hW ▸ blk_put HG.out 3 _ rfl⟩
      replace HU : Aside0 (Upd (· = g) w W4) := ⟨hW ▸ HU.out.setCell (p := ⟨b, 3, none⟩) (fun h => by have := HN.out; simp only at h; omega) _⟩
      replace HR : Aside0 (RD W4 g l3 e3) := ⟨hW ▸ HR.out.upd ((Upd.refl (· = b) _).setCell (p := ⟨b, 3, none⟩) (fun _ => rfl) _) (fun h => by have := HN.out; omega)⟩
      clear hW
      have q0 := blk_at (i := 0) HG.out rfl
      have q1 := blk_at (i := 1) HG.out rfl
      have q2 := blk_at (i := 2) HG.out rfl
      have q3 := blk_at (i := 3) HG.out rfl
      have q4 := blk_at (i := 4) HG.out rfl
      have f0 := blk_frozen HG.out 0
      have f1 := blk_frozen HG.out 1
      have f2 := blk_frozen HG.out 2
      have f3 := blk_frozen HG.out 3
      have f4 := blk_frozen HG.out 4
      rw [rounds_succ]
      have z0 := blk_at (i := 0) HGB.out rfl
      have z1 := blk_at (i := 1) HGB.out rfl
      have z2 := blk_at (i := 2) HGB.out rfl
      have z3 := blk_at (i := 3) HGB.out rfl
      have z4 := blk_at (i := 4) HGB.out rfl
      have y0 := blk_frozen HGB.out 0
      have y1 := blk_frozen HGB.out 1
      have y2 := blk_frozen HGB.out 2
      have y3 := blk_frozen HGB.out 3
      have y4 := blk_frozen HGB.out 4
      go_wp2_with fail
      refine (rd_Err _ _ _ _ HR.out).mono ?_
      rintro en wz ⟨rfl, rfl⟩
      go_wp2_with fail
      rw [HX.out]
      exact bodyPost_ret (v := .agg #[.int .u32 v1, .int .i64 2, .int .u32 v2, .int .u32 v3, .int .u32 0]) (by simp [results, Try.results17, go_sem, z0, z1, z2, z3, z4]) rfl ⟨rfl, HR.out.upd (F := (· = w.heap.size)) (upd5 (F := fun x => x = w.heap.size) (g := w.heap.size) (Upd.refl _ _) (fun _ => rfl) _ _ _ _ _) (fun h => by have := HN.out; omega), upd5 HU.out (fun h => absurd h (Nat.lt_irrefl _)) _ _ _ _ _⟩
  · by_cases ce : e4 = 0
    rotate_left
    · have ce0 : (e4 != 0) = true := bne_iff_ne.mpr ce
      have HX : Aside0 (rdTime l e = ((0, 0, 0, 0, 0), l4, e4)) := ⟨by unfold rdTime; simp [I0.out, I1.out, I2.out, I3.out, I4.out, ce]⟩
      clear ce
      go_enter Try.func17, Try.ntmps17
      go_wp2_with fail
      refine (rd_Int 3 _ _ _ _ (HR.out.below (below_alloc (Below.refl _ _) _)) (by omega)).mono ?_
      rintro en w1 ⟨rfl, hR, hU⟩
      rw [I0.out] at hR ⊢
      have HGB := Aside0.mk (hU.blk (blk_new w (.cells #[.int .u32 0, .int .i64 0, .int .u32 0, .int .u32 0, .int .u32 0] 25)) (fun h => by have := HL.out; omega))
      have HU := Aside0.mk (((Upd.refl (· = g) w).alloc _).then_ hU)
      have HN : Aside0 (g < w1.heap.size ∧ w.heap.size < w1.heap.size ∧ g ≠ w.heap.size) := ⟨hR.lt, blk_lt HGB.out, by have := HL.out; omega⟩
      replace HR := Aside0.mk hR
      clear hR hU
      go_wp2_with fail
      have HG := Aside0.mk (blk_new w1 (.cells #[.int .u32 0, .int .i64 3, .int .u32 0, .int .u32 0, .int .u32 0] 25))
      replace HGB := Aside0.mk (Base.blk_alloc HGB.out (.cells #[.int .u32 0, .int .i64 3, .int .u32 0, .int .u32 0, .int .u32 0] 25))
      replace HU := Aside0.mk (HU.out.alloc (.cells #[.int .u32 0, .int .i64 3, .int .u32 0, .int .u32 0, .int .u32 0] 25))
      replace HR := Aside0.mk (HR.out.below (below_alloc (Below.refl _ _) (.cells #[.int .u32 0, .int .i64 3, .int .u32 0, .int .u32 0, .int .u32 0] 25)))
      obtain ⟨b, hb⟩ : ∃ b, b = w1.heap.size := ⟨_, rfl⟩
      rw [← hb] at HN HG ⊢
      generalize w1.alloc _ = W1 at HG HGB HU HR ⊢
      clear hb
      refine (rd_Int 1048576 _ _ _ _ HR.out (by omega)).mono ?_
      rintro en w2 ⟨rfl, hR, hU⟩
      have hr := rdInt_r (m := 1048576) (l := l0) (e := e0) HR.out.range
      rw [I1.out] at hr hR ⊢
      have u1 : IntKind.u32.wrap v1 = v1 := (IntKind.wrap_u32 _).trans (by simp only at hr; omega)
      replace HG := Aside0.mk (hU.blk HG.out (fun h => by have := HN.out; omega))
      replace HGB := Aside0.mk (hU.blk HGB.out (fun h => by have := HN.out; omega))
      replace HU := Aside0.mk (HU.out.then_ hU)
      replace HR := Aside0.mk hR
      clear hR hU hr
      have q0 := blk_at (i := 0) HG.out rfl
      have q1 := blk_at (i := 1) HG.out rfl
      have q2 := blk_at (i := 2) HG.out rfl
      have q3 := blk_at (i := 3) HG.out rfl
      have q4 := blk_at (i := 4) HG.out rfl
      have f0 := blk_frozen HG.out 0
      have f1 := blk_frozen HG.out 1
      have f2 := blk_frozen HG.out 2
      have f3 := blk_frozen HG.out 3
      have f4 := blk_frozen HG.out 4
      go_wp2_with fail
      clear q0 q1 q2 q3 q4 f0 f1 f2 f3 f4
      obtain ⟨W2, hW⟩ : ∃ W, W = w2.setCell ⟨b, 0, none⟩ (.int .u32 v1) := ⟨_, rfl⟩
      rw [← hW]
      replace HGB : Aside0 (W2.heap[w.heap.size]? = _) := ⟨hW ▸ blk_far HGB.out (p := ⟨b, 0, none⟩) (by have := HN.out; simp only; omega) _⟩
      replace HG : Aside0 (W2.heap[b]? = some (.cells #[.int .u32 v1, .int .i64 3, .int .u32 0, .int .u32 0, .int .u32 0] 25 (0, 0))) := ⟨hW ▸ blk_put HG.out 0 _ rfl⟩
      replace HU : Aside0 (Upd (· = g) w W2) := ⟨hW ▸ HU.out.setCell (p := ⟨b, 0, none⟩) (fun h => by have := HN.out; simp only at h; omega) _⟩
      replace HR : Aside0 (RD W2 g l1 e1) := ⟨hW ▸ HR.out.upd ((Upd.refl (· = b) _).setCell (p := ⟨b, 0, none⟩) (fun _ => rfl) _) (fun h => by have := HN.out; omega)⟩
      clear hW
      have q0 := blk_at (i := 0) HG.out rfl
      have q1 := blk_at (i := 1) HG.out rfl
      have q2 := blk_at (i := 2) HG.out rfl
      have q3 := blk_at (i := 3) HG.out rfl
      have q4 := blk_at (i := 4) HG.out rfl
      have f0 := blk_frozen HG.out 0
      have f1 := blk_frozen HG.out 1
      have f2 := blk_frozen HG.out 2
      have f3 := blk_frozen HG.out 3
      have f4 := blk_frozen HG.out 4
      refine wp_loop_rounds 4 ?_
      rw [rounds_succ]
      go_wp2_with fail
      clear q0 q1 q2 q3 q4 f0 f1 f2 f3 f4
      refine (rd_Int 1048576 _ _ _ _ HR.out (by omega)).mono ?_
      rintro en w3 ⟨rfl, hR, hU⟩
      have hr := rdInt_r (m := 1048576) (l := l1) (e := e1) HR.out.range
      rw [I2.out] at hr hR ⊢
      have u2 : IntKind.u32.wrap v2 = v2 := (IntKind.wrap_u32 _).trans (by simp only at hr; omega)
      replace HG := Aside0.mk (hU.blk HG.out (fun h => by have := HN.out; omega))
      replace HGB := Aside0.mk (hU.blk HGB.out (fun h => by have := HN.out; omega))
      replace HU := Aside0.mk (HU.out.then_ hU)
      replace HR := Aside0.mk hR
      clear hR hU hr
      have q0 := blk_at (i := 0) HG.out rfl
      have q1 := blk_at (i := 1) HG.out rfl
      have q2 := blk_at (i := 2) HG.out rfl
      have q3 := blk_at (i := 3) HG.out rfl
      have q4 := blk_at (i := 4) HG.out rfl
      have f0 := blk_frozen HG.out 0
      have f1 := blk_frozen HG.out 1
      have f2 := blk_frozen HG.out 2
      have f3 := blk_frozen HG.out 3
      have f4 := blk_frozen HG.out 4
      go_wp2_with fail
      clear q0 q1 q2 q3 q4 f0 f1 f2 f3 f4
      obtain ⟨W3, hW⟩ : ∃ W, W = w3.setCell ⟨b, 2, none⟩ (.int .u32 v2) := ⟨_, rfl⟩
      rw [← hW]
      replace HGB : Aside0 (W3.heap[w.heap.size]? = _) := ⟨hW ▸ blk_far HGB.out (p := ⟨b, 2, none⟩) (by have := HN.out; simp only; omega) _⟩
      replace HG : Aside0 (W3.heap[b]? = some (.cells #[.int .u32 v1, .int .i64 3, .int .u32 v2, .int .u32 0, .int .u32 0] 25 (0, 0))) := ⟨hW ▸ blk_put HG.out 2 _ rfl⟩
      replace HU : Aside0 (Upd (· = g) w W3) := ⟨hW ▸ HU.out.setCell (p := ⟨b, 2, none⟩) (fun h => by have := HN.out; simp only at h; omega) _⟩
      replace HR : Aside0 (RD W3 g l2 e2) := ⟨hW ▸ HR.out.upd ((Upd.refl (· = b) _).setCell (p := ⟨b, 2, none⟩) (fun _ => rfl) _) (fun h => by have := HN.out; omega)⟩
      clear hW
      have q0 := blk_at (i := 0) HG.out rfl
      have q1 := blk_at (i := 1) HG.out rfl
      have q2 := blk_at (i := 2) HG.out rfl
      have q3 := blk_at (i := 3) HG.out rfl
      have q4 := blk_at (i := 4) HG.out rfl
      have f0 := blk_frozen HG.out 0
      have f1 := blk_frozen HG.out 1
      have f2 := blk_frozen HG.out 2
      have f3 := blk_frozen HG.out 3
      have f4 := blk_frozen HG.out 4
      rw [rounds_succ]
      go_wp2_with fail
      clear q0 q1 q2 q3 q4 f0 f1 f2 f3 f4
      refine (rd_Int 1048576 _ _ _ _ HR.out (by omega)).mono ?_
      rintro en w4 ⟨rfl, hR, hU⟩
      have hr := rdInt_r (m := 1048576) (l := l2) (e := e2) HR.out.range
      rw [I3.out] at hr hR ⊢
      have u3 : IntKind.u32.wrap v3 = v3 := (IntKind.wrap_u32 _).trans (by simp only at hr; omega)
      replace HG := Aside0.mk (hU.blk HG.out (fun h => by have := HN.out; omega))
      replace HGB := Aside0.mk (hU.blk HGB.out (fun h => by have := HN.out; omega))
      replace HU := Aside0.mk (HU.out.then_ hU)
      replace HR := Aside0.mk hR
      clear hR hU hr
      have q0 := blk_at (i := 0) HG.out rfl
      have q1 := blk_at (i := 1) HG.out rfl
      have q2 := blk_at (i := 2) HG.out rfl
      have q3 := blk_at (i := 3) HG.out rfl
      have q4 := blk_at (i := 4) HG.out rfl
      have f0 := blk_frozen HG.out 0
      have f1 := blk_frozen HG.out 1
      have f2 := blk_frozen HG.out 2
      have f3 := blk_frozen HG.out 3
      have f4 := blk_frozen HG.out 4
      go_wp2_with fail
      clear q0 q1 q2 q3 q4 f0 f1 f2 f3 f4
      obtain ⟨W4, hW⟩ : ∃ W, W = w4.setCell ⟨b, 3, none⟩ (.int .u32 v3) := ⟨_, rfl⟩
      rw [← hW]
      replace HGB : Aside0 (W4.heap[w.heap.size]? = _) := ⟨hW ▸ blk_far HGB.out (p := ⟨b, 3, none⟩) (by have := HN.out; simp only; omega) _⟩
      replace HG : Aside0 (W4.heap[b]? = some (.cells #[.int .u32 v1, .int .i64 3, .int .u32 v2, .int .u32 v3, .int .u32 0] 25 (0, 0))) := ⟨hW ▸ blk_put HG.out 3 _ rfl⟩
      replace HU : Aside0 (Upd (· = g) w W4) := ⟨hW ▸ HU.out.setCell (p := ⟨b, 3, none⟩) (fun h => by have := HN.out; simp only at h; omega) _⟩
      replace HR : Aside0 (RD W4 g l3 e3) := ⟨hW ▸ HR.out.upd ((Upd.refl (· = b) _).setCell (p := ⟨b, 3, none⟩) (fun _ => rfl) _) (fun h => by have := HN.out; omega)⟩
      clear hW
      have q0 := blk_at (i := 0) HG.out rfl
      have q1 := blk_at (i := 1) HG.out rfl
      have q2 := blk_at (i := 2) HG.out rfl
      have q3 := blk_at (i := 3) HG.out rfl
      have q4 := blk_at (i := 4) HG.out rfl
      have f0 := blk_frozen HG.out 0
      have f1 := blk_frozen HG.out 1
      have f2 := blk_frozen HG.out 2
      have f3 := blk_frozen HG.out 3
      have f4 := blk_frozen HG.out 4
      rw [rounds_succ]
      go_wp2_with fail
      clear q0 q1 q2 q3 q4 f0 f1 f2 f3 f4
      refine (rd_Int 1048576 _ _ _ _ HR.out (by omega)).mono ?_
      rintro en w5 ⟨rfl, hR, hU⟩
      have hr := rdInt_r (m := 1048576) (l := l3) (e := e3) HR.out.range
      rw [I4.out] at hr hR ⊢
      have u4 : IntKind.u32.wrap v4 = v4 := (IntKind.wrap_u32 _).trans (by simp only at hr; omega)
      replace HG := Aside0.mk (hU.blk HG.out (fun h => by have := HN.out; omega))
      replace HGB := Aside0.mk (hU.blk HGB.out (fun h => by have := HN.out; omega))
      replace HU := Aside0.mk (HU.out.then_ hU)
      replace HR := Aside0.mk hR
      clear hR hU hr
      have q0 := blk_at (i := 0) HG.out rfl
      have q1 := blk_at (i := 1) HG.out rfl
      have q2 := blk_at (i := 2) HG.out rfl
      have q3 := blk_at (i := 3) HG.out rfl
      have q4 := blk_at (i := 4) HG.out rfl
      have f0 := blk_frozen HG.out 0
      have f1 := blk_frozen HG.out 1
      have f2 := blk_frozen HG.out 2
      have f3 := blk_frozen HG.out 3
      have f4 := blk_frozen HG.out 4
      go_wp2_with fail
      clear q0 q1 q2 q3 q4 f0 f1 f2 f3 f4
      obtain ⟨W5, hW⟩ : ∃ W, W = w5.setCell ⟨b, 4, none⟩ (.int .u32 v4) := ⟨_, rfl⟩
      rw [← hW]
      replace HGB : Aside0 (W5.heap[w.heap.size]? = _) := ⟨hW ▸ blk_far HGB.out (p := ⟨b, 4, none⟩) (by have := HN.out; simp only; omega) _⟩
      replace HG : Aside0 (W5.heap[b]? = some (.cells #[.int .u32 v1, .int .i64 3, .int .u32 v2, .int .u32 v3, .int .u32 v4] 25 (0, 0))) := ⟨hW ▸ blk_put HG.out 4 _ rfl⟩
      replace HU : Aside0 (Upd (· = g) w W5) := ⟨hW ▸ HU.out.setCell (p := ⟨b, 4, none⟩) (fun h => by have := HN.out; simp only at h; omega) _⟩
      replace HR : Aside0 (RD W5 g l4 e4) := ⟨hW ▸ HR.out.upd ((Upd.refl (· = b) _).setCell (p := ⟨b, 4, none⟩) (fun _ => rfl) _) (fun h => by have := HN.out; omega)⟩
      clear hW
      have q0 := blk_at (i := 0) HG.out rfl
      have q1 := blk_at (i := 1) HG.out rfl
      have q2 := blk_at (i := 2) HG.out rfl
      have q3 := blk_at (i := 3) HG.out rfl
      have q4 := blk_at (i := 4) HG.out rfl
      have f0 := blk_frozen HG.out 0
      have f1 := blk_frozen HG.out 1
      have f2 := blk_frozen HG.out 2
      have f3 := blk_frozen HG.out 3
      have f4 := blk_frozen HG.out 4
      rw [rounds_succ]
      have z0 := blk_at (i := 0) HGB.out rfl
      have z1 := blk_at (i := 1) HGB.out rfl
      have z2 := blk_at (i := 2) HGB.out rfl
      have z3 := blk_at (i := 3) HGB.out rfl
      have z4 := blk_at (i := 4) HGB.out rfl
      have y0 := blk_frozen HGB.out 0
      have y1 := blk_frozen HGB.out 1
      have y2 := blk_frozen HGB.out 2
      have y3 := blk_frozen HGB.out 3
      have y4 := blk_frozen HGB.out 4
      go_wp2_with fail
      refine (rd_Err _ _ _ _ HR.out).mono ?_
      rintro en wz ⟨rfl, rfl⟩
      go_wp2_with fail
      rw [HX.out]
      exact bodyPost_ret (v := .agg #[.int .u32 0, .int .i64 0, .int .u32 0, .int .u32 0, .int .u32 0]) (by simp [results, Try.results17, go_sem, z0, z1, z2, z3, z4]) rfl ⟨rfl, HR.out.upd (F := (· = w.heap.size)) (upd5 (F := fun x => x = w.heap.size) (g := w.heap.size) (Upd.refl _ _) (fun _ => rfl) _ _ _ _ _) (fun h => by have := HN.out; omega), upd5 HU.out (fun h => absurd h (Nat.lt_irrefl _)) _ _ _ _ _⟩
    · have ce0 : (e4 != 0) = false := by rw [ce]; rfl
      have HX : Aside0 (rdTime l e = ((v1, 3, v2, v3, v4), l4, e4)) := ⟨by unfold rdTime; simp [I0.out, I1.out, I2.out, I3.out, I4.out, ce]⟩
      have HCE := Aside0.mk ce
      clear ce
      go_enter Try.func17, Try.ntmps17
      go_wp2_with fail
      refine (rd_Int 3 _ _ _ _ (HR.out.below (below_alloc (Below.refl _ _) _)) (by omega)).mono ?_
      rintro en w1 ⟨rfl, hR, hU⟩
      rw [I0.out] at hR ⊢
      have HGB := Aside0.mk (hU.blk (blk_new w (.cells #[.int .u32 0, .int .i64 0, .int .u32 0, .int .u32 0, .int .u32 0] 25)) (fun h => by have := HL.out; omega))
      have HU := Aside0.mk (((Upd.refl (· = g) w).alloc _).then_ hU)
      have HN : Aside0 (g < w1.heap.size ∧ w.heap.size < w1.heap.size ∧ g ≠ w.heap.size) := ⟨hR.lt, blk_lt HGB.out, by have := HL.out; omega⟩
      replace HR := Aside0.mk hR
      clear hR hU
      go_wp2_with fail
      have HG := Aside0.mk (blk_new w1 (.cells #[.int .u32 0, .int .i64 3, .int .u32 0, .int .u32 0, .int .u32 0] 25))
      replace HGB := Aside0.mk (Base.blk_alloc HGB.out (.cells #[.int .u32 0, .int .i64 3, .int .u32 0, .int .u32 0, .int .u32 0] 25))
      replace HU := Aside0.mk (HU.out.alloc (.cells #[.int .u32 0, .int .i64 3, .int .u32 0, .int .u32 0, .int .u32 0] 25))
      replace HR := Aside0.mk (HR.out.below (below_alloc (Below.refl _ _) (.cells #[.int .u32 0, .int .i64 3, .int .u32 0, .int .u32 0, .int .u32 0] 25)))
      obtain ⟨b, hb⟩ : ∃ b, b = w1.heap.size := ⟨_, rfl⟩
      rw [← hb] at HN HG ⊢
      generalize w1.alloc _ = W1 at HG HGB HU HR ⊢
      clear hb
      refine (rd_Int 1048576 _ _ _ _ HR.out (by omega)).mono ?_
      rintro en w2 ⟨rfl, hR, hU⟩
      have hr := rdInt_r (m := 1048576) (l := l0) (e := e0) HR.out.range
      rw [I1.out] at hr hR ⊢
      have u1 : IntKind.u32.wrap v1 = v1 := (IntKind.wrap_u32 _).trans (by simp only at hr; omega)
      replace HG := Aside0.mk (hU.blk HG.out (fun h => by have := HN.out; omega))
      replace HGB := Aside0.mk (hU.blk HGB.out (fun h => by have := HN.out; omega))
      replace HU := Aside0.mk (HU.out.then_ hU)
      replace HR := Aside0.mk hR
      clear hR hU hr
      have q0 := blk_at (i := 0) HG.out rfl
      have q1 := blk_at (i := 1) HG.out rfl
      have q2 := blk_at (i := 2) HG.out rfl
      have q3 := blk_at (i := 3) HG.out rfl
      have q4 := blk_at (i := 4) HG.out rfl
      have f0 := blk_frozen HG.out 0
      have f1 := blk_frozen HG.out 1
      have f2 := blk_frozen HG.out 2
      have f3 := blk_frozen HG.out 3
      have f4 := blk_frozen HG.out 4
      go_wp2_with fail
      clear q0 q1 q2 q3 q4 f0 f1 f2 f3 f4
      obtain ⟨W2, hW⟩ : ∃ W, W = w2.setCell ⟨b, 0, none⟩ (.int .u32 v1) := ⟨_, rfl⟩
      rw [← hW]
      replace HGB : Aside0 (W2.heap[w.heap.size]? = _) := ⟨hW ▸ blk_far HGB.out (p := ⟨b, 0, none⟩) (by have := HN.out; simp only; omega) _⟩
      replace HG : Aside0 (W2.heap[b]? = some (.cells #[.int .u32 v1, .int .i64 3, .int .u32 0, .int .u32 0, .int .u32 0] 25 (0, 0))) := ⟨hW ▸ blk_put HG.out 0 _ rfl⟩
      replace HU : Aside0 (Upd (· = g) w W2) := ⟨hW ▸ HU.out.setCell (p := ⟨b, 0, none⟩) (fun h => by have := HN.out; simp only at h; omega) _⟩
      replace HR : Aside0 (RD W2 g l1 e1) := ⟨hW ▸ HR.out.upd ((Upd.refl (· = b) _).setCell (p := ⟨b, 0, none⟩) (fun _ => rfl) _) (fun h => by have := HN.out; omega)⟩
      clear hW
      have q0 := blk_at (i := 0) HG.out rfl
      have q1 := blk_at (i := 1) HG.out rfl
      have q2 := blk_at (i := 2) HG.out rfl
      have q3 := blk_at (i := 3) HG.out rfl
      have q4 := blk_at (i := 4) HG.out rfl
      have f0 := blk_frozen HG.out 0
      have f1 := blk_frozen HG.out 1
      have f2 := blk_frozen HG.out 2
      have f3 := blk_frozen HG.out 3
      have f4 := blk_frozen HG.out 4
      refine wp_loop_rounds 4 ?_
      rw [rounds_succ]
      go_wp2_with fail
      clear q0 q1 q2 q3 q4 f0 f1 f2 f3 f4
      refine (rd_Int 1048576 _ _ _ _ HR.out (by omega)).mono ?_
      rintro en w3 ⟨rfl, hR, hU⟩
      have hr := rdInt_r (m := 1048576) (l := l1) (e := e1) HR.out.range
      rw [I2.out] at hr hR ⊢
      have u2 : IntKind.u32.wrap v2 = v2 := (IntKind.wrap_u32 _).trans (by simp only at hr; omega)
      replace HG := Aside0.mk (hU.blk HG.out (fun h => by have := HN.out; omega))
      replace HGB := Aside0.mk (hU.blk HGB.out (fun h => by have := HN.out; omega))
      replace HU := Aside0.mk (HU.out.then_ hU)
      replace HR := Aside0.mk hR
      clear hR hU hr
      have q0 := blk_at (i := 0) HG.out rfl
      have q1 := blk_at (i := 1) HG.out rfl
      have q2 := blk_at (i := 2) HG.out rfl
      have q3 := blk_at (i := 3) HG.out rfl
      have q4 := blk_at (i := 4) HG.out rfl
      have f0 := blk_frozen HG.out 0
      have f1 := blk_frozen HG.out 1
      have f2 := blk_frozen HG.out 2
      have f3 := blk_frozen HG.out 3
      have f4 := blk_frozen HG.out 4
      go_wp2_with fail
      clear q0 q1 q2 q3 q4 f0 f1 f2 f3 f4
      obtain ⟨W3, hW⟩ : ∃ W, W = w3.setCell ⟨b, 2, none⟩ (.int .u32 v2) := ⟨_, rfl⟩
      rw [← hW]
      replace HGB : Aside0 (W3.heap[w.heap.size]? = _) := ⟨hW ▸ blk_far HGB.out (p := ⟨b, 2, none⟩) (by have := HN.out; simp only; omega) _⟩
      replace HG : Aside0 (W3.heap[b]? = some (.cells #[.int .u32 v1, .int .i64 3, .int .u32 v2, .int .u32 0, .int .u32 0] 25 (0, 0))) := ⟨hW ▸ blk_put HG.out 2 _ rfl⟩
      replace HU : Aside0 (Upd (· = g) w W3) := ⟨hW ▸ HU.out.setCell (p := ⟨b, 2, none⟩) (fun h => by have := HN.out; simp only at h; omega) _⟩
      replace HR : Aside0 (RD W3 g l2 e2) := ⟨hW ▸ HR.out.upd ((Upd.refl (· = b) _).setCell (p := ⟨b, 2, none⟩) (fun _ => rfl) _) (fun h => by have := HN.out; omega)⟩
      clear hW
      have q0 := blk_at (i := 0) HG.out rfl
      have q1 := blk_at (i := 1) HG.out rfl
      have q2 := blk_at (i := 2) HG.out rfl
      have q3 := blk_at (i := 3) HG.out rfl
      have q4 := blk_at (i := 4) HG.out rfl
      have f0 := blk_frozen HG.out 0
      have f1 := blk_frozen HG.out 1
      have f2 := blk_frozen HG.out 2
      have f3 := blk_frozen HG.out 3
      have f4 := blk_frozen HG.out 4
      rw [rounds_succ]
      go_wp2_with fail
      clear q0 q1 q2 q3 q4 f0 f1 f2 f3 f4
      refine (rd_Int 1048576 _ _ _ _ HR.out (by omega)).mono ?_
      rintro en w4 ⟨rfl, hR, hU⟩
      have hr := rdInt_r (m := 1048576) (l := l2) (e := e2) HR.out.range
      rw [I3.out] at hr hR ⊢
      have u3 : IntKind.u32.wrap v3 = v3 := (IntKind.wrap_u32 _).trans (by simp only at hr; omega)
      replace HG := Aside0.mk (hU.blk HG.out (fun h => by have := HN.out; omega))
      replace HGB := Aside0.mk (hU.blk HGB.out (fun h => by have := HN.out; omega))
      replace HU := Aside0.mk (HU.out.then_ hU)
      replace HR := Aside0.mk hR
      clear hR hU hr
      have q0 := blk_at (i := 0) HG.out rfl
      have q1 := blk_at (i := 1) HG.out rfl
      have q2 := blk_at (i := 2) HG.out rfl
      have q3 := blk_at (i := 3) HG.out rfl
      have q4 := blk_at (i := 4) HG.out rfl
      have f0 := blk_frozen HG.out 0
      have f1 := blk_frozen HG.out 1
      have f2 := blk_frozen HG.out 2
      have f3 := blk_frozen HG.out 3
      have f4 := blk_frozen HG.out 4
      go_wp2_with fail
      clear q0 q1 q2 q3 q4 f0 f1 f2 f3 f4
      obtain ⟨W4, hW⟩ : ∃ W, W = w4.setCell ⟨b, 3, none⟩ (.int .u32 v3) := ⟨_, rfl⟩
      rw [← hW]
      replace HGB : Aside0 (W4.heap[w.heap.size]? = _) := ⟨hW ▸ blk_far HGB.out (p := ⟨b, 3, none⟩) (by have := HN.out; simp only; omega) _⟩
      replace HG : Aside0 (W4.heap[b]? = some (.cells #[.int .u32 v1, .int .i64 3, .int .u32 v2, .int .u32 v3, .int .u32 0] 25 (0, 0))) := ⟨hW ▸ blk_put HG.out 3 _ rfl⟩
      replace HU : Aside0 (Upd (· = g) w W4) := ⟨hW ▸ HU.out.setCell (p := ⟨b, 3, none⟩) (fun h => by have := HN.out; simp only at h; omega) _⟩
      replace HR : Aside0 (RD W4 g l3 e3) := ⟨hW ▸ HR.out.upd ((Upd.refl (· = b) _).setCell (p := ⟨b, 3, none⟩) (fun _ => rfl) _) (fun h => by have := HN.out; omega)⟩
      clear hW
      have q0 := blk_at (i := 0) HG.out rfl
      have q1 := blk_at (i := 1) HG.out rfl
      have q2 := blk_at (i := 2) HG.out rfl
      have q3 := blk_at (i := 3) HG.out rfl
      have q4 := blk_at (i := 4) HG.out rfl
      have f0 := blk_frozen HG.out 0
      have f1 := blk_frozen HG.out 1
      have f2 := blk_frozen HG.out 2
      have f3 := blk_frozen HG.out 3
      have f4 := blk_frozen HG.out 4
      rw [rounds_succ]
      go_wp2_with fail
      clear q0 q1 q2 q3 q4 f0 f1 f2 f3 f4
      refine (rd_Int 1048576 _ _ _ _ HR.out (by omega)).mono ?_
      rintro en w5 ⟨rfl, hR, hU⟩
      have hr := rdInt_r (m := 1048576) (l := l3) (e := e3) HR.out.range
      rw [I4.out] at hr hR ⊢
      have u4 : IntKind.u32.wrap v4 = v4 := (IntKind.wrap_u32 _).trans (by simp only at hr; omega)
      replace HG := Aside0.mk (hU.blk HG.out (fun h => by have := HN.out; omega))
      replace HGB := Aside0.mk (hU.blk HGB.out (fun h => by have := HN.out; omega))
      replace HU := Aside0.mk (HU.out.then_ hU)
      replace HR := Aside0.mk hR
      clear hR hU hr
      have q0 := blk_at (i := 0) HG.out rfl
      have q1 := blk_at (i := 1) HG.out rfl
      have q2 := blk_at (i := 2) HG.out rfl
      have q3 := blk_at (i := 3) HG.out rfl
      have q4 := blk_at (i := 4) HG.out rfl
      have f0 := blk_frozen HG.out 0
      have f1 := blk_frozen HG.out 1
      have f2 := blk_frozen HG.out 2
      have f3 := blk_frozen HG.out 3
      have f4 := blk_frozen HG.out 4
      go_wp2_with fail
      clear q0 q1 q2 q3 q4 f0 f1 f2 f3 f4
      obtain ⟨W5, hW⟩ : ∃ W, W = w5.setCell ⟨b, 4, none⟩ (.int .u32 v4) := ⟨_, rfl⟩
      rw [← hW]
      replace HGB : Aside0 (W5.heap[w.heap.size]? = _) := ⟨hW ▸ blk_far HGB.out (p := ⟨b, 4, none⟩) (by have := HN.out; simp only; omega) _⟩
      replace HG : Aside0 (W5.heap[b]? = some (.cells #[.int .u32 v1, .int .i64 3, .int .u32 v2, .int .u32 v3, .int .u32 v4] 25 (0, 0))) := ⟨hW ▸ blk_put HG.out 4 _ rfl⟩
      replace HU : Aside0 (Upd (· = g) w W5) := ⟨hW ▸ HU.out.setCell (p := ⟨b, 4, none⟩) (fun h => by have := HN.out; simp only at h; omega) _⟩
      replace HR : Aside0 (RD W5 g l4 e4) := ⟨hW ▸ HR.out.upd ((Upd.refl (· = b) _).setCell (p := ⟨b, 4, none⟩) (fun _ => rfl) _) (fun h => by have := HN.out; omega)⟩
      clear hW
      have q0 := blk_at (i := 0) HG.out rfl
      have q1 := blk_at (i := 1) HG.out rfl
      have q2 := blk_at (i := 2) HG.out rfl
      have q3 := blk_at (i := 3) HG.out rfl
      have q4 := blk_at (i := 4) HG.out rfl
      have f0 := blk_frozen HG.out 0
      have f1 := blk_frozen HG.out 1
      have f2 := blk_frozen HG.out 2
      have f3 := blk_frozen HG.out 3
      have f4 := blk_frozen HG.out 4
      rw [rounds_succ]
      have z0 := blk_at (i := 0) HGB.out rfl
      have z1 := blk_at (i := 1) HGB.out rfl
      have z2 := blk_at (i := 2) HGB.out rfl
      have z3 := blk_at (i := 3) HGB.out rfl
      have z4 := blk_at (i := 4) HGB.out rfl
      have y0 := blk_frozen HGB.out 0
      have y1 := blk_frozen HGB.out 1
      have y2 := blk_frozen HGB.out 2
      have y3 := blk_frozen HGB.out 3
      have y4 := blk_frozen HGB.out 4
      go_wp2_with fail
      refine (rd_Err _ _ _ _ HR.out).mono ?_
      rintro en wz ⟨rfl, rfl⟩
      go_wp2_with fail
      rw [HX.out]
      exact bodyPost_ret (v := .agg #[.int .u32 v1, .int .i64 3, .int .u32 v2, .int .u32 v3, .int .u32 v4]) (by simp [results, Try.results17, go_sem, z0, z1, z2, z3, z4]) rfl ⟨rfl, HR.out.upd (F := (· = w.heap.size)) (upd5 (F := fun x => x = w.heap.size) (g := w.heap.size) (Upd.refl _ _) (fun _ => rfl) _ _ _ _ _) (fun h => by have := HN.out; omega), upd5 HU.out (fun h => absurd h (Nat.lt_irrefl _)) _ _ _ _ _⟩
theorem RF.err {w : World} {g : Nat} {l : List Int} {e : Int} (h : RF w g l e) : w.cell? ⟨g, 2, none⟩ = some (.int .i64 e) := by
  obtain ⟨S, t, hG, _⟩ := h
  exact blk_at hG (i := 2) rfl
set_option maxRecDepth 100000 in
set_option maxHeartbeats 8000000 in
theorem rf_Time (g : Nat) (l : List Int) (e : Int) (w : World) (hR : RF w g l e) :
    Calls Try.prog 18 #[.pointer (some ⟨g, 0, none⟩)] w fun en w' => en = .returned (tv (rdTime l e).1) ∧ RF w' g (rdTime l e).2.1 (rdTime l e).2.2 ∧ Upd (· = g) w w' := by
  have HR := Aside0.mk hR
  have HL := Aside0.mk hR.lt
  have hx := rdInt_r (m := 3) (e := e) hR.range
  obtain ⟨⟨D, l0, e0⟩, hI⟩ : ∃ x, x = rdInt 3 l e := ⟨_, rfl⟩
  have I0 := hI.symm
  rw [I0] at hx
  simp only at hx
  obtain ⟨⟨v1, l1, e1⟩, hI1⟩ : ∃ x, x = rdInt 1048576 l0 e0 := ⟨_, rfl⟩
  have I1 := hI1.symm
  obtain ⟨⟨v2, l2, e2⟩, hI2⟩ : ∃ x, x = rdInt 1048576 l1 e1 := ⟨_, rfl⟩
  have I2 := hI2.symm
  obtain ⟨⟨v3, l3, e3⟩, hI3⟩ : ∃ x, x = rdInt 1048576 l2 e2 := ⟨_, rfl⟩
  have I3 := hI3.symm
  obtain ⟨⟨v4, l4, e4⟩, hI4⟩ : ∃ x, x = rdInt 1048576 l3 e3 := ⟨_, rfl⟩
  have I4 := hI4.symm
  have I0 := Aside0.mk I0
  have I1 := Aside0.mk I1
  have I2 := Aside0.mk I2
  have I3 := Aside0.mk I3
  have I4 := Aside0.mk I4
  clear hR hI hI1 hI2 hI3 hI4
  have hD : D = 0 ∨ D = 1 ∨ D = 2 ∨ D = 3 := by omega
  clear hx
  rcases hD with rfl | rfl | rfl | rfl
  · by_cases ce : e1 = 0
    rotate_left
    · have ce0 : (e1 != 0) = true := bne_iff_ne.mpr ce
      have HX : Aside0 (rdTime l e = ((0, 0, 0, 0, 0), l1, e1)) := ⟨by unfold rdTime; simp [I0.out, I1.out, ce]⟩
      clear ce
      go_enter Try.func18, Try.ntmps18
      go_wp2_with fail
      refine (rf_Int 3 _ _ _ _ (HR.out.below (below_alloc (Below.refl _ _) _)) (by omega)).mono ?_
      rintro en w1 ⟨rfl, hR, hU⟩
      rw [I0.out] at hR ⊢
      have HGB := Aside0.mk (hU.blk (blk_new w (.cells #[.int .u32 0, .int .i64 0, .int .u32 0, .int .u32 0, .int .u32 0] 25)) (fun h => by have := HL.out; omega))
      have HU := Aside0.mk (((Upd.refl (· = g) w).alloc _).then_ hU)
      have HN : Aside0 (g < w1.heap.size ∧ w.heap.size < w1.heap.size ∧ g ≠ w.heap.size) := ⟨hR.lt, blk_lt HGB.out, by have := HL.out; omega⟩
      replace HR := Aside0.mk hR
      clear hR hU
      go_wp2_with fail
      have HG := Aside0.mk (blk_new w1 (.cells #[.int .u32 0, .int .i64 0, .int .u32 0, .int .u32 0, .int .u32 0] 25))
      replace HGB := Aside0.mk (Base.blk_alloc HGB.out (.cells #[.int .u32 0, .int .i64 0, .int .u32 0, .int .u32 0, .int .u32 0] 25))
      replace HU := Aside0.mk (HU.out.alloc (.cells #[.int .u32 0, .int .i64 0, .int .u32 0, .int .u32 0, .int .u32 0] 25))
      replace HR := Aside0.mk (HR.out.below (below_alloc (Below.refl _ _) (.cells #[.int .u32 0, .int .i64 0, .int .u32 0, .int .u32 0, .int .u32 0] 25)))
      obtain ⟨b, hb⟩ : ∃ b, b = w1.heap.size := ⟨_, rfl⟩
      rw [← hb] at HN HG ⊢
      generalize w1.alloc _ = W1 at HG HGB HU HR ⊢
      clear hb
      refine (rf_Int 1048576 _ _ _ _ HR.out (by omega)).mono ?_
      rintro en w2 ⟨rfl, hR, hU⟩
      have hr := rdInt_r (m := 1048576) (l := l0) (e := e0) HR.out.range
      rw [I1.out] at hr hR ⊢
      have u1 : IntKind.u32.wrap v1 = v1 := (IntKind.wrap_u32 _).trans (by simp only at hr; omega)
      replace HG := Aside0.mk (hU.blk HG.out (fun h => by have := HN.out; omega))
      replace HGB := Aside0.mk (hU.blk HGB.out (fun h => by have := HN.out; omega))
      replace HU := Aside0.mk (HU.out.then_ hU)
      replace HR := Aside0.mk hR
      clear hR hU hr
      have q0 := blk_at (i := 0) HG.out rfl
      have q1 := blk_at (i := 1) HG.out rfl
      have q2 := blk_at (i := 2) HG.out rfl
      have q3 := blk_at (i := 3) HG.out rfl
      have q4 := blk_at (i := 4) HG.out rfl
      have f0 := blk_frozen HG.out 0
      have f1 := blk_frozen HG.out 1
      have f2 := blk_frozen HG.out 2
      have f3 := blk_frozen HG.out 3
      have f4 := blk_frozen HG.out 4
      go_wp2_with fail
      clear q0 q1 q2 q3 q4 f0 f1 f2 f3 f4
      obtain ⟨W2, hW⟩ : ∃ W, W = w2.setCell ⟨b, 0, none⟩ (.int .u32 v1) := ⟨_, rfl⟩
      rw [← hW]
      replace HGB : Aside0 (W2.heap[w.heap.size]? = _) := ⟨hW ▸ blk_far HGB.out (p := ⟨b, 0, none⟩) (by have := HN.out; simp only; omega) _⟩
      replace HG : Aside0 (W2.heap[b]? = some (.cells #[.int .u32 v1, .int .i64 0, .int .u32 0, .int .u32 0, .int .u32 0] 25 (0, 0))) := ⟨hW ▸ blk_put HG.out 0 _ rfl⟩
      replace HU : Aside0 (Upd (· = g) w W2) := ⟨hW ▸ HU.out.setCell (p := ⟨b, 0, none⟩) (fun h => by have := HN.out; simp only at h; omega) _⟩
      replace HR : Aside0 (RF W2 g l1 e1) := ⟨hW ▸ HR.out.upd ((Upd.refl (· = b) _).setCell (p := ⟨b, 0, none⟩) (fun _ => rfl) _) (fun h => by have := HN.out; omega)⟩
      clear hW
      have q0 := blk_at (i := 0) HG.out rfl
      have q1 := blk_at (i := 1) HG.out rfl
      have q2 := blk_at (i := 2) HG.out rfl
      have q3 := blk_at (i := 3) HG.out rfl
      have q4 := blk_at (i := 4) HG.out rfl
      have f0 := blk_frozen HG.out 0
      have f1 := blk_frozen HG.out 1
      have f2 := blk_frozen HG.out 2
      have f3 := blk_frozen HG.out 3
      have f4 := blk_frozen HG.out 4
      refine wp_loop_rounds 1 ?_
      rw [rounds_succ]
      have z0 := blk_at (i := 0) HGB.out rfl
      have z1 := blk_at (i := 1) HGB.out rfl
      have z2 := blk_at (i := 2) HGB.out rfl
      have z3 := blk_at (i := 3) HGB.out rfl
      have z4 := blk_at (i := 4) HGB.out rfl
      have y0 := blk_frozen HGB.out 0
      have y1 := blk_frozen HGB.out 1
      have y2 := blk_frozen HGB.out 2
      have y3 := blk_frozen HGB.out 3
      have y4 := blk_frozen HGB.out 4
      have hE := HR.out.err
      go_wp2_with fail
      rw [HX.out]
      exact bodyPost_ret (v := .agg #[.int .u32 0, .int .i64 0, .int .u32 0, .int .u32 0, .int .u32 0]) (by simp [results, Try.results18, go_sem, z0, z1, z2, z3, z4]) rfl ⟨rfl, HR.out.upd (F := (· = w.heap.size)) (upd5 (F := fun x => x = w.heap.size) (g := w.heap.size) (Upd.refl _ _) (fun _ => rfl) _ _ _ _ _) (fun h => by have := HN.out; omega), upd5 HU.out (fun h => absurd h (Nat.lt_irrefl _)) _ _ _ _ _⟩
    · have ce0 : (e1 != 0) = false := by rw [ce]; rfl
      have HX : Aside0 (rdTime l e = ((v1, 0, 0, 0, 0), l1, e1)) := ⟨by unfold rdTime; simp [I0.out, I1.out, ce]⟩
      have HCE := Aside0.mk ce
      clear ce
      go_enter Try.func18, Try.ntmps18
      go_wp2_with fail
      refine (rf_Int 3 _ _ _ _ (HR.out.below (below_alloc (Below.refl _ _) _)) (by omega)).mono ?_
      rintro en w1 ⟨rfl, hR, hU⟩
      rw [I0.out] at hR ⊢
      have HGB := Aside0.mk (hU.blk (blk_new w (.cells #[.int .u32 0, .int .i64 0, .int .u32 0, .int .u32 0, .int .u32 0] 25)) (fun h => by have := HL.out; omega))
      have HU := Aside0.mk (((Upd.refl (· = g) w).alloc _).then_ hU)
      have HN : Aside0 (g < w1.heap.size ∧ w.heap.size < w1.heap.size ∧ g ≠ w.heap.size) := ⟨hR.lt, blk_lt HGB.out, by have := HL.out; omega⟩
      replace HR := Aside0.mk hR
      clear hR hU
      go_wp2_with fail
      have HG := Aside0.mk (blk_new w1 (.cells #[.int .u32 0, .int .i64 0, .int .u32 0, .int .u32 0, .int .u32 0] 25))
      replace HGB := Aside0.mk (Base.blk_alloc HGB.out (.cells #[.int .u32 0, .int .i64 0, .int .u32 0, .int .u32 0, .int .u32 0] 25))
      replace HU := Aside0.mk (HU.out.alloc (.cells #[.int .u32 0, .int .i64 0, .int .u32 0, .int .u32 0, .int .u32 0] 25))
      replace HR := Aside0.mk (HR.out.below (below_alloc (Below.refl _ _) (.cells #[.int .u32 0, .int .i64 0, .int .u32 0, .int .u32 0, .int .u32 0] 25)))
      obtain ⟨b, hb⟩ : ∃ b, b = w1.heap.size := ⟨_, rfl⟩
      rw [← hb] at HN HG ⊢
      generalize w1.alloc _ = W1 at HG HGB HU HR ⊢
      clear hb
      refine (rf_Int 1048576 _ _ _ _ HR.out (by omega)).mono ?_
      rintro en w2 ⟨rfl, hR, hU⟩
      have hr := rdInt_r (m := 1048576) (l := l0) (e := e0) HR.out.range
      rw [I1.out] at hr hR ⊢
      have u1 : IntKind.u32.wrap v1 = v1 := (IntKind.wrap_u32 _).trans (by simp only at hr; omega)
      replace HG := Aside0.mk (hU.blk HG.out (fun h => by have := HN.out; omega))
      replace HGB := Aside0.mk (hU.blk HGB.out (fun h => by have := HN.out; omega))
      replace HU := Aside0.mk (HU.out.then_ hU)
      replace HR := Aside0.mk hR
      clear hR hU hr
      have q0 := blk_at (i := 0) HG.out rfl
      have q1 := blk_at (i := 1) HG.out rfl
      have q2 := blk_at (i := 2) HG.out rfl
      have q3 := blk_at (i := 3) HG.out rfl
      have q4 := blk_at (i := 4) HG.out rfl
      have f0 := blk_frozen HG.out 0
      have f1 := blk_frozen HG.out 1
      have f2 := blk_frozen HG.out 2
      have f3 := blk_frozen HG.out 3
      have f4 := blk_frozen HG.out 4
      go_wp2_with fail
      clear q0 q1 q2 q3 q4 f0 f1 f2 f3 f4
      obtain ⟨W2, hW⟩ : ∃ W, W = w2.setCell ⟨b, 0, none⟩ (.int .u32 v1) := ⟨_, rfl⟩
      rw [← hW]
      replace HGB : Aside0 (W2.heap[w.heap.size]? = _) := ⟨hW ▸ blk_far HGB.out (p := ⟨b, 0, none⟩) (by have := HN.out; simp only; omega) _⟩
      replace HG : Aside0 (W2.heap[b]? = some (.cells #[.int .u32 v1, .int .i64 0, .int .u32 0, .int .u32 0, .int .u32 0] 25 (0, 0))) := ⟨hW ▸ blk_put HG.out 0 _ rfl⟩
      replace HU : Aside0 (Upd (· = g) w W2) := ⟨hW ▸ HU.out.setCell (p := ⟨b, 0, none⟩) (fun h => by have := HN.out; simp only at h; omega) _⟩
      replace HR : Aside0 (RF W2 g l1 e1) := ⟨hW ▸ HR.out.upd ((Upd.refl (· = b) _).setCell (p := ⟨b, 0, none⟩) (fun _ => rfl) _) (fun h => by have := HN.out; omega)⟩
      clear hW
      have q0 := blk_at (i := 0) HG.out rfl
      have q1 := blk_at (i := 1) HG.out rfl
      have q2 := blk_at (i := 2) HG.out rfl
      have q3 := blk_at (i := 3) HG.out rfl
      have q4 := blk_at (i := 4) HG.out rfl
      have f0 := blk_frozen HG.out 0
      have f1 := blk_frozen HG.out 1
      have f2 := blk_frozen HG.out 2
      have f3 := blk_frozen HG.out 3
      have f4 := blk_frozen HG.out 4
      refine wp_loop_rounds 1 ?_
      rw [rounds_succ]
      have z0 := blk_at (i := 0) HGB.out rfl
      have z1 := blk_at (i := 1) HGB.out rfl
      have z2 := blk_at (i := 2) HGB.out rfl
      have z3 := blk_at (i := 3) HGB.out rfl
      have z4 := blk_at (i := 4) HGB.out rfl
      have y0 := blk_frozen HGB.out 0
      have y1 := blk_frozen HGB.out 1
      have y2 := blk_frozen HGB.out 2
      have y3 := blk_frozen HGB.out 3
      have y4 := blk_frozen HGB.out 4
      have hE := HR.out.err
      go_wp2_with fail
      rw [HX.out]
      exact bodyPost_ret (v := .agg #[.int .u32 v1, .int .i64 0, .int .u32 0, .int .u32 0, .int .u32 0]) (by simp [results, Try.results18, go_sem, z0, z1, z2, z3, z4]) rfl ⟨rfl, HR.out.upd (F := (· = w.heap.size)) (upd5 (F := fun x => x = w.heap.size) (g := w.heap.size) (Upd.refl _ _) (fun _ => rfl) _ _ _ _ _) (fun h => by have := HN.out; omega), upd5 HU.out (fun h => absurd h (Nat.lt_irrefl _)) _ _ _ _ _⟩
  · by_cases ce : e2 = 0
    rotate_left
    · have ce0 : (e2 != 0) = true := bne_iff_ne.mpr ce
      have HX : Aside0 (rdTime l e = ((0, 0, 0, 0, 0), l2, e2)) := ⟨by unfold rdTime; simp [I0.out, I1.out, I2.out, ce]⟩
      clear ce
      go_enter Try.func18, Try.ntmps18
      go_wp2_with fail
      refine (rf_Int 3 _ _ _ _ (HR.out.below (below_alloc (Below.refl _ _) _)) (by omega)).mono ?_
      rintro en w1 ⟨rfl, hR, hU⟩
      rw [I0.out] at hR ⊢
      have HGB := Aside0.mk (hU.blk (blk_new w (.cells #[.int .u32 0, .int .i64 0, .int .u32 0, .int .u32 0, .int .u32 0] 25)) (fun h => by have := HL.out; omega))
      have HU := Aside0.mk (((Upd.refl (· = g) w).alloc _).then_ hU)
      have HN : Aside0 (g < w1.heap.size ∧ w.heap.size < w1.heap.size ∧ g ≠ w.heap.size) := ⟨hR.lt, blk_lt HGB.out, by have := HL.out; omega⟩
      replace HR := Aside0.mk hR
      clear hR hU
      go_wp2_with fail
      have HG := Aside0.mk (blk_new w1 (.cells #[.int .u32 0, .int .i64 1, .int .u32 0, .int .u32 0, .int .u32 0] 25))
      replace HGB := Aside0.mk (Base.blk_alloc HGB.out (.cells #[.int .u32 0, .int .i64 1, .int .u32 0, .int .u32 0, .int .u32 0] 25))
      replace HU := Aside0.mk (HU.out.alloc (.cells #[.int .u32 0, .int .i64 1, .int .u32 0, .int .u32 0, .int .u32 0] 25))
      replace HR := Aside0.mk (HR.out.below (below_alloc (Below.refl _ _) (.cells #[.int .u32 0, .int .i64 1, .int .u32 0, .int .u32 0, .int .u32 0] 25)))
      obtain ⟨b, hb⟩ : ∃ b, b = w1.heap.size := ⟨_, rfl⟩
      rw [← hb] at HN HG ⊢
      generalize w1.alloc _ = W1 at HG HGB HU HR ⊢
      clear hb
      refine (rf_Int 1048576 _ _ _ _ HR.out (by omega)).mono ?_
      rintro en w2 ⟨rfl, hR, hU⟩
      have hr := rdInt_r (m := 1048576) (l := l0) (e := e0) HR.out.range
      rw [I1.out] at hr hR ⊢
      have u1 : IntKind.u32.wrap v1 = v1 := (IntKind.wrap_u32 _).trans (by simp only at hr; omega)
      replace HG := Aside0.mk (hU.blk HG.out (fun h => by have := HN.out; omega))
      replace HGB := Aside0.mk (hU.blk HGB.out (fun h => by have := HN.out; omega))
      replace HU := Aside0.mk (HU.out.then_ hU)
      replace HR := Aside0.mk hR
      clear hR hU hr
      have q0 := blk_at (i := 0) HG.out rfl
      have q1 := blk_at (i := 1) HG.out rfl
      have q2 := blk_at (i := 2) HG.out rfl
      have q3 := blk_at (i := 3) HG.out rfl
      have q4 := blk_at (i := 4) HG.out rfl
      have f0 := blk_frozen HG.out 0
      have f1 := blk_frozen HG.out 1
      have f2 := blk_frozen HG.out 2
      have f3 := blk_frozen HG.out 3
      have f4 := blk_frozen HG.out 4
      go_wp2_with fail
      clear q0 q1 q2 q3 q4 f0 f1 f2 f3 f4
      obtain ⟨W2, hW⟩ : ∃ W, W = w2.setCell ⟨b, 0, none⟩ (.int .u32 v1) := ⟨_, rfl⟩
      rw [← hW]
      replace HGB : Aside0 (W2.heap[w.heap.size]? = _) := ⟨hW ▸ blk_far HGB.out (p := ⟨b, 0, none⟩) (by have := HN.out; simp only; omega) _⟩
      replace HG : Aside0 (W2.heap[b]? = some (.cells #[.int .u32 v1, .int .i64 1, .int .u32 0, .int .u32 0, .int .u32 0] 25 (0, 0))) := ⟨hW ▸ blk_put HG.out 0 _ rfl⟩
      replace HU : Aside0 (Upd (· = g) w W2) := ⟨hW ▸ HU.out.setCell (p := ⟨b, 0, none⟩) (fun h => by have := HN.out; simp only at h; omega) _⟩
      replace HR : Aside0 (RF W2 g l1 e1) := ⟨hW ▸ HR.out.upd ((Upd.refl (· = b) _).setCell (p := ⟨b, 0, none⟩) (fun _ => rfl) _) (fun h => by have := HN.out; omega)⟩
      clear hW
      have q0 := blk_at (i := 0) HG.out rfl
      have q1 := blk_at (i := 1) HG.out rfl
      have q2 := blk_at (i := 2) HG.out rfl
      have q3 := blk_at (i := 3) HG.out rfl
      have q4 := blk_at (i := 4) HG.out rfl
      have f0 := blk_frozen HG.out 0
      have f1 := blk_frozen HG.out 1
      have f2 := blk_frozen HG.out 2
      have f3 := blk_frozen HG.out 3
      have f4 := blk_frozen HG.out 4
      refine wp_loop_rounds 2 ?_
      rw [rounds_succ]
      go_wp2_with fail
      clear q0 q1 q2 q3 q4 f0 f1 f2 f3 f4
      refine (rf_Int 1048576 _ _ _ _ HR.out (by omega)).mono ?_
      rintro en w3 ⟨rfl, hR, hU⟩
      have hr := rdInt_r (m := 1048576) (l := l1) (e := e1) HR.out.range
      rw [I2.out] at hr hR ⊢
      have u2 : IntKind.u32.wrap v2 = v2 := (IntKind.wrap_u32 _).trans (by simp only at hr; omega)
      replace HG := Aside0.mk (hU.blk HG.out (fun h => by have := HN.out; omega))
      replace HGB := Aside0.mk (hU.blk HGB.out (fun h => by have := HN.out; omega))
      replace HU := Aside0.mk (HU.out.then_ hU)
      replace HR := Aside0.mk hR
      clear hR hU hr
      have q0 := blk_at (i := 0) HG.out rfl
      have q1 := blk_at (i := 1) HG.out rfl
      have q2 := blk_at (i := 2) HG.out rfl
      have q3 := blk_at (i := 3) HG.out rfl
      have q4 := blk_at (i := 4) HG.out rfl
      have f0 := blk_frozen HG.out 0
      have f1 := blk_frozen HG.out 1
      have f2 := blk_frozen HG.out 2
      have f3 := blk_frozen HG.out 3
      have f4 := blk_frozen HG.out 4
      go_wp2_with fail
      clear q0 q1 q2 q3 q4 f0 f1 f2 f3 f4
      obtain ⟨W3, hW⟩ : ∃ W, W = w3.setCell ⟨b, 2, none⟩ (.int .u32 v2) := ⟨_, rfl⟩
      rw [← hW]
      replace HGB : Aside0 (W3.heap[w.heap.size]? = _) := ⟨hW ▸ blk_far HGB.out (p := ⟨b, 2, none⟩) (by have := HN.out; simp only; omega) _⟩
      replace HG : Aside0 (W3.heap[b]? = some (.cells #[.int .u32 v1, .int .i64 1, .int .u32 v2, .int .u32 0, .int .u32 0] 25 (0, 0))) := ⟨hW ▸ blk_put HG.out 2 _ rfl⟩
      replace HU : Aside0 (Upd (· = g) w W3) := ⟨hW ▸ HU.out.setCell (p := ⟨b, 2, none⟩) (fun h => by have := HN.out; simp only at h; omega) _⟩
      replace HR : Aside0 (RF W3 g l2 e2) := ⟨hW ▸ HR.out.upd ((Upd.refl (· = b) _).setCell (p := ⟨b, 2, none⟩) (fun _ => rfl) _) (fun h => by have := HN.out; omega)⟩
      clear hW
      have q0 := blk_at (i := 0) HG.out rfl
      have q1 := blk_at (i := 1) HG.out rfl
      have q2 := blk_at (i := 2) HG.out rfl
      have q3 := blk_at (i := 3) HG.out rfl
      have q4 := blk_at (i := 4) HG.out rfl
      have f0 := blk_frozen HG.out 0
      have f1 := blk_frozen HG.out 1
      have f2 := blk_frozen HG.out 2
      have f3 := blk_frozen HG.out 3
      have f4 := blk_frozen HG.out 4
      rw [rounds_succ]
      have z0 := blk_at (i := 0) HGB.out rfl
      have z1 := blk_at (i := 1) HGB.out rfl
      have z2 := blk_at (i := 2) HGB.out rfl
      have z3 := blk_at (i := 3) HGB.out rfl
      have z4 := blk_at (i := 4) HGB.out rfl
      have y0 := blk_frozen HGB.out 0
      have y1 := blk_frozen HGB.out 1
      have y2 := blk_frozen HGB.out 2
      have y3 := blk_frozen HGB.out 3
      have y4 := blk_frozen HGB.out 4
      have hE := HR.out.err
      go_wp2_with fail
      rw [HX.out]
      exact bodyPost_ret (v := .agg #[.int .u32 0, .int .i64 0, .int .u32 0, .int .u32 0, .int .u32 0]) (by simp [results, Try.results18, go_sem, z0, z1, z2, z3, z4]) rfl ⟨rfl, HR.out.upd (F := (· = w.heap.size)) (upd5 (F := fun x => x = w.heap.size) (g := w.heap.size) (Upd.refl _ _) (fun _ => rfl) _ _ _ _ _) (fun h => by have := HN.out; omega), upd5 HU.out (fun h => absurd h (Nat.lt_irrefl _)) _ _ _ _ _⟩
    · have ce0 : (e2 != 0) = false := by rw [ce]; rfl
      have HX : Aside0 (rdTime l e = ((v1, 1, v2, 0, 0), l2, e2)) := ⟨by unfold rdTime; simp [I0.out, I1.out, I2.out, ce]⟩
      have HCE := Aside0.mk ce
      clear ce
      go_enter Try.func18, Try.ntmps18
      go_wp2_with fail
      refine (rf_Int 3 _ _ _ _ (HR.out.below (below_alloc (Below.refl _ _) _)) (by omega)).mono ?_
      rintro en w1 ⟨rfl, hR, hU⟩
      rw [I0.out] at hR ⊢
      have HGB := Aside0.mk (hU.blk (blk_new w (.cells #[.int .u32 0, .int .i64 0, .int .u32 0, .int .u32 0, .int .u32 0] 25)) (fun h => by have := HL.out; omega))
      have HU := Aside0.mk (((Upd.refl (· = g) w).alloc _).then_ hU)
      have HN : Aside0 (g < w1.heap.size ∧ w.heap.size < w1.heap.size ∧ g ≠ w.heap.size) := ⟨hR.lt, blk_lt HGB.out, by have := HL.out; omega⟩
      replace HR := Aside0.mk hR
      clear hR hU
      go_wp2_with fail
      have HG := Aside0.mk (blk_new w1 (.cells #[.int .u32 0, .int .i64 1, .int .u32 0, .int .u32 0, .int .u32 0] 25))
      replace HGB := Aside0.mk (Base.blk_alloc HGB.out (.cells #[.int .u32 0, .int .i64 1, .int .u32 0, .int .u32 0, .int .u32 0] 25))
      replace HU := Aside0.mk (HU.out.alloc (.cells #[.int .u32 0, .int .i64 1, .int .u32 0, .int .u32 0, .int .u32 0] 25))
      replace HR := Aside0.mk (HR.out.below (below_alloc (Below.refl _ _) (.cells #[.int .u32 0, .int .i64 1, .int .u32 0, .int .u32 0, .int .u32 0] 25)))
      obtain ⟨b, hb⟩ : ∃ b, b = w1.heap.size := ⟨_, rfl⟩
      rw [← hb] at HN HG ⊢
      generalize w1.alloc _ = W1 at HG HGB HU HR ⊢
      clear hb
      refine (rf_Int 1048576 _ _ _ _ HR.out (by omega)).mono ?_
      rintro en w2 ⟨rfl, hR, hU⟩
      have hr := rdInt_r (m := 1048576) (l := l0) (e := e0) HR.out.range
      rw [I1.out] at hr hR ⊢
      have u1 : IntKind.u32.wrap v1 = v1 := (IntKind.wrap_u32 _).trans (by simp only at hr; omega)
      replace HG := Aside0.mk (hU.blk HG.out (fun h => by have := HN.out; omega))
      replace HGB := Aside0.mk (hU.blk HGB.out (fun h => by have := HN.out; omega))
      replace HU := Aside0.mk (HU.out.then_ hU)
      replace HR := Aside0.mk hR
      clear hR hU hr
      have q0 := blk_at (i := 0) HG.out rfl
      have q1 := blk_at (i := 1) HG.out rfl
      have q2 := blk_at (i := 2) HG.out rfl
      have q3 := blk_at (i := 3) HG.out rfl
      have q4 := blk_at (i := 4) HG.out rfl
      have f0 := blk_frozen HG.out 0
      have f1 := blk_frozen HG.out 1
      have f2 := blk_frozen HG.out 2
      have f3 := blk_frozen HG.out 3
      have f4 := blk_frozen HG.out 4
      go_wp2_with fail
      clear q0 q1 q2 q3 q4 f0 f1 f2 f3 f4
      obtain ⟨W2, hW⟩ : ∃ W, W = w2.setCell ⟨b, 0, none⟩ (.int .u32 v1) := ⟨_, rfl⟩
      rw [← hW]
      replace HGB : Aside0 (W2.heap[w.heap.size]? = _) := ⟨hW ▸ blk_far HGB.out (p := ⟨b, 0, none⟩) (by have := HN.out; simp only; omega) _⟩
      replace HG : Aside0 (W2.heap[b]? = some (.cells #[.int .u32 v1, .int .i64 1, .int .u32 0, .int .u32 0, .int .u32 0] 25 (0, 0))) := ⟨hW ▸ blk_put HG.out 0 _ rfl⟩
      replace HU : Aside0 (Upd (· = g) w W2) := ⟨hW ▸ HU.out.setCell (p := ⟨b, 0, none⟩) (fun h => by have := HN.out; simp only at h; omega) _⟩
      replace HR : Aside0 (RF W2 g l1 e1) := ⟨hW ▸ HR.out.upd ((Upd.refl (· = b) _).setCell (p := ⟨b, 0, none⟩) (fun _ => rfl) _) (fun h => by have := HN.out; omega)⟩
      clear hW
      have q0 := blk_at (i := 0) HG.out rfl
      have q1 := blk_at (i := 1) HG.out rfl
      have q2 := blk_at (i := 2) HG.out rfl
      have q3 := blk_at (i := 3) HG.out rfl
      have q4 := blk_at (i := 4) HG.out rfl
      have f0 := blk_frozen HG.out 0
      have f1 := blk_frozen HG.out 1
      have f2 := blk_frozen HG.out 2
      have f3 := blk_frozen HG.out 3
      have f4 := blk_frozen HG.out 4
      refine wp_loop_rounds 2 ?_
      rw [rounds_succ]
      go_wp2_with fail
      clear q0 q1 q2 q3 q4 f0 f1 f2 f3 f4
      refine (rf_Int 1048576 _ _ _ _ HR.out (by omega)).mono ?_
      rintro en w3 ⟨rfl, hR, hU⟩
      have hr := rdInt_r (m := 1048576) (l := l1) (e := e1) HR.out.range
      rw [I2.out] at hr hR ⊢
      have u2 : IntKind.u32.wrap v2 = v2 := (IntKind.wrap_u32 _).trans (by simp only at hr; omega)
      replace HG := Aside0.mk (hU.blk HG.out (fun h => by have := HN.out; omega))
      replace HGB := Aside0.mk (hU.blk HGB.out (fun h => by have := HN.out; omega))
      replace HU := Aside0.mk (HU.out.then_ hU)
      replace HR := Aside0.mk hR
      clear hR hU hr
      have q0 := blk_at (i := 0) HG.out rfl
      have q1 := blk_at (i := 1) HG.out rfl
      have q2 := blk_at (i := 2) HG.out rfl
      have q3 := blk_at (i := 3) HG.out rfl
      have q4 := blk_at (i := 4) HG.out rfl
      have f0 := blk_frozen HG.out 0
      have f1 := blk_frozen HG.out 1
      have f2 := blk_frozen HG.out 2
      have f3 := blk_frozen HG.out 3
      have f4 := blk_frozen HG.out 4
      go_wp2_with fail
      clear q0 q1 q2 q3 q4 f0 f1 f2 f3 f4
      obtain ⟨W3, hW⟩ : ∃ W, W = w3.setCell ⟨b, 2, none⟩ (.int .u32 v2) := ⟨_, rfl⟩
      rw [← hW]
      replace HGB : Aside0 (W3.heap[w.heap.size]? = _) := ⟨hW ▸ blk_far HGB.out (p := ⟨b, 2, none⟩) (by have := HN.out; simp only; omega) _⟩
      replace HG : Aside0 (W3.heap[b]? = some (.cells #[.int .u32 v1, .int .i64 1, .int .u32 v2, .int .u32 0, .int .u32 0] 25 (0, 0))) := ⟨hW ▸ blk_put HG.out 2 _ rfl⟩
      replace HU : Aside0 (Upd (· = g) w W3) := ⟨hW ▸ HU.out.setCell (p := ⟨b, 2, none⟩) (fun h => by have := HN.out; simp only at h; omega) _⟩
      replace HR : Aside0 (RF W3 g l2 e2) := ⟨hW ▸ HR.out.upd ((Upd.refl (· = b) _).setCell (p := ⟨b, 2, none⟩) (fun _ => rfl) _) (fun h => by have := HN.out; omega)⟩
      clear hW
      have q0 := blk_at (i := 0) HG.out rfl
      have q1 := blk_at (i := 1) HG.out rfl
      have q2 := blk_at (i := 2) HG.out rfl
      have q3 := blk_at (i := 3) HG.out rfl
      have q4 := blk_at (i := 4) HG.out rfl
      have f0 := blk_frozen HG.out 0
      have f1 := blk_frozen HG.out 1
      have f2 := blk_frozen HG.out 2
      have f3 := blk_frozen HG.out 3
      have f4 := blk_frozen HG.out 4
      rw [rounds_succ]
      have z0 := blk_at (i := 0) HGB.out rfl
      have z1 := blk_at (i := 1) HGB.out rfl
      have z2 := blk_at (i := 2) HGB.out rfl
      have z3 := blk_at (i := 3) HGB.out rfl
      have z4 := blk_at (i := 4) HGB.out rfl
      have y0 := blk_frozen HGB.out 0
      have y1 := blk_frozen HGB.out 1
      have y2 := blk_frozen HGB.out 2
      have y3 := blk_frozen HGB.out 3
      have y4 := blk_frozen HGB.out 4
      have hE := HR.out.err
      go_wp2_with fail
      rw [HX.out]
      exact bodyPost_ret (v := .agg #[.int .u32 v1, .int .i64 1, .int .u32 v2, .int .u32 0, .int .u32 0]) (by simp [results, Try.results18, go_sem, z0, z1, z2, z3, z4]) rfl ⟨rfl, HR.out.upd (F := (· = w.heap.size)) (upd5 (F := fun x => x = w.heap.size) (g := w.heap.size) (Upd.refl _ _) (fun _ => rfl) _ _ _ _ _) (fun h => by have := HN.out; omega), upd5 HU.out (fun h => absurd h (Nat.lt_irrefl _)) _ _ _ _ _⟩
  · by_cases ce : e3 = 0
    rotate_left
    · have ce0 : (e3 != 0) = true := bne_iff_ne.mpr ce
      have HX : Aside0 (rdTime l e = ((0, 0, 0, 0, 0), l3, e3)) := ⟨by unfold rdTime; simp [I0.out, I1.out, I2.out, I3.out, ce]⟩
      clear ce
      go_enter Try.func18, Try.ntmps18
      go_wp2_with fail
      refine (rf_Int 3 _ _ _ _ (HR.out.below (below_alloc (Below.refl _ _) _)) (by omega)).mono ?_
      rintro en w1 ⟨rfl, hR, hU⟩
      rw [I0.out] at hR ⊢
      have HGB := Aside0.mk (hU.blk (blk_new w (.cells #[.int .u32 0, .int .i64 0, .int .u32 0, .int .u32 0, .int .u32 0] 25)) (fun h => by have := HL.out; omega))
      have HU := Aside0.mk (((Upd.refl (· = g) w).alloc _).then_ hU)
      have HN : Aside0 (g < w1.heap.size ∧ w.heap.size < w1.heap.size ∧ g ≠ w.heap.size) := ⟨hR.lt, blk_lt HGB.out, by have := HL.out; omega⟩
      replace HR := Aside0.mk hR
      clear hR hU
      go_wp2_with fail
      have HG := Aside0.mk (blk_new w1 (.cells #[.int .u32 0, .int .i64 2, .int .u32 0, .int .u32 0, .int .u32 0] 25))
      replace HGB := Aside0.mk (Base.blk_alloc HGB.out (.cells #[.int .u32 0, .int .i64 2, .int .u32 0, .int .u32 0, .int .u32 0] 25))
      replace HU := Aside0.mk (HU.out.alloc (.cells #[.int .u32 0, .int .i64 2, .int .u32 0, .int .u32 0, .int .u32 0] 25))
      replace HR := Aside0.mk (HR.out.below (below_alloc (Below.refl _ _) (.cells #[.int .u32 0, .int .i64 2, .int .u32 0, .int .u32 0, .int .u32 0] 25)))
      obtain ⟨b, hb⟩ : ∃ b, b = w1.heap.size := ⟨_, rfl⟩
      rw [← hb] at HN HG ⊢
      generalize w1.alloc _ = W1 at HG HGB HU HR ⊢
      clear hb
      refine (rf_Int 1048576 _ _ _ _ HR.out (by omega)).mono ?_
      rintro en w2 ⟨rfl, hR, hU⟩
      have hr := rdInt_r (m := 1048576) (l := l0) (e := e0) HR.out.range
      rw [I1.out] at hr hR ⊢
      have u1 : IntKind.u32.wrap v1 = v1 := (IntKind.wrap_u32 _).trans (by simp only at hr; omega)
      replace HG := Aside0.mk (hU.blk HG.out (fun h => by have := HN.out; omega))
      replace HGB := Aside0.mk (hU.blk HGB.out (fun h => by have := HN.out; omega))
      replace HU := Aside0.mk (HU.out.then_ hU)
      replace HR := Aside0.mk hR
      clear hR hU hr
      have q0 := blk_at (i := 0) HG.out rfl
      have q1 := blk_at (i := 1) HG.out rfl
      have q2 := blk_at (i := 2) HG.out rfl
      have q3 := blk_at (i := 3) HG.out rfl
      have q4 := blk_at (i := 4) HG.out rfl
      have f0 := blk_frozen HG.out 0
      have f1 := blk_frozen HG.out 1
      have f2 := blk_frozen HG.out 2
      have f3 := blk_frozen HG.out 3
      have f4 := blk_frozen HG.out 4
      go_wp2_with fail
      clear q0 q1 q2 q3 q4 f0 f1 f2 f3 f4
      obtain ⟨W2, hW⟩ : ∃ W, W = w2.setCell ⟨b, 0, none⟩ (.int .u32 v1) := ⟨_, rfl⟩
      rw [← hW]
      replace HGB : Aside0 (W2.heap[w.heap.size]? = _) := ⟨hW ▸ blk_far HGB.out (p := ⟨b, 0, none⟩) (by have := HN.out; simp only; omega) _⟩
      replace HG : Aside0 (W2.heap[b]? = some (.cells #[.int .u32 v1, .int .i64 2, .int .u32 0, .int .u32 0, .int .u32 0] 25 (0, 0))) := ⟨hW ▸ blk_put HG.out 0 _ rfl⟩
      replace HU : Aside0 (Upd (· = g) w W2) := ⟨hW ▸ HU.out.setCell (p := ⟨b, 0, none⟩) (fun h => by have := HN.out; simp only at h; omega) _⟩
      replace HR : Aside0 (RF W2 g l1 e1) := ⟨hW ▸ HR.out.upd ((Upd.refl (· = b) _).setCell (p := ⟨b, 0, none⟩) (fun _ => rfl) _) (fun h => by have := HN.out; omega)⟩
      clear hW
      have q0 := blk_at (i := 0) HG.out rfl
      have q1 := blk_at (i := 1) HG.out rfl
      have q2 := blk_at (i := 2) HG.out rfl
      have q3 := blk_at (i := 3) HG.out rfl
      have q4 := blk_at (i := 4) HG.out rfl
      have f0 := blk_frozen HG.out 0
      have f1 := blk_frozen HG.out 1
      have f2 := blk_frozen HG.out 2
      have f3 := blk_frozen HG.out 3
      have f4 := blk_frozen HG.out 4
      refine wp_loop_rounds 3 ?_
      rw [rounds_succ]
      go_wp2_with fail
      clear q0 q1 q2 q3 q4 f0 f1 f2 f3 f4
      refine (rf_Int 1048576 _ _ _ _ HR.out (by omega)).mono ?_
      rintro en w3 ⟨rfl, hR, hU⟩
      have hr := rdInt_r (m := 1048576) (l := l1) (e := e1) HR.out.range
      rw [I2.out] at hr hR ⊢
      have u2 : IntKind.u32.wrap v2 = v2 := (IntKind.wrap_u32 _).trans (by simp only at hr; omega)
      replace HG := Aside0.mk (hU.blk HG.out (fun h => by have := HN.out; omega))
      replace HGB := Aside0.mk (hU.blk HGB.out (fun h => by have := HN.out; omega))
      replace HU := Aside0.mk (HU.out.then_ hU)
      replace HR := Aside0.mk hR
      clear hR hU hr
      have q0 := blk_at (i := 0) HG.out rfl
      have q1 := blk_at (i := 1) HG.out rfl
      have q2 := blk_at (i := 2) HG.out rfl
      have q3 := blk_at (i := 3) HG.out rfl
      have q4 := blk_at (i := 4) HG.out rfl
      have f0 := blk_frozen HG.out 0
      have f1 := blk_frozen HG.out 1
      have f2 := blk_frozen HG.out 2
      have f3 := blk_frozen HG.out 3
      have f4 := blk_frozen HG.out 4
      go_wp2_with fail
      clear q0 q1 q2 q3 q4 f0 f1 f2 f3 f4
      obtain ⟨W3, hW⟩ : ∃ W, W = w3.setCell ⟨b, 2, none⟩ (.int .u32 v2) := ⟨_, rfl⟩
      rw [← hW]
      replace HGB : Aside0 (W3.heap[w.heap.size]? = _) := ⟨hW ▸ blk_far HGB.out (p := ⟨b, 2, none⟩) (by have := HN.out; simp only; omega) _⟩
      replace HG : Aside0 (W3.heap[b]? = some (.cells #[.int .u32 v1, .int .i64 2, .int .u32 v2, .int .u32 0, .int .u32 0] 25 (0, 0))) := ⟨hW ▸ blk_put HG.out 2 _ rfl⟩
      replace HU : Aside0 (Upd (· = g) w W3) := ⟨hW ▸ HU.out.setCell (p := ⟨b, 2, none⟩) (fun h => by have := HN.out; simp only at h; omega) _⟩
      replace HR : Aside0 (RF W3 g l2 e2) := ⟨hW ▸ HR.out.upd ((Upd.refl (· = b) _).setCell (p := ⟨b, 2, none⟩) (fun _ => rfl) _) (fun h => by have := HN.out; omega)⟩
      clear hW
      have q0 := blk_at (i := 0) HG.out rfl
      have q1 := blk_at (i := 1) HG.out rfl
      have q2 := blk_at (i := 2) HG.out rfl
      have q3 := blk_at (i := 3) HG.out rfl
      have q4 := blk_at (i := 4) HG.out rfl
      have f0 := blk_frozen HG.out 0
      have f1 := blk_frozen HG.out 1
      have f2 := blk_frozen HG.out 2
      have f3 := blk_frozen HG.out 3
      have f4 := blk_frozen HG.out 4
      rw [rounds_succ]
      go_wp2_with fail
      clear q0 q1 q2 q3 q4 f0 f1 f2 f3 f4
      refine (rf_Int 1048576 _ _ _ _ HR.out (by omega)).mono ?_
      rintro en w4 ⟨rfl, hR, hU⟩
      have hr := rdInt_r (m := 1048576) (l := l2) (e := e2) HR.out.range
      rw [I3.out] at hr hR ⊢
      have u3 : IntKind.u32.wrap v3 = v3 := (IntKind.wrap_u32 _).trans (by simp only at hr; omega)
      replace HG := Aside0.mk (hU.blk HG.out (fun h => by have := HN.out; omega))
      replace HGB := Aside0.mk (hU.blk HGB.out (fun h => by have := HN.out; omega))
      replace HU := Aside0.mk (HU.out.then_ hU)
      replace HR := Aside0.mk hR
      clear hR hU hr
      have q0 := blk_at (i := 0) HG.out rfl
      have q1 := blk_at (i := 1) HG.out rfl
      have q2 := blk_at (i := 2) HG.out rfl
      have q3 := blk_at (i := 3) HG.out rfl
      have q4 := blk_at (i := 4) HG.out rfl
      have f0 := blk_frozen HG.out 0
      have f1 := blk_frozen HG.out 1
      have f2 := blk_frozen HG.out 2
      have f3 := blk_frozen HG.out 3
      have f4 := blk_frozen HG.out 4
      go_wp2_with fail
      clear q0 q1 q2 q3 q4 f0 f1 f2 f3 f4
      obtain ⟨W4, hW⟩ : ∃ W, W = w4.setCell ⟨b, 3, none⟩ (.int .u32 v3) := ⟨_, rfl⟩
      rw [← hW]
      replace HGB : Aside0 (W4.heap[w.heap.size]? = _) := ⟨hW ▸ blk_far HGB.out (p := ⟨b, 3, none⟩) (by have := HN.out; simp only; omega) _⟩
      replace HG : Aside0 (W4.heap[b]? = some (.cells #[.int .u32 v1, .int .i64 2, .int .u32 v2, .int .u32 v3, .int .u32 0] 25 (0, 0))) := ⟨hW ▸ blk_put HG.out 3 _ rfl⟩
      replace HU : Aside0 (Upd (· = g) w W4) := ⟨hW ▸ HU.out.setCell (p := ⟨b, 3, none⟩) (fun h => by have := HN.out; simp only at h; omega) _⟩
      replace HR : Aside0 (RF W4 g l3 e3) := ⟨hW ▸ HR.out.upd ((Upd.refl (· = b) _).setCell (p := ⟨b, 3, none⟩) (fun _ => rfl) _) (fun h => by have := HN.out; omega)⟩
      clear hW
      have q0 := blk_at (i := 0) HG.out rfl
      have q1 := blk_at (i := 1) HG.out rfl
      have q2 := blk_at (i := 2) HG.out rfl
      have q3 := blk_at (i := 3) HG.out rfl
      have q4 := blk_at (i := 4) HG.out rfl
      have f0 := blk_frozen HG.out 0
      have f1 := blk_frozen HG.out 1
      have f2 := blk_frozen HG.out 2
      have f3 := blk_frozen HG.out 3
      have f4 := blk_frozen HG.out 4
      rw [rounds_succ]
      have z0 := blk_at (i := 0) HGB.out rfl
      have z1 := blk_at (i := 1) HGB.out rfl
      have z2 := blk_at (i := 2) HGB.out rfl
      have z3 := blk_at (i := 3) HGB.out rfl
      have z4 := blk_at (i := 4) HGB.out rfl
      have y0 := blk_frozen HGB.out 0
      have y1 := blk_frozen HGB.out 1
      have y2 := blk_frozen HGB.out 2
      have y3 := blk_frozen HGB.out 3
      have y4 := blk_frozen HGB.out 4
      have hE := HR.out.err
      go_wp2_with fail
      rw [HX.out]
      exact bodyPost_ret (v := .agg #[.int .u32 0, .int .i64 0, .int .u32 0, .int .u32 0, .int .u32 0]) (by simp [results, Try.results18, go_sem, z0, z1, z2, z3, z4]) rfl ⟨rfl, HR.out.upd (F := (· = w.heap.size)) (upd5 (F := fun x => x = w.heap.size) (g := w.heap.size) (Upd.refl _ _) (fun _ => rfl) _ _ _ _ _) (fun h => by have := HN.out; omega), upd5 HU.out (fun h => absurd h (Nat.lt_irrefl _)) _ _ _ _ _⟩
    · have ce0 : (e3 != 0) = false := by rw [ce]; rfl
      have HX : Aside0 (rdTime l e = ((v1, 2, v2, v3, 0), l3, e3)) := ⟨by unfold rdTime; simp [I0.out, I1.out, I2.out, I3.out, ce]⟩
      have HCE := Aside0.mk ce
      clear ce
      go_enter Try.func18, Try.ntmps18
      go_wp2_with fail
      refine (rf_Int 3 _ _ _ _ (HR.out.below (below_alloc (Below.refl _ _) _)) (by omega)).mono ?_
      rintro en w1 ⟨rfl, hR, hU⟩
      rw [I0.out] at hR ⊢
      have HGB := Aside0.mk (hU.blk (blk_new w (.cells #[.int .u32 0, .int .i64 0, .int .u32 0, .int .u32 0, .int .u32 0] 25)) (fun h => by have := HL.out; omega))
      have HU := Aside0.mk (((Upd.refl (· = g) w).alloc _).then_ hU)
      have HN : Aside0 (g < w1.heap.size ∧ w.heap.size < w1.heap.size ∧ g ≠ w.heap.size) := ⟨hR.lt, blk_lt HGB.out, by have := HL.out; omega⟩
      replace HR := Aside0.mk hR
      clear hR hU
      go_wp2_with fail
      have HG := Aside0.mk (blk_new w1 (.cells #[.int .u32 0, .int .i64 2, .int .u32 0, .int .u32 0, .int .u32 0] 25))
      replace HGB := Aside0.mk (Base.blk_alloc HGB.out (.cells #[.int .u32 0, .int .i64 2, .int .u32 0, .int .u32 0, .int .u32 0] 25))
      replace HU := Aside0.mk (HU.out.alloc (.cells #[.int .u32 0, .int .i64 2, .int .u32 0, .int .u32 0, .int .u32 0] 25))
      replace HR := Aside0.mk (HR.out.below (below_alloc (Below.refl _ _) (.cells #[.int .u32 0, .int .i64 2, .int .u32 0, .int .u32 0, .int .u32 0] 25)))
      obtain ⟨b, hb⟩ : ∃ b, b = w1.heap.size := ⟨_, rfl⟩
      rw [← hb] at HN HG ⊢
      generalize w1.alloc _ = W1 at HG HGB HU HR ⊢
      clear hb
      refine (rf_Int 1048576 _ _ _ _ HR.out (by omega)).mono ?_
      rintro en w2 ⟨rfl, hR, hU⟩
      have hr := rdInt_r (m := 1048576) (l := l0) (e := e0) HR.out.range
      rw [I1.out] at hr hR ⊢
      have u1 : IntKind.u32.wrap v1 = v1 := (IntKind.wrap_u32 _).trans (by simp only at hr; omega)
      replace HG := Aside0.mk (hU.blk HG.out (fun h => by have := HN.out; omega))
      replace HGB := Aside0.mk (hU.blk HGB.out (fun h => by have := HN.out; omega))
      replace HU := Aside0.mk (HU.out.then_ hU)
      replace HR := Aside0.mk hR
      clear hR hU hr
      have q0 := blk_at (i := 0) HG.out rfl
      have q1 := blk_at (i := 1) HG.out rfl
      have q2 := blk_at (i := 2) HG.out rfl
      have q3 := blk_at (i := 3) HG.out rfl
      have q4 := blk_at (i := 4) HG.out rfl
      have f0 := blk_frozen HG.out 0
      have f1 := blk_frozen HG.out 1
      have f2 := blk_frozen HG.out 2
      have f3 := blk_frozen HG.out 3
      have f4 := blk_frozen HG.out 4
      go_wp2_with fail
      clear q0 q1 q2 q3 q4 f0 f1 f2 f3 f4
      obtain ⟨W2, hW⟩ : ∃ W, W = w2.setCell ⟨b, 0, none⟩ (.int .u32 v1) := ⟨_, rfl⟩
      rw [← hW]
      replace HGB : Aside0 (W2.heap[w.heap.size]? = _) := ⟨hW ▸ blk_far HGB.out (p := ⟨b, 0, none⟩) (by have := HN.out; simp only; omega) _⟩
      replace HG : Aside0 (W2.heap[b]? = some (.cells #[.int .u32 v1, .int .i64 2, .int .u32 0, .int .u32 0, .int .u32 0] 25 (0, 0))) := ⟨hW ▸ blk_put HG.out 0 _ rfl⟩
      replace HU : Aside0 (Upd (· = g) w W2) := ⟨hW ▸ HU.out.setCell (p := ⟨b, 0, none⟩) (fun h => by have := HN.out; simp only at h; omega) _⟩
      replace HR : Aside0 (RF W2 g l1 e1) := ⟨hW ▸ HR.out.upd ((Upd.refl (· = b) _).setCell (p := ⟨b, 0, none⟩) (fun _ => rfl) _) (fun h => by have := HN.out; omega)⟩
      clear hW
      have q0 := blk_at (i := 0) HG.out rfl
      have q1 := blk_at (i := 1) HG.out rfl
      have q2 := blk_at (i := 2) HG.out rfl
      have q3 := blk_at (i := 3) HG.out rfl
      have q4 := blk_at (i := 4) HG.out rfl
      have f0 := blk_frozen HG.out 0
      have f1 := blk_frozen HG.out 1
      have f2 := blk_frozen HG.out 2
      have f3 := blk_frozen HG.out 3
      have f4 := blk_frozen HG.out 4
      refine wp_loop_rounds 3 ?_
      rw [rounds_succ]
      go_wp2_with fail
      clear q0 q1 q2 q3 q4 f0 f1 f2 f3 f4
      refine (rf_Int 1048576 _ _ _ _ HR.out (by omega)).mono ?_
      rintro en w3 ⟨rfl, hR, hU⟩
      have hr := rdInt_r (m := 1048576) (l := l1) (e := e1) HR.out.range
      rw [I2.out] at hr hR ⊢
      have u2 : IntKind.u32.wrap v2 = v2 := (IntKind.wrap_u32 _).trans (by simp only at hr; omega)
      replace HG := Aside0.mk (hU.blk HG.out (fun h => by have := HN.out; omega))
      replace HGB := Aside0.mk (hU.blk HGB.out (fun h => by have := HN.out; omega))
      replace HU := Aside0.mk (HU.out.then_ hU)
      replace HR := Aside0.mk hR
      clear hR hU hr
      have q0 := blk_at (i := 0) HG.out rfl
      have q1 := blk_at (i := 1) HG.out rfl
      have q2 := blk_at (i := 2) HG.out rfl
      have q3 := blk_at (i := 3) HG.out rfl
      have q4 := blk_at (i := 4) HG.out rfl
      have f0 := blk_frozen HG.out 0
      have f1 := blk_frozen HG.out 1
      have f2 := blk_frozen HG.out 2
      have f3 := blk_frozen HG.out 3
      have f4 := blk_frozen HG.out 4
      go_wp2_with fail
      clear q0 q1 q2 q3 q4 f0 f1 f2 f3 f4
      obtain ⟨W3, hW⟩ : ∃ W, W = w3.setCell ⟨b, 2, none⟩ (.int .u32 v2) := ⟨_, rfl⟩
      rw [← hW]
      replace HGB : Aside0 (W3.heap[w.heap.size]? = _) := ⟨hW ▸ blk_far HGB.out (p := ⟨b, 2, none⟩) (by have := HN.out; simp only; omega) _⟩
      replace HG : Aside0 (W3.heap[b]? = some (.cells #[.int .u32 v1, .int .i64 2, .int .u32 v2, .int .u32 0, .int .u32 0] 25 (0, 0))) := ⟨hW ▸ blk_put HG.out 2 _ rfl⟩
      replace HU : Aside0 (Upd (· = g) w W3) := ⟨hW ▸ HU.out.setCell (p := ⟨b, 2, none⟩) (fun h => by have := HN.out; simp only at h; omega) _⟩
      replace HR : Aside0 (RF W3 g l2 e2) := ⟨hW ▸ HR.out.upd ((Upd.refl (· = b) _).setCell (p := ⟨b, 2, none⟩) (fun _ => rfl) _) (fun h => by have := HN.out; omega)⟩
      clear hW
      have q0 := blk_at (i := 0) HG.out rfl
      have q1 := blk_at (i := 1) HG.out rfl
      have q2 := blk_at (i := 2) HG.out rfl
      have q3 := blk_at (i := 3) HG.out rfl
      have q4 := blk_at (i := 4) HG.out rfl
      have f0 := blk_frozen HG.out 0
      have f1 := blk_frozen HG.out 1
      have f2 := blk_frozen HG.out 2
      have f3 := blk_frozen HG.out 3
      have f4 := blk_frozen HG.out 4
      rw [rounds_succ]
      go_wp2_with fail
      clear q0 q1 q2 q3 q4 f0 f1 f2 f3 f4
      refine (rf_Int 1048576 _ _ _ _ HR.out (by omega)).mono ?_
      rintro en w4 ⟨rfl, hR, hU⟩
      have hr := rdInt_r (m := 1048576) (l := l2) (e := e2) HR.out.range
      rw [I3.out] at hr hR ⊢
      have u3 : IntKind.u32.wrap v3 = v3 := (IntKind.wrap_u32 _).trans (by simp only at hr; omega)
      replace HG := Aside0.mk (hU.blk HG.out (fun h => by have := HN.out; omega))
      replace HGB := Aside0.mk (hU.blk HGB.out (fun h => by have := HN.out; omega))
      replace HU := Aside0.mk (HU.out.then_ hU)
      replace HR := Aside0.mk hR
      clear hR hU hr
      have q0 := blk_at (i := 0) HG.out rfl
      have q1 := blk_at (i := 1) HG.out rfl
      have q2 := blk_at (i := 2) HG.out rfl
      have q3 := blk_at (i := 3) HG.out rfl
      have q4 := blk_at (i := 4) HG.out rfl
      have f0 := blk_frozen HG.out 0
      have f1 := blk_frozen HG.out 1
      have f2 := blk_frozen HG.out 2
      have f3 := blk_frozen HG.out 3
      have f4 := blk_frozen HG.out 4
      go_wp2_with fail
      clear q0 q1 q2 q3 q4 f0 f1 f2 f3 f4
      obtain ⟨W4, hW⟩ : ∃ W, W = w4.setCell ⟨b, 3, none⟩ (.int .u32 v3) := ⟨_, rfl⟩
      rw [← hW]
      replace HGB : Aside0 (W4.heap[w.heap.size]? = _) := ⟨hW ▸ blk_far HGB.out (p := ⟨b, 3, none⟩) (by have := HN.out; simp only; omega) _⟩
      replace HG : Aside0 (W4.heap[b]? = some (.cells #[.int .u32 v1, .int .i64 2, .int .u32 v2, .int .u32 v3, .int .u32 0] 25 (0, 0))) := ⟨hW ▸ blk_put HG.out 3 _ rfl⟩
      replace HU : Aside0 (Upd (· = g) w W4) := ⟨hW ▸ HU.out.setCell (p := ⟨b, 3, none⟩) (fun h => by have := HN.out; simp only at h; omega) _⟩
      replace HR : Aside0 (RF W4 g l3 e3) := ⟨hW ▸ HR.out.upd ((Upd.refl (· = b) _).setCell (p := ⟨b, 3, none⟩) (fun _ => rfl) _) (fun h => by have := HN.out; omega)⟩
      clear hW
      have q0 := blk_at (i := 0) HG.out rfl
      have q1 := blk_at (i := 1) HG.out rfl
      have q2 := blk_at (i := 2) HG.out rfl
      have q3 := blk_at (i := 3) HG.out rfl
      have q4 := blk_at (i := 4) HG.out rfl
      have f0 := blk_frozen HG.out 0
      have f1 := blk_frozen HG.out 1
      have f2 := blk_frozen HG.out 2
      have f3 := blk_frozen HG.out 3
      have f4 := blk_frozen HG.out 4
      rw [rounds_succ]
      have z0 := blk_at (i := 0) HGB.out rfl
      have z1 := blk_at (i := 1) HGB.out rfl
      have z2 := blk_at (i := 2) HGB.out rfl
      have z3 := blk_at (i := 3) HGB.out rfl
      have z4 := blk_at (i := 4) HGB.out rfl
      have y0 := blk_frozen HGB.out 0
      have y1 := blk_frozen HGB.out 1
      have y2 := blk_frozen HGB.out 2
      have y3 := blk_frozen HGB.out 3
      have y4 := blk_frozen HGB.out 4
      have hE := HR.out.err
      go_wp2_with fail
      rw [HX.out]
      exact bodyPost_ret (v := .agg #[.int .u32 v1, .int .i64 2, .int .u32 v2, .int .u32 v3, .int .u32 0]) (by simp [results, Try.results18, go_sem, z0, z1, z2, z3, z4]) rfl ⟨rfl, HR.out.upd (F := (· = w.heap.size)) (upd5 (F := fun x => x = w.heap.size) (g := w.heap.size) (Upd.refl _ _) (fun _ => rfl) _ _ _ _ _) (fun h => by have := HN.out; omega), upd5 HU.out (fun h => absurd h (Nat.lt_irrefl _)) _ _ _ _ _⟩
  · by_cases ce : e4 = 0
    rotate_left
    · have ce0 : (e4 != 0) = true := bne_iff_ne.mpr ce
      have HX : Aside0 (rdTime l e = ((0, 0, 0, 0, 0), l4, e4)) := ⟨by unfold rdTime; simp [I0.out, I1.out, I2.out, I3.out, I4.out, ce]⟩
      clear ce
      go_enter Try.func18, Try.ntmps18
      go_wp2_with fail
      refine (rf_Int 3 _ _ _ _ (HR.out.below (below_alloc (Below.refl _ _) _)) (by omega)).mono ?_
      rintro en w1 ⟨rfl, hR, hU⟩
      rw [I0.out] at hR ⊢
      have HGB := Aside0.mk (hU.blk (blk_new w (.cells #[.int .u32 0, .int .i64 0, .int .u32 0, .int .u32 0, .int .u32 0] 25)) (fun h => by have := HL.out; omega))
      have HU := Aside0.mk (((Upd.refl (· = g) w).alloc _).then_ hU)
      have HN : Aside0 (g < w1.heap.size ∧ w.heap.size < w1.heap.size ∧ g ≠ w.heap.size) := ⟨hR.lt, blk_lt HGB.out, by have := HL.out; omega⟩
      replace HR := Aside0.mk hR
      clear hR hU
      go_wp2_with fail
      have HG := Aside0.mk (blk_new w1 (.cells #[.int .u32 0, .int .i64 3, .int .u32 0, .int .u32 0, .int .u32 0] 25))
      replace HGB := Aside0.mk (Base.blk_alloc HGB.out (.cells #[.int .u32 0, .int .i64 3, .int .u32 0, .int .u32 0, .int .u32 0] 25))
      replace HU := Aside0.mk (HU.out.alloc (.cells #[.int .u32 0, .int .i64 3, .int .u32 0, .int .u32 0, .int .u32 0] 25))
      replace HR := Aside0.mk (HR.out.below (below_alloc (Below.refl _ _) (.cells #[.int .u32 0, .int .i64 3, .int .u32 0, .int .u32 0, .int .u32 0] 25)))
      obtain ⟨b, hb⟩ : ∃ b, b = w1.heap.size := ⟨_, rfl⟩
      rw [← hb] at HN HG ⊢
      generalize w1.alloc _ = W1 at HG HGB HU HR ⊢
      clear hb
      refine (rf_Int 1048576 _ _ _ _ HR.out (by omega)).mono ?_
      rintro en w2 ⟨rfl, hR, hU⟩
      have hr := rdInt_r (m := 1048576) (l := l0) (e := e0) HR.out.range
      rw [I1.out] at hr hR ⊢
      have u1 : IntKind.u32.wrap v1 = v1 := (IntKind.wrap_u32 _).trans (by simp only at hr; omega)
      replace HG := Aside0.mk (hU.blk HG.out (fun h => by have := HN.out; omega))
      replace HGB := Aside0.mk (hU.blk HGB.out (fun h => by have := HN.out; omega))
      replace HU := Aside0.mk (HU.out.then_ hU)
      replace HR := Aside0.mk hR
      clear hR hU hr
      have q0 := blk_at (i := 0) HG.out rfl
      have q1 := blk_at (i := 1) HG.out rfl
      have q2 := blk_at (i := 2) HG.out rfl
      have q3 := blk_at (i := 3) HG.out rfl
      have q4 := blk_at (i := 4) HG.out rfl
      have f0 := blk_frozen HG.out 0
      have f1 := blk_frozen HG.out 1
      have f2 := blk_frozen HG.out 2
      have f3 := blk_frozen HG.out 3
      have f4 := blk_frozen HG.out 4
      go_wp2_with fail
      clear q0 q1 q2 q3 q4 f0 f1 f2 f3 f4
      obtain ⟨W2, hW⟩ : ∃ W, W = w2.setCell ⟨b, 0, none⟩ (.int .u32 v1) := ⟨_, rfl⟩
      rw [← hW]
      replace HGB : Aside0 (W2.heap[w.heap.size]? = _) := ⟨hW ▸ blk_far HGB.out (p := ⟨b, 0, none⟩) (by have := HN.out; simp only; omega) _⟩
      replace HG : Aside0 (W2.heap[b]? = some (.cells #[.int .u32 v1, .int .i64 3, .int .u32 0, .int .u32 0, .int .u32 0] 25 (0, 0))) := ⟨hW ▸ blk_put HG.out 0 _ rfl⟩
      replace HU : Aside0 (Upd (· = g) w W2) := ⟨hW ▸ HU.out.setCell (p := ⟨b, 0, none⟩) (fun h => by have := HN.out; simp only at h; omega) _⟩
      replace HR : Aside0 (RF W2 g l1 e1) := ⟨hW ▸ HR.out.upd ((Upd.refl (· = b) _).setCell (p := ⟨b, 0, none⟩) (fun _ => rfl) _) (fun h => by have := HN.out; omega)⟩
      clear hW
      have q0 := blk_at (i := 0) HG.out rfl
      have q1 := blk_at (i := 1) HG.out rfl
      have q2 := blk_at (i := 2) HG.out rfl
      have q3 := blk_at (i := 3) HG.out rfl
      have q4 := blk_at (i := 4) HG.out rfl
      have f0 := blk_frozen HG.out 0
      have f1 := blk_frozen HG.out 1
      have f2 := blk_frozen HG.out 2
      have f3 := blk_frozen HG.out 3
      have f4 := blk_frozen HG.out 4
      refine wp_loop_rounds 4 ?_
      rw [rounds_succ]
      go_wp2_with fail
      clear q0 q1 q2 q3 q4 f0 f1 f2 f3 f4
      refine (rf_Int 1048576 _ _ _ _ HR.out (by omega)).mono ?_
      rintro en w3 ⟨rfl, hR, hU⟩
      have hr := rdInt_r (m := 1048576) (l := l1) (e := e1) HR.out.range
      rw [I2.out] at hr hR ⊢
      have u2 : IntKind.u32.wrap v2 = v2 := (IntKind.wrap_u32 _).trans (by simp only at hr; omega)
      replace HG := Aside0.mk (hU.blk HG.out (fun h => by have := HN.out; omega))
      replace HGB := Aside0.mk (hU.blk HGB.out (fun h => by have := HN.out; omega))
      replace HU := Aside0.mk (HU.out.then_ hU)
      replace HR := Aside0.mk hR
      clear hR hU hr
      have q0 := blk_at (i := 0) HG.out rfl
      have q1 := blk_at (i := 1) HG.out rfl
      have q2 := blk_at (i := 2) HG.out rfl
      have q3 := blk_at (i := 3) HG.out rfl
      have q4 := blk_at (i := 4) HG.out rfl
      have f0 := blk_frozen HG.out 0
      have f1 := blk_frozen HG.out 1
      have f2 := blk_frozen HG.out 2
      have f3 := blk_frozen HG.out 3
      have f4 := blk_frozen HG.out 4
      go_wp2_with fail
      clear q0 q1 q2 q3 q4 f0 f1 f2 f3 f4
      obtain ⟨W3, hW⟩ : ∃ W, W = w3.setCell ⟨b, 2, none⟩ (.int .u32 v2) := ⟨_, rfl⟩
      rw [← hW]
      replace HGB : Aside0 (W3.heap[w.heap.size]? = _) := ⟨hW ▸ blk_far HGB.out (p := ⟨b, 2, none⟩) (by have := HN.out; simp only; omega) _⟩
      replace HG : Aside0 (W3.heap[b]? = some (.cells #[.int .u32 v1, .int .i64 3, .int .u32 v2, .int .u32 0, .int .u32 0] 25 (0, 0))) := ⟨hW ▸ blk_put HG.out 2 _ rfl⟩
      replace HU : Aside0 (Upd (· = g) w W3) := ⟨hW ▸ HU.out.setCell (p := ⟨b, 2, none⟩) (fun h => by have := HN.out; simp only at h; omega) _⟩
      replace HR : Aside0 (RF W3 g l2 e2) := ⟨hW ▸ HR.out.upd ((Upd.refl (· = b) _).setCell (p := ⟨b, 2, none⟩) (fun _ => rfl) _) (fun h => by have := HN.out; omega)⟩
      clear hW
      have q0 := blk_at (i := 0) HG.out rfl
      have q1 := blk_at (i := 1) HG.out rfl
      have q2 := blk_at (i := 2) HG.out rfl
      have q3 := blk_at (i := 3) HG.out rfl
      have q4 := blk_at (i := 4) HG.out rfl
      have f0 := blk_frozen HG.out 0
      have f1 := blk_frozen HG.out 1
      have f2 := blk_frozen HG.out 2
      have f3 := blk_frozen HG.out 3
      have f4 := blk_frozen HG.out 4
      rw [rounds_succ]
      go_wp2_with fail
      clear q0 q1 q2 q3 q4 f0 f1 f2 f3 f4
      refine (rf_Int 1048576 _ _ _ _ HR.out (by omega)).mono ?_
      rintro en w4 ⟨rfl, hR, hU⟩
      have hr := rdInt_r (m := 1048576) (l := l2) (e := e2) HR.out.range
      rw [I3.out] at hr hR ⊢
      have u3 : IntKind.u32.wrap v3 = v3 := (IntKind.wrap_u32 _).trans (by simp only at hr; omega)
      replace HG := Aside0.mk (hU.blk HG.out (fun h => by have := HN.out; omega))
      replace HGB := Aside0.mk (hU.blk HGB.out (fun h => by have := HN.out; omega))
      replace HU := Aside0.mk (HU.out.then_ hU)
      replace HR := Aside0.mk hR
      clear hR hU hr
      have q0 := blk_at (i := 0) HG.out rfl
      have q1 := blk_at (i := 1) HG.out rfl
      have q2 := blk_at (i := 2) HG.out rfl
      have q3 := blk_at (i := 3) HG.out rfl
      have q4 := blk_at (i := 4) HG.out rfl
      have f0 := blk_frozen HG.out 0
      have f1 := blk_frozen HG.out 1
      have f2 := blk_frozen HG.out 2
      have f3 := blk_frozen HG.out 3
      have f4 := blk_frozen HG.out 4
      go_wp2_with fail
      clear q0 q1 q2 q3 q4 f0 f1 f2 f3 f4
      obtain ⟨W4, hW⟩ : ∃ W, W = w4.setCell ⟨b, 3, none⟩ (.int .u32 v3) := ⟨_, rfl⟩
      rw [← hW]
      replace HGB : Aside0 (W4.heap[w.heap.size]? = _) := ⟨hW ▸ blk_far HGB.out (p := ⟨b, 3, none⟩) (by have := HN.out; simp only; omega) _⟩
      replace HG : Aside0 (W4.heap[b]? = some (.cells #[.int .u32 v1, .int .i64 3, .int .u32 v2, .int .u32 v3, .int .u32 0] 25 (0, 0))) := ⟨hW ▸ blk_put HG.out 3 _ rfl⟩
      replace HU : Aside0 (Upd (· = g) w W4) := ⟨hW ▸ HU.out.setCell (p := ⟨b, 3, none⟩) (fun h => by have := HN.out; simp only at h; omega) _⟩
      replace HR : Aside0 (RF W4 g l3 e3) := ⟨hW ▸ HR.out.upd ((Upd.refl (· = b) _).setCell (p := ⟨b, 3, none⟩) (fun _ => rfl) _) (fun h => by have := HN.out; omega)⟩
      clear hW
      have q0 := blk_at (i := 0) HG.out rfl
      have q1 := blk_at (i := 1) HG.out rfl
      have q2 := blk_at (i := 2) HG.out rfl
      have q3 := blk_at (i := 3) HG.out rfl
      have q4 := blk_at (i := 4) HG.out rfl
      have f0 := blk_frozen HG.out 0
      have f1 := blk_frozen HG.out 1
      have f2 := blk_frozen HG.out 2
      have f3 := blk_frozen HG.out 3
      have f4 := blk_frozen HG.out 4
      rw [rounds_succ]
      go_wp2_with fail
      clear q0 q1 q2 q3 q4 f0 f1 f2 f3 f4
      refine (rf_Int 1048576 _ _ _ _ HR.out (by omega)).mono ?_
      rintro en w5 ⟨rfl, hR, hU⟩
      have hr := rdInt_r (m := 1048576) (l := l3) (e := e3) HR.out.range
      rw [I4.out] at hr hR ⊢
      have u4 : IntKind.u32.wrap v4 = v4 := (IntKind.wrap_u32 _).trans (by simp only at hr; omega)
      replace HG := Aside0.mk (hU.blk HG.out (fun h => by have := HN.out; omega))
      replace HGB := Aside0.mk (hU.blk HGB.out (fun h => by have := HN.out; omega))
      replace HU := Aside0.mk (HU.out.then_ hU)
      replace HR := Aside0.mk hR
      clear hR hU hr
      have q0 := blk_at (i := 0) HG.out rfl
      have q1 := blk_at (i := 1) HG.out rfl
      have q2 := blk_at (i := 2) HG.out rfl
      have q3 := blk_at (i := 3) HG.out rfl
      have q4 := blk_at (i := 4) HG.out rfl
      have f0 := blk_frozen HG.out 0
      have f1 := blk_frozen HG.out 1
      have f2 := blk_frozen HG.out 2
      have f3 := blk_frozen HG.out 3
      have f4 := blk_frozen HG.out 4
      go_wp2_with fail
      clear q0 q1 q2 q3 q4 f0 f1 f2 f3 f4
      obtain ⟨W5, hW⟩ : ∃ W, W = w5.setCell ⟨b, 4, none⟩ (.int .u32 v4) := ⟨_, rfl⟩
      rw [← hW]
      replace HGB : Aside0 (W5.heap[w.heap.size]? = _) := ⟨hW ▸ blk_far HGB.out (p := ⟨b, 4, none⟩) (by have := HN.out; simp only; omega) _⟩
      replace HG : Aside0 (W5.heap[b]? = some (.cells #[.int .u32 v1, .int .i64 3, .int .u32 v2, .int .u32 v3, .int .u32 v4] 25 (0, 0))) := ⟨hW ▸ blk_put HG.out 4 _ rfl⟩
      replace HU : Aside0 (Upd (· = g) w W5) := ⟨hW ▸ HU.out.setCell (p := ⟨b, 4, none⟩) (fun h => by have := HN.out; simp only at h; omega) _⟩
      replace HR : Aside0 (RF W5 g l4 e4) := ⟨hW ▸ HR.out.upd ((Upd.refl (· = b) _).setCell (p := ⟨b, 4, none⟩) (fun _ => rfl) _) (fun h => by have := HN.out; omega)⟩
      clear hW
      have q0 := blk_at (i := 0) HG.out rfl
      have q1 := blk_at (i := 1) HG.out rfl
      have q2 := blk_at (i := 2) HG.out rfl
      have q3 := blk_at (i := 3) HG.out rfl
      have q4 := blk_at (i := 4) HG.out rfl
      have f0 := blk_frozen HG.out 0
      have f1 := blk_frozen HG.out 1
      have f2 := blk_frozen HG.out 2
      have f3 := blk_frozen HG.out 3
      have f4 := blk_frozen HG.out 4
      rw [rounds_succ]
      have z0 := blk_at (i := 0) HGB.out rfl
      have z1 := blk_at (i := 1) HGB.out rfl
      have z2 := blk_at (i := 2) HGB.out rfl
      have z3 := blk_at (i := 3) HGB.out rfl
      have z4 := blk_at (i := 4) HGB.out rfl
      have y0 := blk_frozen HGB.out 0
      have y1 := blk_frozen HGB.out 1
      have y2 := blk_frozen HGB.out 2
      have y3 := blk_frozen HGB.out 3
      have y4 := blk_frozen HGB.out 4
      have hE := HR.out.err
      go_wp2_with fail
      rw [HX.out]
      exact bodyPost_ret (v := .agg #[.int .u32 0, .int .i64 0, .int .u32 0, .int .u32 0, .int .u32 0]) (by simp [results, Try.results18, go_sem, z0, z1, z2, z3, z4]) rfl ⟨rfl, HR.out.upd (F := (· = w.heap.size)) (upd5 (F := fun x => x = w.heap.size) (g := w.heap.size) (Upd.refl _ _) (fun _ => rfl) _ _ _ _ _) (fun h => by have := HN.out; omega), upd5 HU.out (fun h => absurd h (Nat.lt_irrefl _)) _ _ _ _ _⟩
    · have ce0 : (e4 != 0) = false := by rw [ce]; rfl
      have HX : Aside0 (rdTime l e = ((v1, 3, v2, v3, v4), l4, e4)) := ⟨by unfold rdTime; simp [I0.out, I1.out, I2.out, I3.out, I4.out, ce]⟩
      have HCE := Aside0.mk ce
      clear ce
      go_enter Try.func18, Try.ntmps18
      go_wp2_with fail
      refine (rf_Int 3 _ _ _ _ (HR.out.below (below_alloc (Below.refl _ _) _)) (by omega)).mono ?_
      rintro en w1 ⟨rfl, hR, hU⟩
      rw [I0.out] at hR ⊢
      have HGB := Aside0.mk (hU.blk (blk_new w (.cells #[.int .u32 0, .int .i64 0, .int .u32 0, .int .u32 0, .int .u32 0] 25)) (fun h => by have := HL.out; omega))
      have HU := Aside0.mk (((Upd.refl (· = g) w).alloc _).then_ hU)
      have HN : Aside0 (g < w1.heap.size ∧ w.heap.size < w1.heap.size ∧ g ≠ w.heap.size) := ⟨hR.lt, blk_lt HGB.out, by have := HL.out; omega⟩
      replace HR := Aside0.mk hR
      clear hR hU
      go_wp2_with fail
      have HG := Aside0.mk (blk_new w1 (.cells #[.int .u32 0, .int .i64 3, .int .u32 0, .int .u32 0, .int .u32 0] 25))
      replace HGB := Aside0.mk (Base.blk_alloc HGB.out (.cells #[.int .u32 0, .int .i64 3, .int .u32 0, .int .u32 0, .int .u32 0] 25))
      replace HU := Aside0.mk (HU.out.alloc (.cells #[.int .u32 0, .int .i64 3, .int .u32 0, .int .u32 0, .int .u32 0] 25))
      replace HR := Aside0.mk (HR.out.below (below_alloc (Below.refl _ _) (.cells #[.int .u32 0, .int .i64 3, .int .u32 0, .int .u32 0, .int .u32 0] 25)))
      obtain ⟨b, hb⟩ : ∃ b, b = w1.heap.size := ⟨_, rfl⟩
      rw [← hb] at HN HG ⊢
      generalize w1.alloc _ = W1 at HG HGB HU HR ⊢
      clear hb
      refine (rf_Int 1048576 _ _ _ _ HR.out (by omega)).mono ?_
      rintro en w2 ⟨rfl, hR, hU⟩
      have hr := rdInt_r (m := 1048576) (l := l0) (e := e0) HR.out.range
      rw [I1.out] at hr hR ⊢
      have u1 : IntKind.u32.wrap v1 = v1 := (IntKind.wrap_u32 _).trans (by simp only at hr; omega)
      replace HG := Aside0.mk (hU.blk HG.out (fun h => by have := HN.out; omega))
      replace HGB := Aside0.mk (hU.blk HGB.out (fun h => by have := HN.out; omega))
      replace HU := Aside0.mk (HU.out.then_ hU)
      replace HR := Aside0.mk hR
      clear hR hU hr
      have q0 := blk_at (i := 0) HG.out rfl
      have q1 := blk_at (i := 1) HG.out rfl
      have q2 := blk_at (i := 2) HG.out rfl
      have q3 := blk_at (i := 3) HG.out rfl
      have q4 := blk_at (i := 4) HG.out rfl
      have f0 := blk_frozen HG.out 0
      have f1 := blk_frozen HG.out 1
      have f2 := blk_frozen HG.out 2
      have f3 := blk_frozen HG.out 3
      have f4 := blk_frozen HG.out 4
      go_wp2_with fail
      clear q0 q1 q2 q3 q4 f0 f1 f2 f3 f4
      obtain ⟨W2, hW⟩ : ∃ W, W = w2.setCell ⟨b, 0, none⟩ (.int .u32 v1) := ⟨_, rfl⟩
      rw [← hW]
      replace HGB : Aside0 (W2.heap[w.heap.size]? = _) := ⟨hW ▸ blk_far HGB.out (p := ⟨b, 0, none⟩) (by have := HN.out; simp only; omega) _⟩
      replace HG : Aside0 (W2.heap[b]? = some (.cells #[.int .u32 v1, .int .i64 3, .int .u32 0, .int .u32 0, .int .u32 0] 25 (0, 0))) := ⟨hW ▸ blk_put HG.out 0 _ rfl⟩
      replace HU : Aside0 (Upd (· = g) w W2) := ⟨hW ▸ HU.out.setCell (p := ⟨b, 0, none⟩) (fun h => by have := HN.out; simp only at h; omega) _⟩
      replace HR : Aside0 (RF W2 g l1 e1) := ⟨hW ▸ HR.out.upd ((Upd.refl (· = b) _).setCell (p := ⟨b, 0, none⟩) (fun _ => rfl) _) (fun h => by have := HN.out; omega)⟩
      clear hW
      have q0 := blk_at (i := 0) HG.out rfl
      have q1 := blk_at (i := 1) HG.out rfl
      have q2 := blk_at (i := 2) HG.out rfl
      have q3 := blk_at (i := 3) HG.out rfl
      have q4 := blk_at (i := 4) HG.out rfl
      have f0 := blk_frozen HG.out 0
      have f1 := blk_frozen HG.out 1
      have f2 := blk_frozen HG.out 2
      have f3 := blk_frozen HG.out 3
      have f4 := blk_frozen HG.out 4
      refine wp_loop_rounds 4 ?_
      rw [rounds_succ]
      go_wp2_with fail
      clear q0 q1 q2 q3 q4 f0 f1 f2 f3 f4
      refine (rf_Int 1048576 _ _ _ _ HR.out (by omega)).mono ?_
      rintro en w3 ⟨rfl, hR, hU⟩
      have hr := rdInt_r (m := 1048576) (l := l1) (e := e1) HR.out.range
      rw [I2.out] at hr hR ⊢
      have u2 : IntKind.u32.wrap v2 = v2 := (IntKind.wrap_u32 _).trans (by simp only at hr; omega)
      replace HG := Aside0.mk (hU.blk HG.out (fun h => by have := HN.out; omega))
      replace HGB := Aside0.mk (hU.blk HGB.out (fun h => by have := HN.out; omega))
      replace HU := Aside0.mk (HU.out.then_ hU)
      replace HR := Aside0.mk hR
      clear hR hU hr
      have q0 := blk_at (i := 0) HG.out rfl
      have q1 := blk_at (i := 1) HG.out rfl
      have q2 := blk_at (i := 2) HG.out rfl
      have q3 := blk_at (i := 3) HG.out rfl
      have q4 := blk_at (i := 4) HG.out rfl
      have f0 := blk_frozen HG.out 0
      have f1 := blk_frozen HG.out 1
      have f2 := blk_frozen HG.out 2
      have f3 := blk_frozen HG.out 3
      have f4 := blk_frozen HG.out 4
      go_wp2_with fail
      clear q0 q1 q2 q3 q4 f0 f1 f2 f3 f4
      obtain ⟨W3, hW⟩ : ∃ W, W = w3.setCell ⟨b, 2, none⟩ (.int .u32 v2) := ⟨_, rfl⟩
      rw [← hW]
      replace HGB : Aside0 (W3.heap[w.heap.size]? = _) := ⟨hW ▸ blk_far HGB.out (p := ⟨b, 2, none⟩) (by have := HN.out; simp only; omega) _⟩
      replace HG : Aside0 (W3.heap[b]? = some (.cells #[.int .u32 v1, .int .i64 3, .int .u32 v2, .int .u32 0, .int .u32 0] 25 (0, 0))) := ⟨hW ▸ blk_put HG.out 2 _ rfl⟩
      replace HU : Aside0 (Upd (· = g) w W3) := ⟨hW ▸ HU.out.setCell (p := ⟨b, 2, none⟩) (fun h => by have := HN.out; simp only at h; omega) _⟩
      replace HR : Aside0 (RF W3 g l2 e2) := ⟨hW ▸ HR.out.upd ((Upd.refl (· = b) _).setCell (p := ⟨b, 2, none⟩) (fun _ => rfl) _) (fun h => by have := HN.out; omega)⟩
      clear hW
      have q0 := blk_at (i := 0) HG.out rfl
      have q1 := blk_at (i := 1) HG.out rfl
      have q2 := blk_at (i := 2) HG.out rfl
      have q3 := blk_at (i := 3) HG.out rfl
      have q4 := blk_at (i := 4) HG.out rfl
      have f0 := blk_frozen HG.out 0
      have f1 := blk_frozen HG.out 1
      have f2 := blk_frozen HG.out 2
      have f3 := blk_frozen HG.out 3
      have f4 := blk_frozen HG.out 4
      rw [rounds_succ]
      go_wp2_with fail
      clear q0 q1 q2 q3 q4 f0 f1 f2 f3 f4
      refine (rf_Int 1048576 _ _ _ _ HR.out (by omega)).mono ?_
      rintro en w4 ⟨rfl, hR, hU⟩
      have hr := rdInt_r (m := 1048576) (l := l2) (e := e2) HR.out.range
      rw [I3.out] at hr hR ⊢
      have u3 : IntKind.u32.wrap v3 = v3 := (IntKind.wrap_u32 _).trans (by simp only at hr; omega)
      replace HG := Aside0.mk (hU.blk HG.out (fun h => by have := HN.out; omega))
      replace HGB := Aside0.mk (hU.blk HGB.out (fun h => by have := HN.out; omega))
      replace HU := Aside0.mk (HU.out.then_ hU)
      replace HR := Aside0.mk hR
      clear hR hU hr
      have q0 := blk_at (i := 0) HG.out rfl
      have q1 := blk_at (i := 1) HG.out rfl
      have q2 := blk_at (i := 2) HG.out rfl
      have q3 := blk_at (i := 3) HG.out rfl
      have q4 := blk_at (i := 4) HG.out rfl
      have f0 := blk_frozen HG.out 0
      have f1 := blk_frozen HG.out 1
      have f2 := blk_frozen HG.out 2
      have f3 := blk_frozen HG.out 3
      have f4 := blk_frozen HG.out 4
      go_wp2_with fail
      clear q0 q1 q2 q3 q4 f0 f1 f2 f3 f4
      obtain ⟨W4, hW⟩ : ∃ W, W = w4.setCell ⟨b, 3, none⟩ (.int .u32 v3) := ⟨_, rfl⟩
      rw [← hW]
      replace HGB : Aside0 (W4.heap[w.heap.size]? = _) := ⟨hW ▸ blk_far HGB.out (p := ⟨b, 3, none⟩) (by have := HN.out; simp only; omega) _⟩
      replace HG : Aside0 (W4.heap[b]? = some (.cells #[.int .u32 v1, .int .i64 3, .int .u32 v2, .int .u32 v3, .int .u32 0] 25 (0, 0))) := ⟨hW ▸ blk_put HG.out 3 _ rfl⟩
      replace HU : Aside0 (Upd (· = g) w W4) := ⟨hW ▸ HU.out.setCell (p := ⟨b, 3, none⟩) (fun h => by have := HN.out; simp only at h; omega) _⟩
      replace HR : Aside0 (RF W4 g l3 e3) := ⟨hW ▸ HR.out.upd ((Upd.refl (· = b) _).setCell (p := ⟨b, 3, none⟩) (fun _ => rfl) _) (fun h => by have := HN.out; omega)⟩
      clear hW
      have q0 := blk_at (i := 0) HG.out rfl
      have q1 := blk_at (i := 1) HG.out rfl
      have q2 := blk_at (i := 2) HG.out rfl
      have q3 := blk_at (i := 3) HG.out rfl
      have q4 := blk_at (i := 4) HG.out rfl
      have f0 := blk_frozen HG.out 0
      have f1 := blk_frozen HG.out 1
      have f2 := blk_frozen HG.out 2
      have f3 := blk_frozen HG.out 3
      have f4 := blk_frozen HG.out 4
      rw [rounds_succ]
      go_wp2_with fail
      clear q0 q1 q2 q3 q4 f0 f1 f2 f3 f4
      refine (rf_Int 1048576 _ _ _ _ HR.out (by omega)).mono ?_
      rintro en w5 ⟨rfl, hR, hU⟩
      have hr := rdInt_r (m := 1048576) (l := l3) (e := e3) HR.out.range
      rw [I4.out] at hr hR ⊢
      have u4 : IntKind.u32.wrap v4 = v4 := (IntKind.wrap_u32 _).trans (by simp only at hr; omega)
      replace HG := Aside0.mk (hU.blk HG.out (fun h => by have := HN.out; omega))
      replace HGB := Aside0.mk (hU.blk HGB.out (fun h => by have := HN.out; omega))
      replace HU := Aside0.mk (HU.out.then_ hU)
      replace HR := Aside0.mk hR
      clear hR hU hr
      have q0 := blk_at (i := 0) HG.out rfl
      have q1 := blk_at (i := 1) HG.out rfl
      have q2 := blk_at (i := 2) HG.out rfl
      have q3 := blk_at (i := 3) HG.out rfl
      have q4 := blk_at (i := 4) HG.out rfl
      have f0 := blk_frozen HG.out 0
      have f1 := blk_frozen HG.out 1
      have f2 := blk_frozen HG.out 2
      have f3 := blk_frozen HG.out 3
      have f4 := blk_frozen HG.out 4
      go_wp2_with fail
      clear q0 q1 q2 q3 q4 f0 f1 f2 f3 f4
      obtain ⟨W5, hW⟩ : ∃ W, W = w5.setCell ⟨b, 4, none⟩ (.int .u32 v4) := ⟨_, rfl⟩
      rw [← hW]
      replace HGB : Aside0 (W5.heap[w.heap.size]? = _) := ⟨hW ▸ blk_far HGB.out (p := ⟨b, 4, none⟩) (by have := HN.out; simp only; omega) _⟩
      replace HG : Aside0 (W5.heap[b]? = some (.cells #[.int .u32 v1, .int .i64 3, .int .u32 v2, .int .u32 v3, .int .u32 v4] 25 (0, 0))) := ⟨hW ▸ blk_put HG.out 4 _ rfl⟩
      replace HU : Aside0 (Upd (· = g) w W5) := ⟨hW ▸ HU.out.setCell (p := ⟨b, 4, none⟩) (fun h => by have := HN.out; simp only at h; omega) _⟩
      replace HR : Aside0 (RF W5 g l4 e4) := ⟨hW ▸ HR.out.upd ((Upd.refl (· = b) _).setCell (p := ⟨b, 4, none⟩) (fun _ => rfl) _) (fun h => by have := HN.out; omega)⟩
      clear hW
      have q0 := blk_at (i := 0) HG.out rfl
      have q1 := blk_at (i := 1) HG.out rfl
      have q2 := blk_at (i := 2) HG.out rfl
      have q3 := blk_at (i := 3) HG.out rfl
      have q4 := blk_at (i := 4) HG.out rfl
      have f0 := blk_frozen HG.out 0
      have f1 := blk_frozen HG.out 1
      have f2 := blk_frozen HG.out 2
      have f3 := blk_frozen HG.out 3
      have f4 := blk_frozen HG.out 4
      rw [rounds_succ]
      have z0 := blk_at (i := 0) HGB.out rfl
      have z1 := blk_at (i := 1) HGB.out rfl
      have z2 := blk_at (i := 2) HGB.out rfl
      have z3 := blk_at (i := 3) HGB.out rfl
      have z4 := blk_at (i := 4) HGB.out rfl
      have y0 := blk_frozen HGB.out 0
      have y1 := blk_frozen HGB.out 1
      have y2 := blk_frozen HGB.out 2
      have y3 := blk_frozen HGB.out 3
      have y4 := blk_frozen HGB.out 4
      have hE := HR.out.err
      go_wp2_with fail
      rw [HX.out]
      exact bodyPost_ret (v := .agg #[.int .u32 v1, .int .i64 3, .int .u32 v2, .int .u32 v3, .int .u32 v4]) (by simp [results, Try.results18, go_sem, z0, z1, z2, z3, z4]) rfl ⟨rfl, HR.out.upd (F := (· = w.heap.size)) (upd5 (F := fun x => x = w.heap.size) (g := w.heap.size) (Upd.refl _ _) (fun _ => rfl) _ _ _ _ _) (fun h => by have := HN.out; omega), upd5 HU.out (fun h => absurd h (Nat.lt_irrefl _)) _ _ _ _ _⟩
end Go.Proofs.Ytjkbgcdhhiakmaa.C02
