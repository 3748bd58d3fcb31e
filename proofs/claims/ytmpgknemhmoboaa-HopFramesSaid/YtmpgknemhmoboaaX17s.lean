import Derived.Test.YtmpgknemhmoboaaX17r
/- The document's answer for the frame of bytes, in the form that the printed texts call. -/
namespace Go.Proofs.Ytmpgknemhmoboaa.Ext
set_option linter.unusedSimpArgs false
open Go.RowKit Go.Proofs.YtmpgknemhmoboaaW.PrintWords Go.Proofs.YtmpgknemhmoboaaW.PrintLast Go.Proofs.YtmpgknemhmoboaaW.PrintMore Go.Proofs.Ytmpgknemhmoboaa.Base Go.Proofs.Ytmpgknemhmoboaa.M02 Go.Proofs.Ytmpgknemhmoboaa.C03 Go.Proofs.Ytmpgknemhmoboaa.C02S

theorem upd5 {F : Nat → Prop} {a w : World} {g : Nat} (h : Upd F a w) (hp : g < a.heap.size → F g) (u0 u1 u2 u3 u4 : Value) : Upd F a (((((w.setCell ⟨g, 0, none⟩ u0).setCell ⟨g, 1, none⟩ u1).setCell ⟨g, 2, none⟩ u2).setCell ⟨g, 3, none⟩ u3).setCell ⟨g, 4, none⟩ u4) :=
  ((((h.setCell (p := ⟨g, 0, none⟩) hp u0).setCell (p := ⟨g, 1, none⟩) hp u1).setCell (p := ⟨g, 2, none⟩) hp u2).setCell (p := ⟨g, 3, none⟩) hp u3).setCell (p := ⟨g, 4, none⟩) hp u4
/-- The frame of bytes, and what is wrong. -/
def readF (s : ByteArray) : (Int × Int × Int × Int × ByteArray) × Int :=
  if opens s = true then
    let x := rdInt 2 (bytesOf (opened s)) 0
    let y := rdInt 1000 x.2.1 x.2.2
    let z := rdInt 1073741824 y.2.1 y.2.2
    let u := rdInt 1099511627776 z.2.1 z.2.2
    if u.2.2 ≠ 0 ∨ (writeF x.1 y.1 z.1 u.1 (strOfNums u.2.1)).2 ≠ 0 then ((0, 0, 0, 0, ⟨#[]⟩), 6) else ((x.1, y.1, z.1, u.1, strOfNums u.2.1), 0)
  else ((0, 0, 0, 0, ⟨#[]⟩), 12)
def fv (x : Int × Int × Int × Int × ByteArray) : Value := .agg #[.int .i64 x.1, .int .i64 x.2.1, .int .i64 x.2.2.1, .int .i64 x.2.2.2.1, .string x.2.2.2.2]
set_option maxRecDepth 100000 in
set_option maxHeartbeats 8000000 in
theorem ref17_Read_c (s : ByteArray) (w : World) (hs : s.size ≤ 140737488351232) :
    Calls Try.prog 41 #[.string s] w fun en w' => en = .returned (.tuple #[fv (readF s).1, .int .i64 (readF s).2]) ∧ Below w.heap.size w w' := by
  have HB := Aside0.mk (Below.refl w.heap.size w)
  have CO := Aside0.mk (fun w1 => C03.ref_Open s w1 hs)
  obtain ⟨t, ht⟩ : ∃ t, t = opened s := ⟨_, rfl⟩
  have hts : t.size ≤ 140737488351232 := by
    rw [ht]; unfold opened
    split
    · rw [ByteArray.size_extract]; omega
    · exact Nat.zero_le _
  cases ho : opens s with
  | false =>
    have HX : Aside0 (readF s = ((0, 0, 0, 0, ⟨#[]⟩), 12)) := ⟨by unfold readF; rw [ho]; rfl⟩
    rw [ho, ← ht] at CO
    clear ho ht hts hs
    go_enter Try.func41, Try.ntmps41
    go_wp2_with fail
    have HGB := Aside0.mk (blk_new w (.cells #[.int .i64 0, .int .i64 0, .int .i64 0, .int .i64 0, .string ⟨#[]⟩] 69))
    replace HB := Aside0.mk (below_alloc (o := .cells #[.int .i64 0, .int .i64 0, .int .i64 0, .int .i64 0, .string ⟨#[]⟩] 69) HB.out)
    refine (CO.out _).mono ?_
    rintro e w1 ⟨rfl, hb⟩
    replace HGB := Aside0.mk (blk_below HGB.out hb)
    replace HB := Aside0.mk (below_step HB.out hb)
    clear hb
    have z0 := blk_at (i := 0) HGB.out rfl
    have z1 := blk_at (i := 1) HGB.out rfl
    have z2 := blk_at (i := 2) HGB.out rfl
    have z3 := blk_at (i := 3) HGB.out rfl
    have z4 := blk_at (i := 4) HGB.out rfl
    have y0 := blk_frozen HGB.out 0
    have y1 := blk_frozen HGB.out 1
    have y2 := blk_frozen HGB.out 2
    have y3 := blk_frozen HGB.out 3
    have y4 := blk_frozen HGB.out 4
    go_wp2
    rw [HX.out]
    exact bodyPost_ret (v := .tuple #[.agg #[.int .i64 0, .int .i64 0, .int .i64 0, .int .i64 0, .string ⟨#[]⟩], .int .i64 12]) (by simp [results, Try.results41, go_sem, z0, z1, z2, z3, z4]) rfl ⟨rfl, (upd5 (F := fun _ => False) (g := w.heap.size) (a := w) (Upd.of_below HB.out) (fun h => absurd h (Nat.lt_irrefl _)) _ _ _ _ _).below (Nat.le_refl _) (fun _ _ h => h)⟩
  | true =>
    obtain ⟨⟨v0, l0, e0⟩, hI0⟩ : ∃ x, x = rdInt 2 (bytesOf t) 0 := ⟨_, rfl⟩
    have I0 := Aside0.mk hI0.symm
    obtain ⟨⟨v1, l1, e1⟩, hI1⟩ : ∃ x, x = rdInt 1000 l0 e0 := ⟨_, rfl⟩
    have I1 := Aside0.mk hI1.symm
    obtain ⟨⟨v2, l2, e2⟩, hI2⟩ : ∃ x, x = rdInt 1073741824 l1 e1 := ⟨_, rfl⟩
    have I2 := Aside0.mk hI2.symm
    obtain ⟨⟨v3, l3, e3⟩, hI3⟩ : ∃ x, x = rdInt 1099511627776 l2 e2 := ⟨_, rfl⟩
    have I3 := Aside0.mk hI3.symm
    obtain ⟨⟨wb, we⟩, hW⟩ : ∃ x, x = writeF v0 v1 v2 v3 (strOfNums l3) := ⟨_, rfl⟩
    have HWF := Aside0.mk hW.symm
    have HRF : Aside0 (readF s = if e3 ≠ 0 ∨ we ≠ 0 then ((0, 0, 0, 0, ⟨#[]⟩), 6) else ((v0, v1, v2, v3, strOfNums l3), 0)) := ⟨by unfold readF; rw [if_pos ho, ← ht]; simp only [I0.out, I1.out, I2.out, I3.out, HWF.out]⟩
    have HT := Aside0.mk hts
    rw [ho, ← ht] at CO
    clear ho ht hts hs hI0 hI1 hI2 hI3 hW
    by_cases c1 : e3 = 0
    rotate_left
    · have b1 : (e3 != 0) = true := bne_iff_ne.mpr c1
      have HX : Aside0 (readF s = ((0, 0, 0, 0, ⟨#[]⟩), 6)) := ⟨by rw [HRF.out]; simp [c1]⟩
      clear c1
      go_enter Try.func41, Try.ntmps41
      go_wp2_with fail
      have HGB := Aside0.mk (blk_new w (.cells #[.int .i64 0, .int .i64 0, .int .i64 0, .int .i64 0, .string ⟨#[]⟩] 69))
      replace HB := Aside0.mk (below_alloc (o := .cells #[.int .i64 0, .int .i64 0, .int .i64 0, .int .i64 0, .string ⟨#[]⟩] 69) HB.out)
      refine (CO.out _).mono ?_
      rintro e w1 ⟨rfl, hb⟩
      replace HGB := Aside0.mk (blk_below HGB.out hb)
      replace HB := Aside0.mk (below_step HB.out hb)
      clear hb
      go_wp2_with fail
      have HR : Aside0 (RF t (w1.alloc (.cells #[.string t, .int .i64 0, .int .i64 0] 113)) w1.heap.size (bytesOf t) 0) := ⟨⟨0, blk_new _ _, by omega, by omega, rfl, HT.out⟩⟩
      have HN0 : Aside0 (w.heap.size < w1.heap.size) := ⟨blk_lt HGB.out⟩
      replace HGB := Aside0.mk (Base.blk_alloc HGB.out (.cells #[.string t, .int .i64 0, .int .i64 0] 113))
      replace HB := Aside0.mk (below_alloc (o := (.cells #[.string t, .int .i64 0, .int .i64 0] 113)) HB.out)
      obtain ⟨g, hg⟩ : ∃ g, g = w1.heap.size := ⟨_, rfl⟩
      rw [← hg] at HR HN0 ⊢
      generalize w1.alloc _ = w2 at HR HGB HB ⊢
      clear hg
      refine (rf_Int 2 _ _ _ _ _ HR.out (by omega)).mono ?_
      rintro en wr0 ⟨rfl, hR, hU⟩
      rw [I0.out] at hR ⊢
      replace HR : Aside0 (RF t wr0 g l0 e0) := ⟨hR⟩
      replace HGB := Aside0.mk (hU.blk HGB.out (fun h => by have := HN0.out; omega))
      replace HB := Aside0.mk (hU.after HB.out HB.out.size (fun i hi he => by have := HN0.out; omega))
      clear hR hU
      have HN : Aside0 (g < wr0.heap.size ∧ w.heap.size < wr0.heap.size) := ⟨HR.out.lt, blk_lt HGB.out⟩
      go_wp2_with fail
      have HG := Aside0.mk (blk_new wr0 (.cells #[.int .i64 v0, .int .i64 0, .int .i64 0, .int .i64 0, .string ⟨#[]⟩] 69))
      replace HGB := Aside0.mk (Base.blk_alloc HGB.out (.cells #[.int .i64 v0, .int .i64 0, .int .i64 0, .int .i64 0, .string ⟨#[]⟩] 69))
      replace HB := Aside0.mk (below_alloc (o := (.cells #[.int .i64 v0, .int .i64 0, .int .i64 0, .int .i64 0, .string ⟨#[]⟩] 69)) HB.out)
      replace HR := Aside0.mk (HR.out.below (below_alloc (Below.refl _ _) (.cells #[.int .i64 v0, .int .i64 0, .int .i64 0, .int .i64 0, .string ⟨#[]⟩] 69)))
      obtain ⟨b, hb⟩ : ∃ b, b = wr0.heap.size := ⟨_, rfl⟩
      rw [← hb] at HN HG ⊢
      generalize wr0.alloc _ = W0 at HG HGB HB HR ⊢
      clear hb
      refine (rf_Int 1000 _ _ _ _ _ HR.out (by omega)).mono ?_
      rintro en wr1 ⟨rfl, hR, hU⟩
      rw [I1.out] at hR ⊢
      replace HR : Aside0 (RF t wr1 g l1 e1) := ⟨hR⟩
      replace HGB := Aside0.mk (hU.blk HGB.out (fun h => by have := HN0.out; omega))
      replace HB := Aside0.mk (hU.after HB.out HB.out.size (fun i hi he => by have := HN0.out; omega))
      replace HG := Aside0.mk (hU.blk HG.out (fun h => by have := HN.out; omega))
      clear hR hU
      have q0 := blk_at (i := 0) HG.out rfl
      have q1 := blk_at (i := 1) HG.out rfl
      have q2 := blk_at (i := 2) HG.out rfl
      have q3 := blk_at (i := 3) HG.out rfl
      have q4 := blk_at (i := 4) HG.out rfl
      have f0 := blk_frozen HG.out 0
      have f1 := blk_frozen HG.out 1
      have f2 := blk_frozen HG.out 2
      have f3 := blk_frozen HG.out 3
      have f4 := blk_frozen HG.out 4
      go_wp2_with fail
      clear q0 q1 q2 q3 q4 f0 f1 f2 f3 f4
      obtain ⟨W1, hW⟩ : ∃ W, W = wr1.setCell ⟨b, 1, none⟩ (.int .i64 v1) := ⟨_, rfl⟩
      rw [← hW]
      replace HGB : Aside0 (W1.heap[w.heap.size]? = _) := ⟨hW ▸ blk_far HGB.out (p := ⟨b, 1, none⟩) (by have := HN.out; simp only; omega) _⟩
      replace HG : Aside0 (W1.heap[b]? = some (.cells #[.int .i64 v0, .int .i64 v1, .int .i64 0, .int .i64 0, .string ⟨#[]⟩] 69 (0, 0))) := ⟨hW ▸ blk_put HG.out 1 _ rfl⟩
      replace HB : Aside0 (Below w.heap.size w W1) := ⟨hW ▸ below_set HB.out (by have := HN.out; omega)⟩
      replace HR : Aside0 (RF t W1 g l1 e1) := ⟨hW ▸ HR.out.upd ((Upd.refl (· = b) _).setCell (p := ⟨b, 1, none⟩) (fun _ => rfl) _) (fun h => by have := HN.out; omega)⟩
      clear hW
      refine (rf_Int 1073741824 _ _ _ _ _ HR.out (by omega)).mono ?_
      rintro en wr2 ⟨rfl, hR, hU⟩
      rw [I2.out] at hR ⊢
      replace HR : Aside0 (RF t wr2 g l2 e2) := ⟨hR⟩
      replace HGB := Aside0.mk (hU.blk HGB.out (fun h => by have := HN0.out; omega))
      replace HB := Aside0.mk (hU.after HB.out HB.out.size (fun i hi he => by have := HN0.out; omega))
      replace HG := Aside0.mk (hU.blk HG.out (fun h => by have := HN.out; omega))
      clear hR hU
      have q0 := blk_at (i := 0) HG.out rfl
      have q1 := blk_at (i := 1) HG.out rfl
      have q2 := blk_at (i := 2) HG.out rfl
      have q3 := blk_at (i := 3) HG.out rfl
      have q4 := blk_at (i := 4) HG.out rfl
      have f0 := blk_frozen HG.out 0
      have f1 := blk_frozen HG.out 1
      have f2 := blk_frozen HG.out 2
      have f3 := blk_frozen HG.out 3
      have f4 := blk_frozen HG.out 4
      go_wp2_with fail
      clear q0 q1 q2 q3 q4 f0 f1 f2 f3 f4
      obtain ⟨W2, hW⟩ : ∃ W, W = wr2.setCell ⟨b, 2, none⟩ (.int .i64 v2) := ⟨_, rfl⟩
      rw [← hW]
      replace HGB : Aside0 (W2.heap[w.heap.size]? = _) := ⟨hW ▸ blk_far HGB.out (p := ⟨b, 2, none⟩) (by have := HN.out; simp only; omega) _⟩
      replace HG : Aside0 (W2.heap[b]? = some (.cells #[.int .i64 v0, .int .i64 v1, .int .i64 v2, .int .i64 0, .string ⟨#[]⟩] 69 (0, 0))) := ⟨hW ▸ blk_put HG.out 2 _ rfl⟩
      replace HB : Aside0 (Below w.heap.size w W2) := ⟨hW ▸ below_set HB.out (by have := HN.out; omega)⟩
      replace HR : Aside0 (RF t W2 g l2 e2) := ⟨hW ▸ HR.out.upd ((Upd.refl (· = b) _).setCell (p := ⟨b, 2, none⟩) (fun _ => rfl) _) (fun h => by have := HN.out; omega)⟩
      clear hW
      refine (rf_Int 1099511627776 _ _ _ _ _ HR.out (by omega)).mono ?_
      rintro en wr3 ⟨rfl, hR, hU⟩
      rw [I3.out] at hR ⊢
      replace HR : Aside0 (RF t wr3 g l3 e3) := ⟨hR⟩
      replace HGB := Aside0.mk (hU.blk HGB.out (fun h => by have := HN0.out; omega))
      replace HB := Aside0.mk (hU.after HB.out HB.out.size (fun i hi he => by have := HN0.out; omega))
      replace HG := Aside0.mk (hU.blk HG.out (fun h => by have := HN.out; omega))
      clear hR hU
      have q0 := blk_at (i := 0) HG.out rfl
      have q1 := blk_at (i := 1) HG.out rfl
      have q2 := blk_at (i := 2) HG.out rfl
      have q3 := blk_at (i := 3) HG.out rfl
      have q4 := blk_at (i := 4) HG.out rfl
      have f0 := blk_frozen HG.out 0
      have f1 := blk_frozen HG.out 1
      have f2 := blk_frozen HG.out 2
      have f3 := blk_frozen HG.out 3
      have f4 := blk_frozen HG.out 4
      obtain ⟨at_, hGR, ha0, ha1, hal, _⟩ := HR.out
      have r0 := blk_at hGR (i := 1) rfl
      have r1 := blk_at hGR (i := 2) rfl
      have HE : Aside0 (t.extract at_.toNat t.size = strOfNums l3) := ⟨by rw [← hal, ← C02.strOfNums_bytesOf (t.extract at_.toNat t.size), C02.bytesOf_extract, List.take_of_length_le (by rw [bytesOf_length]; exact Nat.le_refl _)]⟩
      have HL3 : Aside0 ((strOfNums l3).size ≤ 140737488351232) := ⟨by have := HT.out; rw [← HE.out, ByteArray.size_extract]; omega⟩
      have a0 : (0 ≤ at_) = True := eq_true ha0
      have a1 : (at_ ≤ (t.size : Int)) = True := eq_true ha1
      have hne : (b == g) = false := beq_eq_false_iff_ne.mpr (by have := HN.out; omega)
      have HGR := Aside0.mk hGR
      clear hGR ha0 ha1 hal
      go_wp2_with fail
      clear q0 q1 q2 q3 q4 f0 f1 f2 f3 f4
      clear r0 r1
      rw [HE.out]
      obtain ⟨W4, hW⟩ : ∃ W, W = (wr3.setCell ⟨b, 3, none⟩ (.int .i64 v3)).setCell ⟨b, 4, none⟩ (.string (strOfNums l3)) := ⟨_, rfl⟩
      rw [← hW]
      replace HGB : Aside0 (W4.heap[w.heap.size]? = _) := ⟨hW ▸ blk_far (blk_far HGB.out (p := ⟨b, 3, none⟩) (by have := HN.out; simp only; omega) _) (p := ⟨b, 4, none⟩) (by have := HN.out; simp only; omega) _⟩
      replace HGR : Aside0 (W4.heap[g]? = _) := ⟨hW ▸ blk_far (blk_far HGR.out (p := ⟨b, 3, none⟩) (by have := HN.out; simp only; omega) _) (p := ⟨b, 4, none⟩) (by have := HN.out; simp only; omega) _⟩
      replace HG : Aside0 (W4.heap[b]? = some (.cells #[.int .i64 v0, .int .i64 v1, .int .i64 v2, .int .i64 v3, .string (strOfNums l3)] 69 (0, 0))) := ⟨hW ▸ blk_put (blk_put (cs' := #[.int .i64 v0, .int .i64 v1, .int .i64 v2, .int .i64 v3, .string ⟨#[]⟩]) HG.out 3 _ rfl) 4 _ rfl⟩
      replace HB : Aside0 (Below w.heap.size w W4) := ⟨hW ▸ below_set (below_set HB.out (by have := HN.out; omega)) (by have := HN.out; omega)⟩
      clear hW HR
      refine (ref17_Write.calls v0 v1 v2 v3 (strOfNums l3) wb we _ ((if_pos HL3.out).trans (by rw [HWF.out]))).mono ?_
      rintro en w5 ⟨rfl, hb⟩
      replace HGB := Aside0.mk (blk_below HGB.out hb)
      replace HGR := Aside0.mk (blk_below HGR.out hb)
      replace HG := Aside0.mk (blk_below HG.out hb)
      replace HB := Aside0.mk (below_step HB.out hb)
      clear hb
      have q0 := blk_at (i := 0) HG.out rfl
      have q1 := blk_at (i := 1) HG.out rfl
      have q2 := blk_at (i := 2) HG.out rfl
      have q3 := blk_at (i := 3) HG.out rfl
      have q4 := blk_at (i := 4) HG.out rfl
      have f0 := blk_frozen HG.out 0
      have f1 := blk_frozen HG.out 1
      have f2 := blk_frozen HG.out 2
      have f3 := blk_frozen HG.out 3
      have f4 := blk_frozen HG.out 4
      have z0 := blk_at (i := 0) HGB.out rfl
      have z1 := blk_at (i := 1) HGB.out rfl
      have z2 := blk_at (i := 2) HGB.out rfl
      have z3 := blk_at (i := 3) HGB.out rfl
      have z4 := blk_at (i := 4) HGB.out rfl
      have y0 := blk_frozen HGB.out 0
      have y1 := blk_frozen HGB.out 1
      have y2 := blk_frozen HGB.out 2
      have y3 := blk_frozen HGB.out 3
      have y4 := blk_frozen HGB.out 4
      have r1 := blk_at (i := 2) HGR.out rfl
      go_wp2
      rw [HX.out]
      exact bodyPost_ret (v := .tuple #[.agg #[.int .i64 0, .int .i64 0, .int .i64 0, .int .i64 0, .string ⟨#[]⟩], .int .i64 6]) (by simp [results, Try.results41, go_sem, z0, z1, z2, z3, z4]) rfl ⟨rfl, (upd5 (F := fun _ => False) (g := w.heap.size) (a := w) (Upd.of_below HB.out) (fun h => absurd h (Nat.lt_irrefl _)) _ _ _ _ _).below (Nat.le_refl _) (fun _ _ h => h)⟩
    · by_cases c2 : we = 0
      rotate_left
      · have b1 : (e3 != 0) = false := by rw [c1]; rfl
        have b2 : (we != 0) = true := bne_iff_ne.mpr c2
        have HX : Aside0 (readF s = ((0, 0, 0, 0, ⟨#[]⟩), 6)) := ⟨by rw [HRF.out]; simp [c1, c2]⟩
        clear c1 c2
        go_enter Try.func41, Try.ntmps41
        go_wp2_with fail
        have HGB := Aside0.mk (blk_new w (.cells #[.int .i64 0, .int .i64 0, .int .i64 0, .int .i64 0, .string ⟨#[]⟩] 69))
        replace HB := Aside0.mk (below_alloc (o := .cells #[.int .i64 0, .int .i64 0, .int .i64 0, .int .i64 0, .string ⟨#[]⟩] 69) HB.out)
        refine (CO.out _).mono ?_
        rintro e w1 ⟨rfl, hb⟩
        replace HGB := Aside0.mk (blk_below HGB.out hb)
        replace HB := Aside0.mk (below_step HB.out hb)
        clear hb
        go_wp2_with fail
        have HR : Aside0 (RF t (w1.alloc (.cells #[.string t, .int .i64 0, .int .i64 0] 113)) w1.heap.size (bytesOf t) 0) := ⟨⟨0, blk_new _ _, by omega, by omega, rfl, HT.out⟩⟩
        have HN0 : Aside0 (w.heap.size < w1.heap.size) := ⟨blk_lt HGB.out⟩
        replace HGB := Aside0.mk (Base.blk_alloc HGB.out (.cells #[.string t, .int .i64 0, .int .i64 0] 113))
        replace HB := Aside0.mk (below_alloc (o := (.cells #[.string t, .int .i64 0, .int .i64 0] 113)) HB.out)
        obtain ⟨g, hg⟩ : ∃ g, g = w1.heap.size := ⟨_, rfl⟩
        rw [← hg] at HR HN0 ⊢
        generalize w1.alloc _ = w2 at HR HGB HB ⊢
        clear hg
        refine (rf_Int 2 _ _ _ _ _ HR.out (by omega)).mono ?_
        rintro en wr0 ⟨rfl, hR, hU⟩
        rw [I0.out] at hR ⊢
        replace HR : Aside0 (RF t wr0 g l0 e0) := ⟨hR⟩
        replace HGB := Aside0.mk (hU.blk HGB.out (fun h => by have := HN0.out; omega))
        replace HB := Aside0.mk (hU.after HB.out HB.out.size (fun i hi he => by have := HN0.out; omega))
        clear hR hU
        have HN : Aside0 (g < wr0.heap.size ∧ w.heap.size < wr0.heap.size) := ⟨HR.out.lt, blk_lt HGB.out⟩
        go_wp2_with fail
        have HG := Aside0.mk (blk_new wr0 (.cells #[.int .i64 v0, .int .i64 0, .int .i64 0, .int .i64 0, .string ⟨#[]⟩] 69))
        replace HGB := Aside0.mk (Base.blk_alloc HGB.out (.cells #[.int .i64 v0, .int .i64 0, .int .i64 0, .int .i64 0, .string ⟨#[]⟩] 69))
        replace HB := Aside0.mk (below_alloc (o := (.cells #[.int .i64 v0, .int .i64 0, .int .i64 0, .int .i64 0, .string ⟨#[]⟩] 69)) HB.out)
        replace HR := Aside0.mk (HR.out.below (below_alloc (Below.refl _ _) (.cells #[.int .i64 v0, .int .i64 0, .int .i64 0, .int .i64 0, .string ⟨#[]⟩] 69)))
        obtain ⟨b, hb⟩ : ∃ b, b = wr0.heap.size := ⟨_, rfl⟩
        rw [← hb] at HN HG ⊢
        generalize wr0.alloc _ = W0 at HG HGB HB HR ⊢
        clear hb
        refine (rf_Int 1000 _ _ _ _ _ HR.out (by omega)).mono ?_
        rintro en wr1 ⟨rfl, hR, hU⟩
        rw [I1.out] at hR ⊢
        replace HR : Aside0 (RF t wr1 g l1 e1) := ⟨hR⟩
        replace HGB := Aside0.mk (hU.blk HGB.out (fun h => by have := HN0.out; omega))
        replace HB := Aside0.mk (hU.after HB.out HB.out.size (fun i hi he => by have := HN0.out; omega))
        replace HG := Aside0.mk (hU.blk HG.out (fun h => by have := HN.out; omega))
        clear hR hU
        have q0 := blk_at (i := 0) HG.out rfl
        have q1 := blk_at (i := 1) HG.out rfl
        have q2 := blk_at (i := 2) HG.out rfl
        have q3 := blk_at (i := 3) HG.out rfl
        have q4 := blk_at (i := 4) HG.out rfl
        have f0 := blk_frozen HG.out 0
        have f1 := blk_frozen HG.out 1
        have f2 := blk_frozen HG.out 2
        have f3 := blk_frozen HG.out 3
        have f4 := blk_frozen HG.out 4
        go_wp2_with fail
        clear q0 q1 q2 q3 q4 f0 f1 f2 f3 f4
        obtain ⟨W1, hW⟩ : ∃ W, W = wr1.setCell ⟨b, 1, none⟩ (.int .i64 v1) := ⟨_, rfl⟩
        rw [← hW]
        replace HGB : Aside0 (W1.heap[w.heap.size]? = _) := ⟨hW ▸ blk_far HGB.out (p := ⟨b, 1, none⟩) (by have := HN.out; simp only; omega) _⟩
        replace HG : Aside0 (W1.heap[b]? = some (.cells #[.int .i64 v0, .int .i64 v1, .int .i64 0, .int .i64 0, .string ⟨#[]⟩] 69 (0, 0))) := ⟨hW ▸ blk_put HG.out 1 _ rfl⟩
        replace HB : Aside0 (Below w.heap.size w W1) := ⟨hW ▸ below_set HB.out (by have := HN.out; omega)⟩
        replace HR : Aside0 (RF t W1 g l1 e1) := ⟨hW ▸ HR.out.upd ((Upd.refl (· = b) _).setCell (p := ⟨b, 1, none⟩) (fun _ => rfl) _) (fun h => by have := HN.out; omega)⟩
        clear hW
        refine (rf_Int 1073741824 _ _ _ _ _ HR.out (by omega)).mono ?_
        rintro en wr2 ⟨rfl, hR, hU⟩
        rw [I2.out] at hR ⊢
        replace HR : Aside0 (RF t wr2 g l2 e2) := ⟨hR⟩
        replace HGB := Aside0.mk (hU.blk HGB.out (fun h => by have := HN0.out; omega))
        replace HB := Aside0.mk (hU.after HB.out HB.out.size (fun i hi he => by have := HN0.out; omega))
        replace HG := Aside0.mk (hU.blk HG.out (fun h => by have := HN.out; omega))
        clear hR hU
        have q0 := blk_at (i := 0) HG.out rfl
        have q1 := blk_at (i := 1) HG.out rfl
        have q2 := blk_at (i := 2) HG.out rfl
        have q3 := blk_at (i := 3) HG.out rfl
        have q4 := blk_at (i := 4) HG.out rfl
        have f0 := blk_frozen HG.out 0
        have f1 := blk_frozen HG.out 1
        have f2 := blk_frozen HG.out 2
        have f3 := blk_frozen HG.out 3
        have f4 := blk_frozen HG.out 4
        go_wp2_with fail
        clear q0 q1 q2 q3 q4 f0 f1 f2 f3 f4
        obtain ⟨W2, hW⟩ : ∃ W, W = wr2.setCell ⟨b, 2, none⟩ (.int .i64 v2) := ⟨_, rfl⟩
        rw [← hW]
        replace HGB : Aside0 (W2.heap[w.heap.size]? = _) := ⟨hW ▸ blk_far HGB.out (p := ⟨b, 2, none⟩) (by have := HN.out; simp only; omega) _⟩
        replace HG : Aside0 (W2.heap[b]? = some (.cells #[.int .i64 v0, .int .i64 v1, .int .i64 v2, .int .i64 0, .string ⟨#[]⟩] 69 (0, 0))) := ⟨hW ▸ blk_put HG.out 2 _ rfl⟩
        replace HB : Aside0 (Below w.heap.size w W2) := ⟨hW ▸ below_set HB.out (by have := HN.out; omega)⟩
        replace HR : Aside0 (RF t W2 g l2 e2) := ⟨hW ▸ HR.out.upd ((Upd.refl (· = b) _).setCell (p := ⟨b, 2, none⟩) (fun _ => rfl) _) (fun h => by have := HN.out; omega)⟩
        clear hW
        refine (rf_Int 1099511627776 _ _ _ _ _ HR.out (by omega)).mono ?_
        rintro en wr3 ⟨rfl, hR, hU⟩
        rw [I3.out] at hR ⊢
        replace HR : Aside0 (RF t wr3 g l3 e3) := ⟨hR⟩
        replace HGB := Aside0.mk (hU.blk HGB.out (fun h => by have := HN0.out; omega))
        replace HB := Aside0.mk (hU.after HB.out HB.out.size (fun i hi he => by have := HN0.out; omega))
        replace HG := Aside0.mk (hU.blk HG.out (fun h => by have := HN.out; omega))
        clear hR hU
        have q0 := blk_at (i := 0) HG.out rfl
        have q1 := blk_at (i := 1) HG.out rfl
        have q2 := blk_at (i := 2) HG.out rfl
        have q3 := blk_at (i := 3) HG.out rfl
        have q4 := blk_at (i := 4) HG.out rfl
        have f0 := blk_frozen HG.out 0
        have f1 := blk_frozen HG.out 1
        have f2 := blk_frozen HG.out 2
        have f3 := blk_frozen HG.out 3
        have f4 := blk_frozen HG.out 4
        obtain ⟨at_, hGR, ha0, ha1, hal, _⟩ := HR.out
        have r0 := blk_at hGR (i := 1) rfl
        have r1 := blk_at hGR (i := 2) rfl
        have HE : Aside0 (t.extract at_.toNat t.size = strOfNums l3) := ⟨by rw [← hal, ← C02.strOfNums_bytesOf (t.extract at_.toNat t.size), C02.bytesOf_extract, List.take_of_length_le (by rw [bytesOf_length]; exact Nat.le_refl _)]⟩
        have HL3 : Aside0 ((strOfNums l3).size ≤ 140737488351232) := ⟨by have := HT.out; rw [← HE.out, ByteArray.size_extract]; omega⟩
        have a0 : (0 ≤ at_) = True := eq_true ha0
        have a1 : (at_ ≤ (t.size : Int)) = True := eq_true ha1
        have hne : (b == g) = false := beq_eq_false_iff_ne.mpr (by have := HN.out; omega)
        have HGR := Aside0.mk hGR
        clear hGR ha0 ha1 hal
        go_wp2_with fail
        clear q0 q1 q2 q3 q4 f0 f1 f2 f3 f4
        clear r0 r1
        rw [HE.out]
        obtain ⟨W4, hW⟩ : ∃ W, W = (wr3.setCell ⟨b, 3, none⟩ (.int .i64 v3)).setCell ⟨b, 4, none⟩ (.string (strOfNums l3)) := ⟨_, rfl⟩
        rw [← hW]
        replace HGB : Aside0 (W4.heap[w.heap.size]? = _) := ⟨hW ▸ blk_far (blk_far HGB.out (p := ⟨b, 3, none⟩) (by have := HN.out; simp only; omega) _) (p := ⟨b, 4, none⟩) (by have := HN.out; simp only; omega) _⟩
        replace HGR : Aside0 (W4.heap[g]? = _) := ⟨hW ▸ blk_far (blk_far HGR.out (p := ⟨b, 3, none⟩) (by have := HN.out; simp only; omega) _) (p := ⟨b, 4, none⟩) (by have := HN.out; simp only; omega) _⟩
        replace HG : Aside0 (W4.heap[b]? = some (.cells #[.int .i64 v0, .int .i64 v1, .int .i64 v2, .int .i64 v3, .string (strOfNums l3)] 69 (0, 0))) := ⟨hW ▸ blk_put (blk_put (cs' := #[.int .i64 v0, .int .i64 v1, .int .i64 v2, .int .i64 v3, .string ⟨#[]⟩]) HG.out 3 _ rfl) 4 _ rfl⟩
        replace HB : Aside0 (Below w.heap.size w W4) := ⟨hW ▸ below_set (below_set HB.out (by have := HN.out; omega)) (by have := HN.out; omega)⟩
        clear hW HR
        refine (ref17_Write.calls v0 v1 v2 v3 (strOfNums l3) wb we _ ((if_pos HL3.out).trans (by rw [HWF.out]))).mono ?_
        rintro en w5 ⟨rfl, hb⟩
        replace HGB := Aside0.mk (blk_below HGB.out hb)
        replace HGR := Aside0.mk (blk_below HGR.out hb)
        replace HG := Aside0.mk (blk_below HG.out hb)
        replace HB := Aside0.mk (below_step HB.out hb)
        clear hb
        have q0 := blk_at (i := 0) HG.out rfl
        have q1 := blk_at (i := 1) HG.out rfl
        have q2 := blk_at (i := 2) HG.out rfl
        have q3 := blk_at (i := 3) HG.out rfl
        have q4 := blk_at (i := 4) HG.out rfl
        have f0 := blk_frozen HG.out 0
        have f1 := blk_frozen HG.out 1
        have f2 := blk_frozen HG.out 2
        have f3 := blk_frozen HG.out 3
        have f4 := blk_frozen HG.out 4
        have z0 := blk_at (i := 0) HGB.out rfl
        have z1 := blk_at (i := 1) HGB.out rfl
        have z2 := blk_at (i := 2) HGB.out rfl
        have z3 := blk_at (i := 3) HGB.out rfl
        have z4 := blk_at (i := 4) HGB.out rfl
        have y0 := blk_frozen HGB.out 0
        have y1 := blk_frozen HGB.out 1
        have y2 := blk_frozen HGB.out 2
        have y3 := blk_frozen HGB.out 3
        have y4 := blk_frozen HGB.out 4
        have r1 := blk_at (i := 2) HGR.out rfl
        go_wp2
        rw [HX.out]
        exact bodyPost_ret (v := .tuple #[.agg #[.int .i64 0, .int .i64 0, .int .i64 0, .int .i64 0, .string ⟨#[]⟩], .int .i64 6]) (by simp [results, Try.results41, go_sem, z0, z1, z2, z3, z4]) rfl ⟨rfl, (upd5 (F := fun _ => False) (g := w.heap.size) (a := w) (Upd.of_below HB.out) (fun h => absurd h (Nat.lt_irrefl _)) _ _ _ _ _).below (Nat.le_refl _) (fun _ _ h => h)⟩
      · have b1 : (e3 != 0) = false := by rw [c1]; rfl
        have b2 : (we != 0) = false := by rw [c2]; rfl
        have HX : Aside0 (readF s = ((v0, v1, v2, v3, strOfNums l3), 0)) := ⟨by rw [HRF.out]; simp [c1, c2]⟩
        clear c1 c2
        go_enter Try.func41, Try.ntmps41
        go_wp2_with fail
        have HGB := Aside0.mk (blk_new w (.cells #[.int .i64 0, .int .i64 0, .int .i64 0, .int .i64 0, .string ⟨#[]⟩] 69))
        replace HB := Aside0.mk (below_alloc (o := .cells #[.int .i64 0, .int .i64 0, .int .i64 0, .int .i64 0, .string ⟨#[]⟩] 69) HB.out)
        refine (CO.out _).mono ?_
        rintro e w1 ⟨rfl, hb⟩
        replace HGB := Aside0.mk (blk_below HGB.out hb)
        replace HB := Aside0.mk (below_step HB.out hb)
        clear hb
        go_wp2_with fail
        have HR : Aside0 (RF t (w1.alloc (.cells #[.string t, .int .i64 0, .int .i64 0] 113)) w1.heap.size (bytesOf t) 0) := ⟨⟨0, blk_new _ _, by omega, by omega, rfl, HT.out⟩⟩
        have HN0 : Aside0 (w.heap.size < w1.heap.size) := ⟨blk_lt HGB.out⟩
        replace HGB := Aside0.mk (Base.blk_alloc HGB.out (.cells #[.string t, .int .i64 0, .int .i64 0] 113))
        replace HB := Aside0.mk (below_alloc (o := (.cells #[.string t, .int .i64 0, .int .i64 0] 113)) HB.out)
        obtain ⟨g, hg⟩ : ∃ g, g = w1.heap.size := ⟨_, rfl⟩
        rw [← hg] at HR HN0 ⊢
        generalize w1.alloc _ = w2 at HR HGB HB ⊢
        clear hg
        refine (rf_Int 2 _ _ _ _ _ HR.out (by omega)).mono ?_
        rintro en wr0 ⟨rfl, hR, hU⟩
        rw [I0.out] at hR ⊢
        replace HR : Aside0 (RF t wr0 g l0 e0) := ⟨hR⟩
        replace HGB := Aside0.mk (hU.blk HGB.out (fun h => by have := HN0.out; omega))
        replace HB := Aside0.mk (hU.after HB.out HB.out.size (fun i hi he => by have := HN0.out; omega))
        clear hR hU
        have HN : Aside0 (g < wr0.heap.size ∧ w.heap.size < wr0.heap.size) := ⟨HR.out.lt, blk_lt HGB.out⟩
        go_wp2_with fail
        have HG := Aside0.mk (blk_new wr0 (.cells #[.int .i64 v0, .int .i64 0, .int .i64 0, .int .i64 0, .string ⟨#[]⟩] 69))
        replace HGB := Aside0.mk (Base.blk_alloc HGB.out (.cells #[.int .i64 v0, .int .i64 0, .int .i64 0, .int .i64 0, .string ⟨#[]⟩] 69))
        replace HB := Aside0.mk (below_alloc (o := (.cells #[.int .i64 v0, .int .i64 0, .int .i64 0, .int .i64 0, .string ⟨#[]⟩] 69)) HB.out)
        replace HR := Aside0.mk (HR.out.below (below_alloc (Below.refl _ _) (.cells #[.int .i64 v0, .int .i64 0, .int .i64 0, .int .i64 0, .string ⟨#[]⟩] 69)))
        obtain ⟨b, hb⟩ : ∃ b, b = wr0.heap.size := ⟨_, rfl⟩
        rw [← hb] at HN HG ⊢
        generalize wr0.alloc _ = W0 at HG HGB HB HR ⊢
        clear hb
        refine (rf_Int 1000 _ _ _ _ _ HR.out (by omega)).mono ?_
        rintro en wr1 ⟨rfl, hR, hU⟩
        rw [I1.out] at hR ⊢
        replace HR : Aside0 (RF t wr1 g l1 e1) := ⟨hR⟩
        replace HGB := Aside0.mk (hU.blk HGB.out (fun h => by have := HN0.out; omega))
        replace HB := Aside0.mk (hU.after HB.out HB.out.size (fun i hi he => by have := HN0.out; omega))
        replace HG := Aside0.mk (hU.blk HG.out (fun h => by have := HN.out; omega))
        clear hR hU
        have q0 := blk_at (i := 0) HG.out rfl
        have q1 := blk_at (i := 1) HG.out rfl
        have q2 := blk_at (i := 2) HG.out rfl
        have q3 := blk_at (i := 3) HG.out rfl
        have q4 := blk_at (i := 4) HG.out rfl
        have f0 := blk_frozen HG.out 0
        have f1 := blk_frozen HG.out 1
        have f2 := blk_frozen HG.out 2
        have f3 := blk_frozen HG.out 3
        have f4 := blk_frozen HG.out 4
        go_wp2_with fail
        clear q0 q1 q2 q3 q4 f0 f1 f2 f3 f4
        obtain ⟨W1, hW⟩ : ∃ W, W = wr1.setCell ⟨b, 1, none⟩ (.int .i64 v1) := ⟨_, rfl⟩
        rw [← hW]
        replace HGB : Aside0 (W1.heap[w.heap.size]? = _) := ⟨hW ▸ blk_far HGB.out (p := ⟨b, 1, none⟩) (by have := HN.out; simp only; omega) _⟩
        replace HG : Aside0 (W1.heap[b]? = some (.cells #[.int .i64 v0, .int .i64 v1, .int .i64 0, .int .i64 0, .string ⟨#[]⟩] 69 (0, 0))) := ⟨hW ▸ blk_put HG.out 1 _ rfl⟩
        replace HB : Aside0 (Below w.heap.size w W1) := ⟨hW ▸ below_set HB.out (by have := HN.out; omega)⟩
        replace HR : Aside0 (RF t W1 g l1 e1) := ⟨hW ▸ HR.out.upd ((Upd.refl (· = b) _).setCell (p := ⟨b, 1, none⟩) (fun _ => rfl) _) (fun h => by have := HN.out; omega)⟩
        clear hW
        refine (rf_Int 1073741824 _ _ _ _ _ HR.out (by omega)).mono ?_
        rintro en wr2 ⟨rfl, hR, hU⟩
        rw [I2.out] at hR ⊢
        replace HR : Aside0 (RF t wr2 g l2 e2) := ⟨hR⟩
        replace HGB := Aside0.mk (hU.blk HGB.out (fun h => by have := HN0.out; omega))
        replace HB := Aside0.mk (hU.after HB.out HB.out.size (fun i hi he => by have := HN0.out; omega))
        replace HG := Aside0.mk (hU.blk HG.out (fun h => by have := HN.out; omega))
        clear hR hU
        have q0 := blk_at (i := 0) HG.out rfl
        have q1 := blk_at (i := 1) HG.out rfl
        have q2 := blk_at (i := 2) HG.out rfl
        have q3 := blk_at (i := 3) HG.out rfl
        have q4 := blk_at (i := 4) HG.out rfl
        have f0 := blk_frozen HG.out 0
        have f1 := blk_frozen HG.out 1
        have f2 := blk_frozen HG.out 2
        have f3 := blk_frozen HG.out 3
        have f4 := blk_frozen HG.out 4
        go_wp2_with fail
        clear q0 q1 q2 q3 q4 f0 f1 f2 f3 f4
        obtain ⟨W2, hW⟩ : ∃ W, W = wr2.setCell ⟨b, 2, none⟩ (.int .i64 v2) := ⟨_, rfl⟩
        rw [← hW]
        replace HGB : Aside0 (W2.heap[w.heap.size]? = _) := ⟨hW ▸ blk_far HGB.out (p := ⟨b, 2, none⟩) (by have := HN.out; simp only; omega) _⟩
        replace HG : Aside0 (W2.heap[b]? = some (.cells #[.int .i64 v0, .int .i64 v1, .int .i64 v2, .int .i64 0, .string ⟨#[]⟩] 69 (0, 0))) := ⟨hW ▸ blk_put HG.out 2 _ rfl⟩
        replace HB : Aside0 (Below w.heap.size w W2) := ⟨hW ▸ below_set HB.out (by have := HN.out; omega)⟩
        replace HR : Aside0 (RF t W2 g l2 e2) := ⟨hW ▸ HR.out.upd ((Upd.refl (· = b) _).setCell (p := ⟨b, 2, none⟩) (fun _ => rfl) _) (fun h => by have := HN.out; omega)⟩
        clear hW
        refine (rf_Int 1099511627776 _ _ _ _ _ HR.out (by omega)).mono ?_
        rintro en wr3 ⟨rfl, hR, hU⟩
        rw [I3.out] at hR ⊢
        replace HR : Aside0 (RF t wr3 g l3 e3) := ⟨hR⟩
        replace HGB := Aside0.mk (hU.blk HGB.out (fun h => by have := HN0.out; omega))
        replace HB := Aside0.mk (hU.after HB.out HB.out.size (fun i hi he => by have := HN0.out; omega))
        replace HG := Aside0.mk (hU.blk HG.out (fun h => by have := HN.out; omega))
        clear hR hU
        have q0 := blk_at (i := 0) HG.out rfl
        have q1 := blk_at (i := 1) HG.out rfl
        have q2 := blk_at (i := 2) HG.out rfl
        have q3 := blk_at (i := 3) HG.out rfl
        have q4 := blk_at (i := 4) HG.out rfl
        have f0 := blk_frozen HG.out 0
        have f1 := blk_frozen HG.out 1
        have f2 := blk_frozen HG.out 2
        have f3 := blk_frozen HG.out 3
        have f4 := blk_frozen HG.out 4
        obtain ⟨at_, hGR, ha0, ha1, hal, _⟩ := HR.out
        have r0 := blk_at hGR (i := 1) rfl
        have r1 := blk_at hGR (i := 2) rfl
        have HE : Aside0 (t.extract at_.toNat t.size = strOfNums l3) := ⟨by rw [← hal, ← C02.strOfNums_bytesOf (t.extract at_.toNat t.size), C02.bytesOf_extract, List.take_of_length_le (by rw [bytesOf_length]; exact Nat.le_refl _)]⟩
        have HL3 : Aside0 ((strOfNums l3).size ≤ 140737488351232) := ⟨by have := HT.out; rw [← HE.out, ByteArray.size_extract]; omega⟩
        have a0 : (0 ≤ at_) = True := eq_true ha0
        have a1 : (at_ ≤ (t.size : Int)) = True := eq_true ha1
        have hne : (b == g) = false := beq_eq_false_iff_ne.mpr (by have := HN.out; omega)
        have HGR := Aside0.mk hGR
        clear hGR ha0 ha1 hal
        go_wp2_with fail
        clear q0 q1 q2 q3 q4 f0 f1 f2 f3 f4
        clear r0 r1
        rw [HE.out]
        obtain ⟨W4, hW⟩ : ∃ W, W = (wr3.setCell ⟨b, 3, none⟩ (.int .i64 v3)).setCell ⟨b, 4, none⟩ (.string (strOfNums l3)) := ⟨_, rfl⟩
        rw [← hW]
        replace HGB : Aside0 (W4.heap[w.heap.size]? = _) := ⟨hW ▸ blk_far (blk_far HGB.out (p := ⟨b, 3, none⟩) (by have := HN.out; simp only; omega) _) (p := ⟨b, 4, none⟩) (by have := HN.out; simp only; omega) _⟩
        replace HGR : Aside0 (W4.heap[g]? = _) := ⟨hW ▸ blk_far (blk_far HGR.out (p := ⟨b, 3, none⟩) (by have := HN.out; simp only; omega) _) (p := ⟨b, 4, none⟩) (by have := HN.out; simp only; omega) _⟩
        replace HG : Aside0 (W4.heap[b]? = some (.cells #[.int .i64 v0, .int .i64 v1, .int .i64 v2, .int .i64 v3, .string (strOfNums l3)] 69 (0, 0))) := ⟨hW ▸ blk_put (blk_put (cs' := #[.int .i64 v0, .int .i64 v1, .int .i64 v2, .int .i64 v3, .string ⟨#[]⟩]) HG.out 3 _ rfl) 4 _ rfl⟩
        replace HB : Aside0 (Below w.heap.size w W4) := ⟨hW ▸ below_set (below_set HB.out (by have := HN.out; omega)) (by have := HN.out; omega)⟩
        clear hW HR
        refine (ref17_Write.calls v0 v1 v2 v3 (strOfNums l3) wb we _ ((if_pos HL3.out).trans (by rw [HWF.out]))).mono ?_
        rintro en w5 ⟨rfl, hb⟩
        replace HGB := Aside0.mk (blk_below HGB.out hb)
        replace HGR := Aside0.mk (blk_below HGR.out hb)
        replace HG := Aside0.mk (blk_below HG.out hb)
        replace HB := Aside0.mk (below_step HB.out hb)
        clear hb
        have q0 := blk_at (i := 0) HG.out rfl
        have q1 := blk_at (i := 1) HG.out rfl
        have q2 := blk_at (i := 2) HG.out rfl
        have q3 := blk_at (i := 3) HG.out rfl
        have q4 := blk_at (i := 4) HG.out rfl
        have f0 := blk_frozen HG.out 0
        have f1 := blk_frozen HG.out 1
        have f2 := blk_frozen HG.out 2
        have f3 := blk_frozen HG.out 3
        have f4 := blk_frozen HG.out 4
        have z0 := blk_at (i := 0) HGB.out rfl
        have z1 := blk_at (i := 1) HGB.out rfl
        have z2 := blk_at (i := 2) HGB.out rfl
        have z3 := blk_at (i := 3) HGB.out rfl
        have z4 := blk_at (i := 4) HGB.out rfl
        have y0 := blk_frozen HGB.out 0
        have y1 := blk_frozen HGB.out 1
        have y2 := blk_frozen HGB.out 2
        have y3 := blk_frozen HGB.out 3
        have y4 := blk_frozen HGB.out 4
        have r1 := blk_at (i := 2) HGR.out rfl
        go_wp2
        rw [HX.out]
        exact bodyPost_ret (v := .tuple #[.agg #[.int .i64 v0, .int .i64 v1, .int .i64 v2, .int .i64 v3, .string (strOfNums l3)], .int .i64 0]) (by simp [results, Try.results41, go_sem, z0, z1, z2, z3, z4]) rfl ⟨rfl, (upd5 (F := fun _ => False) (g := w.heap.size) (a := w) (Upd.of_below HB.out) (fun h => absurd h (Nat.lt_irrefl _)) _ _ _ _ _).below (Nat.le_refl _) (fun _ _ h => h)⟩
def ref17_Read.f (s : ByteArray) : Option (Int × Int × Int × Int × ByteArray × Int) := if s.size ≤ 140737488351232 then some ((readF s).1.1, (readF s).1.2.1, (readF s).1.2.2.1, (readF s).1.2.2.2.1, (readF s).1.2.2.2.2, (readF s).2) else none
theorem ref17_Read.calls (a0 : ByteArray) (r1 r2 r3 r4 : Int) (r5 : ByteArray) (r6 : Int) (w : World) (h : ref17_Read.f a0 = some (r1, r2, r3, r4, r5, r6)) :
    Calls Try.prog 41 #[.string a0] w fun e w' => e = .returned (.tuple #[.agg #[.int .i64 r1, .int .i64 r2, .int .i64 r3, .int .i64 r4, .string r5], .int .i64 r6]) ∧ Below w.heap.size w w' := by
  unfold ref17_Read.f at h
  split at h
  · rename_i hc
    have e := Option.some.inj h
    simp only [Prod.mk.injEq] at e
    obtain ⟨rfl, rfl, rfl, rfl, rfl, rfl⟩ := e
    exact ref17_Read_c a0 w hc
  · cases h
end Go.Proofs.Ytmpgknemhmoboaa.Ext
