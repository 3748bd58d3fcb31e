import Derived.Test.YtjkbgcdhhiakmaaDoorPQ04cn
import Derived.Test.YtjkbgcdhhiakmaaDoorX04
import Derived.Test.YtjkbgcdhhiakmaaDoorX04t
/- stamp.Parse: the time of a writing. -/
namespace Go.Proofs.YtjkbgcdhhiakmaaDoor.Ext
set_option linter.unusedSimpArgs false
open Go.RowKit Go.Proofs.YtjkbgcdhhiakmaaDoorW.PrintWords Go.Proofs.YtjkbgcdhhiakmaaDoorW.PrintLast Go.Proofs.YtjkbgcdhhiakmaaDoorW.PrintMore Go.Proofs.YtjkbgcdhhiakmaaDoor.Base Go.Proofs.YtjkbgcdhhiakmaaDoor.Ar Go.Proofs.YtjkbgcdhhiakmaaDoor.P04

theorem upd5p {F : Nat → Prop} {a w : World} {g : Nat} (h : Upd F a w) (hp : g < a.heap.size → F g) (u0 u1 u2 u3 u4 : Value) : Upd F a (((((w.setCell ⟨g, 0, none⟩ u0).setCell ⟨g, 1, none⟩ u1).setCell ⟨g, 2, none⟩ u2).setCell ⟨g, 3, none⟩ u3).setCell ⟨g, 4, none⟩ u4) :=
  ((((h.setCell (p := ⟨g, 0, none⟩) hp u0).setCell (p := ⟨g, 1, none⟩) hp u1).setCell (p := ⟨g, 2, none⟩) hp u2).setCell (p := ⟨g, 3, none⟩) hp u3).setCell (p := ⟨g, 4, none⟩) hp u4
abbrev P6 := (Int × Int × Int × Int × Int) × Int
def badP : P6 := ((0, 0, 0, 0, 0), 6)
/-- The time of words. -/
def parseW : List ByteArray → P6
  | [x0] => if (numF x0).2 = true then (((numF x0).1, 0, 0, 0, 0), 0) else badP
  | [x0, x1] => if (numF x0).2 = true ∧ (numF x1).2 = true then (((numF x0).1, 1, (numF x1).1, 0, 0), 0) else badP
  | [x0, x1, x2] => if (numF x0).2 = true ∧ (numF x1).2 = true ∧ (numF x2).2 = true then (((numF x0).1, 2, (numF x1).1, (numF x2).1, 0), 0) else badP
  | [x0, x1, x2, x3] => if (numF x0).2 = true ∧ (numF x1).2 = true ∧ (numF x2).2 = true ∧ (numF x3).2 = true then (((numF x0).1, 3, (numF x1).1, (numF x2).1, (numF x3).1), 0) else badP
  | _ => badP
def splitF (s : ByteArray) : List ByteArray := Lib.splitB dot 0 (Lib.countB s dot) s
def parseF (s : ByteArray) : P6 := parseW (splitF s)
def tvp (x : Int × Int × Int × Int × Int) : Value := .agg #[.int .u32 x.1, .int .i64 x.2.1, .int .u32 x.2.2.1, .int .u32 x.2.2.2.1, .int .u32 x.2.2.2.2]
theorem vars_below {w w' : World} (h : VARS w) (hb : Below w.heap.size w w') : VARS w' := h.elim fun m hm => ⟨m, (hb.cell (World.block_lt_of_cell? w _ hm)).trans hm⟩
theorem split_size (sep : ByteArray) : ∀ (k : Nat) (s x : ByteArray), x ∈ Lib.splitB sep 0 k s → x.size ≤ s.size
  | 0, s, x, h => by
    rw [Lib.splitB_zero, List.mem_singleton] at h
    rw [h]
    exact Nat.le_refl _
  | k + 1, s, x, h => by
    unfold Lib.splitB at h
    split at h
    · rw [List.mem_singleton] at h
      rw [h]
      exact Nat.le_refl _
    · rcases List.mem_cons.1 h with rfl | h
      · rw [ByteArray.size_extract]; omega
      · have := split_size sep k _ x h
        rw [ByteArray.size_extract] at this
        omega
theorem parseW_many {ws : List ByteArray} (h : 4 < ws.length) : parseW ws = badP := by
  match ws, h with
  | _ :: _ :: _ :: _ :: _ :: _, _ => rfl
set_option maxRecDepth 100000 in
set_option maxHeartbeats 8000000 in
theorem stamp_Parse_c (s : ByteArray) (w : World) (hs : s.size ≤ 5000) (hV : VARS w) :
    Calls Tryd.prog 10 #[.string s] w fun e w' => e = .returned (.tuple #[tvp (parseF s).1, .int .i64 (parseF s).2]) ∧ Below w.heap.size w w' := by
  have HB := Aside0.mk (Below.refl w.heap.size w)
  have HV := Aside0.mk hV
  obtain ⟨N, hN⟩ : ∃ N, N = Lib.countB s dot := ⟨_, rfl⟩
  have hlen : (splitF s).length = N + 1 := by rw [hN]; exact Lib.splitB_all dot (by decide) 0 _ s rfl
  have hsz : ∀ x ∈ splitF s, x.size ≤ 5000 := fun x hx => Nat.le_trans (split_size _ _ _ _ hx) hs
  have hNs : N ≤ 5000 := by rw [hN]; exact Nat.le_trans (Lib.countB_le dot (by decide) s.size s (Nat.le_refl _)) hs
  have wN : wrap64 (N : Int) = (N : Int) := by unfold wrap64; omega
  have CS := Aside0.mk (fun w1 hv => strings_Split s dot w1 (by omega) hv (by decide))
  obtain ⟨ws, hws⟩ : ∃ ws, ws = splitF s := ⟨_, rfl⟩
  have hPF : parseF s = parseW ws := by rw [hws]; rfl
  have CS := Aside0.mk (fun w1 (hv : VARS w1) => show Calls Tryd.prog 31 #[.string s, .string ⟨#[46]⟩] w1 fun e w' => e = .returned (.slice (some ⟨w1.heap.size, 0, none⟩) (N + 1) (N + 1)) ∧ w' = w1.alloc (.cells (ws.map Value.string).toArray 9) by rw [hws, hN]; exact CS.out w1 hv)
  rw [← hws] at hlen hsz
  clear hws hN hs hV
  have HPF := Aside0.mk hPF
  clear hPF
  by_cases cN : 3 < N
  · have HX : Aside0 (parseF s = badP) := ⟨by rw [HPF.out]; exact parseW_many (by omega)⟩
    have HTH := Aside0.mk (fun w1 => stamp_there_c (N : Int) w1)
    rw [decide_eq_false (by omega)] at HTH
    clear cN hlen hsz
    go_enter Tryd.func10, Tryd.ntmps10
    go_wp2_with fail
    have HGB := Aside0.mk (blk_new w (.cells #[.int .u32 0, .int .i64 0, .int .u32 0, .int .u32 0, .int .u32 0] 25))
    replace HB := Aside0.mk (below_alloc (o := .cells #[.int .u32 0, .int .i64 0, .int .u32 0, .int .u32 0, .int .u32 0] 25) HB.out)
    refine (CS.out _ (vars_below HV.out (below_alloc (Below.refl _ _) _))).mono ?_
    rintro e w1 ⟨rfl, hw1⟩
    have HS : Aside0 (w1.heap[(w.alloc (.cells #[.int .u32 0, .int .i64 0, .int .u32 0, .int .u32 0, .int .u32 0] 25)).heap.size]? = some (.cells (ws.map Value.string).toArray 9 (0, 0))) := ⟨by rw [hw1]; exact blk_new _ _⟩
    have hb := below_alloc (Below.refl (w.alloc (.cells #[.int .u32 0, .int .i64 0, .int .u32 0, .int .u32 0, .int .u32 0] 25)).heap.size (w.alloc (.cells #[.int .u32 0, .int .i64 0, .int .u32 0, .int .u32 0, .int .u32 0] 25))) (.cells (ws.map Value.string).toArray 9)
    replace hb : Below (w.alloc (.cells #[.int .u32 0, .int .i64 0, .int .u32 0, .int .u32 0, .int .u32 0] 25)).heap.size (w.alloc (.cells #[.int .u32 0, .int .i64 0, .int .u32 0, .int .u32 0, .int .u32 0] 25)) w1 := by rw [hw1]; exact hb
    replace HGB := Aside0.mk (blk_below HGB.out hb)
    replace HB := Aside0.mk (below_step HB.out hb)
    have HNS : Aside0 (w.heap.size < (w.alloc (.cells #[.int .u32 0, .int .i64 0, .int .u32 0, .int .u32 0, .int .u32 0] 25)).heap.size) := ⟨by rw [World.size_alloc]; omega⟩
    clear hb hw1
    generalize (w.alloc (.cells #[.int .u32 0, .int .i64 0, .int .u32 0, .int .u32 0, .int .u32 0] 25)).heap.size = gs at HS HNS ⊢
    have hgl := blk_lt HS.out
    go_wp2_with fail
    have HG := Aside0.mk (blk_new w1 (.cells #[.int .u32 0, .int .i64 N, .int .u32 0, .int .u32 0, .int .u32 0] 25))
    have HN : Aside0 (gs < w1.heap.size ∧ w.heap.size < w1.heap.size) := ⟨hgl, blk_lt HGB.out⟩
    replace HGB := Aside0.mk (Base.blk_alloc HGB.out (.cells #[.int .u32 0, .int .i64 N, .int .u32 0, .int .u32 0, .int .u32 0] 25))
    replace HS := Aside0.mk (Base.blk_alloc HS.out (.cells #[.int .u32 0, .int .i64 N, .int .u32 0, .int .u32 0, .int .u32 0] 25))
    replace HB := Aside0.mk (below_alloc (o := (.cells #[.int .u32 0, .int .i64 N, .int .u32 0, .int .u32 0, .int .u32 0] 25)) HB.out)
    obtain ⟨b, hb⟩ : ∃ b, b = w1.heap.size := ⟨_, rfl⟩
    rw [← hb] at HN HG ⊢
    generalize w1.alloc _ = W0 at HG HGB HB HS ⊢
    clear hb hgl
    refine (HTH.out _).mono ?_
    rintro e wt ⟨rfl, rfl⟩
    have z0 := blk_at (i := 0) HGB.out rfl
    have z1 := blk_at (i := 1) HGB.out rfl
    have z2 := blk_at (i := 2) HGB.out rfl
    have z3 := blk_at (i := 3) HGB.out rfl
    have z4 := blk_at (i := 4) HGB.out rfl
    have y0 := blk_frozen HGB.out 0
    have y1 := blk_frozen HGB.out 1
    have y2 := blk_frozen HGB.out 2
    have y3 := blk_frozen HGB.out 3
    have y4 := blk_frozen HGB.out 4
    go_wp2
    rw [HX.out]
    exact bodyPost_ret (v := .tuple #[.agg #[.int .u32 0, .int .i64 0, .int .u32 0, .int .u32 0, .int .u32 0], .int .i64 6]) (by simp [results, Tryd.results10, go_sem, z0, z1, z2, z3, z4]) rfl ⟨rfl, (upd5p (F := fun _ => False) (g := w.heap.size) (a := w) (Upd.of_below HB.out) (fun h => absurd h (Nat.lt_irrefl _)) _ _ _ _ _).below (Nat.le_refl _) (fun _ _ h => h)⟩
  · have hws : ws.length = N + 1 := hlen
    have hN4 : N = 0 ∨ N = 1 ∨ N = 2 ∨ N = 3 := by omega
    clear cN hlen hNs
    rcases hN4 with rfl | rfl | rfl | rfl
    · obtain ⟨x0, rfl⟩ : ∃ x0, ws = [x0] := by
        match ws, hws with
        | [a0], _ => exact ⟨a0, rfl⟩
      have hr0 := numF_range x0
      have CN0 := Aside0.mk (fun w1 => Q04c.stamp_number.calls (x0.size + 3) x0 (numF x0).1 (numF x0).2 w1 (number_f x0 (by have := hsz x0 (by simp); omega) _ (Nat.le_refl _)))
      obtain ⟨⟨n0, k0⟩, hn0⟩ : ∃ q, q = numF x0 := ⟨_, rfl⟩
      rw [← hn0] at CN0 hr0
      simp only at CN0 hr0
      have HTH := Aside0.mk (fun w1 => stamp_there_c 0 w1)
      rw [decide_eq_true (by omega)] at HTH
      have wN' : wrap64 0 = 0 := by unfold wrap64; omega
      clear hws hsz wN
      by_cases cb0 : k0 = true
      rotate_left
      · have cb0' : k0 = false := Bool.eq_false_iff.mpr cb0
        have HX : Aside0 (parseF s = badP) := ⟨by rw [HPF.out]; simp [parseW, ← hn0, cb0']⟩
        subst cb0'
        clear cb0
        clear hn0
        go_enter Tryd.func10, Tryd.ntmps10
        go_wp2_with fail
        have HGB := Aside0.mk (blk_new w (.cells #[.int .u32 0, .int .i64 0, .int .u32 0, .int .u32 0, .int .u32 0] 25))
        replace HB := Aside0.mk (below_alloc (o := .cells #[.int .u32 0, .int .i64 0, .int .u32 0, .int .u32 0, .int .u32 0] 25) HB.out)
        refine (CS.out _ (vars_below HV.out (below_alloc (Below.refl _ _) _))).mono ?_
        rintro e w1 ⟨rfl, hw1⟩
        have HS : Aside0 (w1.heap[(w.alloc (.cells #[.int .u32 0, .int .i64 0, .int .u32 0, .int .u32 0, .int .u32 0] 25)).heap.size]? = some (.cells #[.string x0] 9 (0, 0))) := ⟨by rw [hw1]; exact blk_new _ _⟩
        have hb := below_alloc (Below.refl (w.alloc (.cells #[.int .u32 0, .int .i64 0, .int .u32 0, .int .u32 0, .int .u32 0] 25)).heap.size (w.alloc (.cells #[.int .u32 0, .int .i64 0, .int .u32 0, .int .u32 0, .int .u32 0] 25))) (.cells #[.string x0] 9)
        replace hb : Below (w.alloc (.cells #[.int .u32 0, .int .i64 0, .int .u32 0, .int .u32 0, .int .u32 0] 25)).heap.size (w.alloc (.cells #[.int .u32 0, .int .i64 0, .int .u32 0, .int .u32 0, .int .u32 0] 25)) w1 := by rw [hw1]; exact hb
        replace HGB := Aside0.mk (blk_below HGB.out hb)
        replace HB := Aside0.mk (below_step HB.out hb)
        have HNS : Aside0 (w.heap.size < (w.alloc (.cells #[.int .u32 0, .int .i64 0, .int .u32 0, .int .u32 0, .int .u32 0] 25)).heap.size) := ⟨by rw [World.size_alloc]; omega⟩
        clear hb hw1
        generalize (w.alloc (.cells #[.int .u32 0, .int .i64 0, .int .u32 0, .int .u32 0, .int .u32 0] 25)).heap.size = gs at HS HNS ⊢
        have hgl := blk_lt HS.out
        go_wp2_with fail
        have HG := Aside0.mk (blk_new w1 (.cells #[.int .u32 0, .int .i64 0, .int .u32 0, .int .u32 0, .int .u32 0] 25))
        have HN : Aside0 (gs < w1.heap.size ∧ w.heap.size < w1.heap.size) := ⟨hgl, blk_lt HGB.out⟩
        replace HGB := Aside0.mk (Base.blk_alloc HGB.out (.cells #[.int .u32 0, .int .i64 0, .int .u32 0, .int .u32 0, .int .u32 0] 25))
        replace HS := Aside0.mk (Base.blk_alloc HS.out (.cells #[.int .u32 0, .int .i64 0, .int .u32 0, .int .u32 0, .int .u32 0] 25))
        replace HB := Aside0.mk (below_alloc (o := (.cells #[.int .u32 0, .int .i64 0, .int .u32 0, .int .u32 0, .int .u32 0] 25)) HB.out)
        obtain ⟨b, hb⟩ : ∃ b, b = w1.heap.size := ⟨_, rfl⟩
        rw [← hb] at HN HG ⊢
        generalize w1.alloc _ = W0 at HG HGB HB HS ⊢
        clear hb hgl
        refine (HTH.out _).mono ?_
        rintro e wt ⟨rfl, rfl⟩
        go_wp2_with fail
        refine wp_loop_rounds 2 ?_
        have p0 := blk_at (i := 0) HS.out rfl
        rw [rounds_succ]
        go_wp2_with fail
        clear p0
        refine (CN0.out _).mono ?_
        rintro e wn0 ⟨rfl, hdr⟩
        have hb := (show Below W0.heap.size W0 wn0 from hdr.below)
        replace HG := Aside0.mk (blk_below HG.out hb)
        replace HGB := Aside0.mk (blk_below HGB.out hb)
        replace HS := Aside0.mk (blk_below HS.out hb)
        replace HB := Aside0.mk (below_step HB.out hb)
        clear hb hdr
        have q0 := blk_at (i := 0) HG.out rfl
        have q1 := blk_at (i := 1) HG.out rfl
        have q2 := blk_at (i := 2) HG.out rfl
        have q3 := blk_at (i := 3) HG.out rfl
        have q4 := blk_at (i := 4) HG.out rfl
        have f0 := blk_frozen HG.out 0
        have f1 := blk_frozen HG.out 1
        have f2 := blk_frozen HG.out 2
        have f3 := blk_frozen HG.out 3
        have f4 := blk_frozen HG.out 4
        have z0 := blk_at (i := 0) HGB.out rfl
        have z1 := blk_at (i := 1) HGB.out rfl
        have z2 := blk_at (i := 2) HGB.out rfl
        have z3 := blk_at (i := 3) HGB.out rfl
        have z4 := blk_at (i := 4) HGB.out rfl
        have y0 := blk_frozen HGB.out 0
        have y1 := blk_frozen HGB.out 1
        have y2 := blk_frozen HGB.out 2
        have y3 := blk_frozen HGB.out 3
        have y4 := blk_frozen HGB.out 4
        go_wp2
        rw [HX.out]
        exact bodyPost_ret (v := .tuple #[.agg #[.int .u32 0, .int .i64 0, .int .u32 0, .int .u32 0, .int .u32 0], .int .i64 6]) (by simp [results, Tryd.results10, go_sem, z0, z1, z2, z3, z4]) rfl ⟨rfl, (upd5p (F := fun _ => False) (g := w.heap.size) (a := w) (Upd.of_below HB.out) (fun h => absurd h (Nat.lt_irrefl _)) _ _ _ _ _).below (Nat.le_refl _) (fun _ _ h => h)⟩
      · skip
        have HX : Aside0 (parseF s = ((n0, 0, 0, 0, 0), 0)) := ⟨by rw [HPF.out]; simp [parseW, ← hn0, cb0]⟩
        subst cb0
        clear hn0
        go_enter Tryd.func10, Tryd.ntmps10
        go_wp2_with fail
        have HGB := Aside0.mk (blk_new w (.cells #[.int .u32 0, .int .i64 0, .int .u32 0, .int .u32 0, .int .u32 0] 25))
        replace HB := Aside0.mk (below_alloc (o := .cells #[.int .u32 0, .int .i64 0, .int .u32 0, .int .u32 0, .int .u32 0] 25) HB.out)
        refine (CS.out _ (vars_below HV.out (below_alloc (Below.refl _ _) _))).mono ?_
        rintro e w1 ⟨rfl, hw1⟩
        have HS : Aside0 (w1.heap[(w.alloc (.cells #[.int .u32 0, .int .i64 0, .int .u32 0, .int .u32 0, .int .u32 0] 25)).heap.size]? = some (.cells #[.string x0] 9 (0, 0))) := ⟨by rw [hw1]; exact blk_new _ _⟩
        have hb := below_alloc (Below.refl (w.alloc (.cells #[.int .u32 0, .int .i64 0, .int .u32 0, .int .u32 0, .int .u32 0] 25)).heap.size (w.alloc (.cells #[.int .u32 0, .int .i64 0, .int .u32 0, .int .u32 0, .int .u32 0] 25))) (.cells #[.string x0] 9)
        replace hb : Below (w.alloc (.cells #[.int .u32 0, .int .i64 0, .int .u32 0, .int .u32 0, .int .u32 0] 25)).heap.size (w.alloc (.cells #[.int .u32 0, .int .i64 0, .int .u32 0, .int .u32 0, .int .u32 0] 25)) w1 := by rw [hw1]; exact hb
        replace HGB := Aside0.mk (blk_below HGB.out hb)
        replace HB := Aside0.mk (below_step HB.out hb)
        have HNS : Aside0 (w.heap.size < (w.alloc (.cells #[.int .u32 0, .int .i64 0, .int .u32 0, .int .u32 0, .int .u32 0] 25)).heap.size) := ⟨by rw [World.size_alloc]; omega⟩
        clear hb hw1
        generalize (w.alloc (.cells #[.int .u32 0, .int .i64 0, .int .u32 0, .int .u32 0, .int .u32 0] 25)).heap.size = gs at HS HNS ⊢
        have hgl := blk_lt HS.out
        go_wp2_with fail
        have HG := Aside0.mk (blk_new w1 (.cells #[.int .u32 0, .int .i64 0, .int .u32 0, .int .u32 0, .int .u32 0] 25))
        have HN : Aside0 (gs < w1.heap.size ∧ w.heap.size < w1.heap.size) := ⟨hgl, blk_lt HGB.out⟩
        replace HGB := Aside0.mk (Base.blk_alloc HGB.out (.cells #[.int .u32 0, .int .i64 0, .int .u32 0, .int .u32 0, .int .u32 0] 25))
        replace HS := Aside0.mk (Base.blk_alloc HS.out (.cells #[.int .u32 0, .int .i64 0, .int .u32 0, .int .u32 0, .int .u32 0] 25))
        replace HB := Aside0.mk (below_alloc (o := (.cells #[.int .u32 0, .int .i64 0, .int .u32 0, .int .u32 0, .int .u32 0] 25)) HB.out)
        obtain ⟨b, hb⟩ : ∃ b, b = w1.heap.size := ⟨_, rfl⟩
        rw [← hb] at HN HG ⊢
        generalize w1.alloc _ = W0 at HG HGB HB HS ⊢
        clear hb hgl
        refine (HTH.out _).mono ?_
        rintro e wt ⟨rfl, rfl⟩
        go_wp2_with fail
        refine wp_loop_rounds 2 ?_
        have p0 := blk_at (i := 0) HS.out rfl
        rw [rounds_succ]
        go_wp2_with fail
        clear p0
        refine (CN0.out _).mono ?_
        rintro e wn0 ⟨rfl, hdr⟩
        have hb := (show Below W0.heap.size W0 wn0 from hdr.below)
        replace HG := Aside0.mk (blk_below HG.out hb)
        replace HGB := Aside0.mk (blk_below HGB.out hb)
        replace HS := Aside0.mk (blk_below HS.out hb)
        replace HB := Aside0.mk (below_step HB.out hb)
        clear hb hdr
        have q0 := blk_at (i := 0) HG.out rfl
        have q1 := blk_at (i := 1) HG.out rfl
        have q2 := blk_at (i := 2) HG.out rfl
        have q3 := blk_at (i := 3) HG.out rfl
        have q4 := blk_at (i := 4) HG.out rfl
        have f0 := blk_frozen HG.out 0
        have f1 := blk_frozen HG.out 1
        have f2 := blk_frozen HG.out 2
        have f3 := blk_frozen HG.out 3
        have f4 := blk_frozen HG.out 4
        go_wp2_with fail
        clear q0 f0 q1 f1 q2 f2 q3 f3 q4 f4
        obtain ⟨W1, hW⟩ : ∃ W, W = wn0.setCell ⟨b, 0, none⟩ (.int .u32 n0) := ⟨_, rfl⟩
        rw [← hW]
        replace HGB : Aside0 (W1.heap[w.heap.size]? = _) := ⟨hW ▸ blk_far HGB.out (p := ⟨b, 0, none⟩) (by have := HN.out; simp only; omega) _⟩
        replace HS : Aside0 (W1.heap[gs]? = _) := ⟨hW ▸ blk_far HS.out (p := ⟨b, 0, none⟩) (by have := HN.out; simp only; omega) _⟩
        replace HG : Aside0 (W1.heap[b]? = some (.cells #[.int .u32 n0, .int .i64 0, .int .u32 0, .int .u32 0, .int .u32 0] 25 (0, 0))) := ⟨hW ▸ blk_put HG.out 0 _ rfl⟩
        replace HB : Aside0 (Below w.heap.size w W1) := ⟨hW ▸ below_set HB.out (by have := HN.out; omega)⟩
        clear hW
        rw [rounds_succ]
        have q0 := blk_at (i := 0) HG.out rfl
        have q1 := blk_at (i := 1) HG.out rfl
        have q2 := blk_at (i := 2) HG.out rfl
        have q3 := blk_at (i := 3) HG.out rfl
        have q4 := blk_at (i := 4) HG.out rfl
        have f0 := blk_frozen HG.out 0
        have f1 := blk_frozen HG.out 1
        have f2 := blk_frozen HG.out 2
        have f3 := blk_frozen HG.out 3
        have f4 := blk_frozen HG.out 4
        have z0 := blk_at (i := 0) HGB.out rfl
        have z1 := blk_at (i := 1) HGB.out rfl
        have z2 := blk_at (i := 2) HGB.out rfl
        have z3 := blk_at (i := 3) HGB.out rfl
        have z4 := blk_at (i := 4) HGB.out rfl
        have y0 := blk_frozen HGB.out 0
        have y1 := blk_frozen HGB.out 1
        have y2 := blk_frozen HGB.out 2
        have y3 := blk_frozen HGB.out 3
        have y4 := blk_frozen HGB.out 4
        go_wp2
        rw [HX.out]
        exact bodyPost_ret (v := .tuple #[.agg #[.int .u32 n0, .int .i64 0, .int .u32 0, .int .u32 0, .int .u32 0], .int .i64 0]) (by simp [results, Tryd.results10, go_sem, z0, z1, z2, z3, z4]) rfl ⟨rfl, (upd5p (F := fun _ => False) (g := w.heap.size) (a := w) (Upd.of_below HB.out) (fun h => absurd h (Nat.lt_irrefl _)) _ _ _ _ _).below (Nat.le_refl _) (fun _ _ h => h)⟩
    · obtain ⟨x0, x1, rfl⟩ : ∃ x0 x1, ws = [x0, x1] := by
        match ws, hws with
        | [a0, a1], _ => exact ⟨a0, a1, rfl⟩
      have hr0 := numF_range x0
      have hr1 := numF_range x1
      have CN0 := Aside0.mk (fun w1 => Q04c.stamp_number.calls (x0.size + 3) x0 (numF x0).1 (numF x0).2 w1 (number_f x0 (by have := hsz x0 (by simp); omega) _ (Nat.le_refl _)))
      obtain ⟨⟨n0, k0⟩, hn0⟩ : ∃ q, q = numF x0 := ⟨_, rfl⟩
      rw [← hn0] at CN0 hr0
      simp only at CN0 hr0
      have CN1 := Aside0.mk (fun w1 => Q04c.stamp_number.calls (x1.size + 3) x1 (numF x1).1 (numF x1).2 w1 (number_f x1 (by have := hsz x1 (by simp); omega) _ (Nat.le_refl _)))
      obtain ⟨⟨n1, k1⟩, hn1⟩ : ∃ q, q = numF x1 := ⟨_, rfl⟩
      rw [← hn1] at CN1 hr1
      simp only at CN1 hr1
      have HTH := Aside0.mk (fun w1 => stamp_there_c 1 w1)
      rw [decide_eq_true (by omega)] at HTH
      have wN' : wrap64 1 = 1 := by unfold wrap64; omega
      clear hws hsz wN
      by_cases cb0 : k0 = true
      rotate_left
      · have cb0' : k0 = false := Bool.eq_false_iff.mpr cb0
        have HX : Aside0 (parseF s = badP) := ⟨by rw [HPF.out]; simp [parseW, ← hn0, ← hn1, cb0']⟩
        subst cb0'
        clear cb0
        clear hn0 hn1
        go_enter Tryd.func10, Tryd.ntmps10
        go_wp2_with fail
        have HGB := Aside0.mk (blk_new w (.cells #[.int .u32 0, .int .i64 0, .int .u32 0, .int .u32 0, .int .u32 0] 25))
        replace HB := Aside0.mk (below_alloc (o := .cells #[.int .u32 0, .int .i64 0, .int .u32 0, .int .u32 0, .int .u32 0] 25) HB.out)
        refine (CS.out _ (vars_below HV.out (below_alloc (Below.refl _ _) _))).mono ?_
        rintro e w1 ⟨rfl, hw1⟩
        have HS : Aside0 (w1.heap[(w.alloc (.cells #[.int .u32 0, .int .i64 0, .int .u32 0, .int .u32 0, .int .u32 0] 25)).heap.size]? = some (.cells #[.string x0, .string x1] 9 (0, 0))) := ⟨by rw [hw1]; exact blk_new _ _⟩
        have hb := below_alloc (Below.refl (w.alloc (.cells #[.int .u32 0, .int .i64 0, .int .u32 0, .int .u32 0, .int .u32 0] 25)).heap.size (w.alloc (.cells #[.int .u32 0, .int .i64 0, .int .u32 0, .int .u32 0, .int .u32 0] 25))) (.cells #[.string x0, .string x1] 9)
        replace hb : Below (w.alloc (.cells #[.int .u32 0, .int .i64 0, .int .u32 0, .int .u32 0, .int .u32 0] 25)).heap.size (w.alloc (.cells #[.int .u32 0, .int .i64 0, .int .u32 0, .int .u32 0, .int .u32 0] 25)) w1 := by rw [hw1]; exact hb
        replace HGB := Aside0.mk (blk_below HGB.out hb)
        replace HB := Aside0.mk (below_step HB.out hb)
        have HNS : Aside0 (w.heap.size < (w.alloc (.cells #[.int .u32 0, .int .i64 0, .int .u32 0, .int .u32 0, .int .u32 0] 25)).heap.size) := ⟨by rw [World.size_alloc]; omega⟩
        clear hb hw1
        generalize (w.alloc (.cells #[.int .u32 0, .int .i64 0, .int .u32 0, .int .u32 0, .int .u32 0] 25)).heap.size = gs at HS HNS ⊢
        have hgl := blk_lt HS.out
        go_wp2_with fail
        have HG := Aside0.mk (blk_new w1 (.cells #[.int .u32 0, .int .i64 1, .int .u32 0, .int .u32 0, .int .u32 0] 25))
        have HN : Aside0 (gs < w1.heap.size ∧ w.heap.size < w1.heap.size) := ⟨hgl, blk_lt HGB.out⟩
        replace HGB := Aside0.mk (Base.blk_alloc HGB.out (.cells #[.int .u32 0, .int .i64 1, .int .u32 0, .int .u32 0, .int .u32 0] 25))
        replace HS := Aside0.mk (Base.blk_alloc HS.out (.cells #[.int .u32 0, .int .i64 1, .int .u32 0, .int .u32 0, .int .u32 0] 25))
        replace HB := Aside0.mk (below_alloc (o := (.cells #[.int .u32 0, .int .i64 1, .int .u32 0, .int .u32 0, .int .u32 0] 25)) HB.out)
        obtain ⟨b, hb⟩ : ∃ b, b = w1.heap.size := ⟨_, rfl⟩
        rw [← hb] at HN HG ⊢
        generalize w1.alloc _ = W0 at HG HGB HB HS ⊢
        clear hb hgl
        refine (HTH.out _).mono ?_
        rintro e wt ⟨rfl, rfl⟩
        go_wp2_with fail
        refine wp_loop_rounds 3 ?_
        have p0 := blk_at (i := 0) HS.out rfl
        rw [rounds_succ]
        go_wp2_with fail
        clear p0
        refine (CN0.out _).mono ?_
        rintro e wn0 ⟨rfl, hdr⟩
        have hb := (show Below W0.heap.size W0 wn0 from hdr.below)
        replace HG := Aside0.mk (blk_below HG.out hb)
        replace HGB := Aside0.mk (blk_below HGB.out hb)
        replace HS := Aside0.mk (blk_below HS.out hb)
        replace HB := Aside0.mk (below_step HB.out hb)
        clear hb hdr
        have q0 := blk_at (i := 0) HG.out rfl
        have q1 := blk_at (i := 1) HG.out rfl
        have q2 := blk_at (i := 2) HG.out rfl
        have q3 := blk_at (i := 3) HG.out rfl
        have q4 := blk_at (i := 4) HG.out rfl
        have f0 := blk_frozen HG.out 0
        have f1 := blk_frozen HG.out 1
        have f2 := blk_frozen HG.out 2
        have f3 := blk_frozen HG.out 3
        have f4 := blk_frozen HG.out 4
        have z0 := blk_at (i := 0) HGB.out rfl
        have z1 := blk_at (i := 1) HGB.out rfl
        have z2 := blk_at (i := 2) HGB.out rfl
        have z3 := blk_at (i := 3) HGB.out rfl
        have z4 := blk_at (i := 4) HGB.out rfl
        have y0 := blk_frozen HGB.out 0
        have y1 := blk_frozen HGB.out 1
        have y2 := blk_frozen HGB.out 2
        have y3 := blk_frozen HGB.out 3
        have y4 := blk_frozen HGB.out 4
        go_wp2
        rw [HX.out]
        exact bodyPost_ret (v := .tuple #[.agg #[.int .u32 0, .int .i64 0, .int .u32 0, .int .u32 0, .int .u32 0], .int .i64 6]) (by simp [results, Tryd.results10, go_sem, z0, z1, z2, z3, z4]) rfl ⟨rfl, (upd5p (F := fun _ => False) (g := w.heap.size) (a := w) (Upd.of_below HB.out) (fun h => absurd h (Nat.lt_irrefl _)) _ _ _ _ _).below (Nat.le_refl _) (fun _ _ h => h)⟩
      by_cases cb1 : k1 = true
      rotate_left
      · have cb1' : k1 = false := Bool.eq_false_iff.mpr cb1
        have HX : Aside0 (parseF s = badP) := ⟨by rw [HPF.out]; simp [parseW, ← hn0, ← hn1, cb0, cb1']⟩
        subst cb0
        subst cb1'
        clear cb1
        clear hn0 hn1
        go_enter Tryd.func10, Tryd.ntmps10
        go_wp2_with fail
        have HGB := Aside0.mk (blk_new w (.cells #[.int .u32 0, .int .i64 0, .int .u32 0, .int .u32 0, .int .u32 0] 25))
        replace HB := Aside0.mk (below_alloc (o := .cells #[.int .u32 0, .int .i64 0, .int .u32 0, .int .u32 0, .int .u32 0] 25) HB.out)
        refine (CS.out _ (vars_below HV.out (below_alloc (Below.refl _ _) _))).mono ?_
        rintro e w1 ⟨rfl, hw1⟩
        have HS : Aside0 (w1.heap[(w.alloc (.cells #[.int .u32 0, .int .i64 0, .int .u32 0, .int .u32 0, .int .u32 0] 25)).heap.size]? = some (.cells #[.string x0, .string x1] 9 (0, 0))) := ⟨by rw [hw1]; exact blk_new _ _⟩
        have hb := below_alloc (Below.refl (w.alloc (.cells #[.int .u32 0, .int .i64 0, .int .u32 0, .int .u32 0, .int .u32 0] 25)).heap.size (w.alloc (.cells #[.int .u32 0, .int .i64 0, .int .u32 0, .int .u32 0, .int .u32 0] 25))) (.cells #[.string x0, .string x1] 9)
        replace hb : Below (w.alloc (.cells #[.int .u32 0, .int .i64 0, .int .u32 0, .int .u32 0, .int .u32 0] 25)).heap.size (w.alloc (.cells #[.int .u32 0, .int .i64 0, .int .u32 0, .int .u32 0, .int .u32 0] 25)) w1 := by rw [hw1]; exact hb
        replace HGB := Aside0.mk (blk_below HGB.out hb)
        replace HB := Aside0.mk (below_step HB.out hb)
        have HNS : Aside0 (w.heap.size < (w.alloc (.cells #[.int .u32 0, .int .i64 0, .int .u32 0, .int .u32 0, .int .u32 0] 25)).heap.size) := ⟨by rw [World.size_alloc]; omega⟩
        clear hb hw1
        generalize (w.alloc (.cells #[.int .u32 0, .int .i64 0, .int .u32 0, .int .u32 0, .int .u32 0] 25)).heap.size = gs at HS HNS ⊢
        have hgl := blk_lt HS.out
        go_wp2_with fail
        have HG := Aside0.mk (blk_new w1 (.cells #[.int .u32 0, .int .i64 1, .int .u32 0, .int .u32 0, .int .u32 0] 25))
        have HN : Aside0 (gs < w1.heap.size ∧ w.heap.size < w1.heap.size) := ⟨hgl, blk_lt HGB.out⟩
        replace HGB := Aside0.mk (Base.blk_alloc HGB.out (.cells #[.int .u32 0, .int .i64 1, .int .u32 0, .int .u32 0, .int .u32 0] 25))
        replace HS := Aside0.mk (Base.blk_alloc HS.out (.cells #[.int .u32 0, .int .i64 1, .int .u32 0, .int .u32 0, .int .u32 0] 25))
        replace HB := Aside0.mk (below_alloc (o := (.cells #[.int .u32 0, .int .i64 1, .int .u32 0, .int .u32 0, .int .u32 0] 25)) HB.out)
        obtain ⟨b, hb⟩ : ∃ b, b = w1.heap.size := ⟨_, rfl⟩
        rw [← hb] at HN HG ⊢
        generalize w1.alloc _ = W0 at HG HGB HB HS ⊢
        clear hb hgl
        refine (HTH.out _).mono ?_
        rintro e wt ⟨rfl, rfl⟩
        go_wp2_with fail
        refine wp_loop_rounds 3 ?_
        have p0 := blk_at (i := 0) HS.out rfl
        rw [rounds_succ]
        go_wp2_with fail
        clear p0
        refine (CN0.out _).mono ?_
        rintro e wn0 ⟨rfl, hdr⟩
        have hb := (show Below W0.heap.size W0 wn0 from hdr.below)
        replace HG := Aside0.mk (blk_below HG.out hb)
        replace HGB := Aside0.mk (blk_below HGB.out hb)
        replace HS := Aside0.mk (blk_below HS.out hb)
        replace HB := Aside0.mk (below_step HB.out hb)
        clear hb hdr
        have q0 := blk_at (i := 0) HG.out rfl
        have q1 := blk_at (i := 1) HG.out rfl
        have q2 := blk_at (i := 2) HG.out rfl
        have q3 := blk_at (i := 3) HG.out rfl
        have q4 := blk_at (i := 4) HG.out rfl
        have f0 := blk_frozen HG.out 0
        have f1 := blk_frozen HG.out 1
        have f2 := blk_frozen HG.out 2
        have f3 := blk_frozen HG.out 3
        have f4 := blk_frozen HG.out 4
        go_wp2_with fail
        clear q0 f0 q1 f1 q2 f2 q3 f3 q4 f4
        obtain ⟨W1, hW⟩ : ∃ W, W = wn0.setCell ⟨b, 0, none⟩ (.int .u32 n0) := ⟨_, rfl⟩
        rw [← hW]
        replace HGB : Aside0 (W1.heap[w.heap.size]? = _) := ⟨hW ▸ blk_far HGB.out (p := ⟨b, 0, none⟩) (by have := HN.out; simp only; omega) _⟩
        replace HS : Aside0 (W1.heap[gs]? = _) := ⟨hW ▸ blk_far HS.out (p := ⟨b, 0, none⟩) (by have := HN.out; simp only; omega) _⟩
        replace HG : Aside0 (W1.heap[b]? = some (.cells #[.int .u32 n0, .int .i64 1, .int .u32 0, .int .u32 0, .int .u32 0] 25 (0, 0))) := ⟨hW ▸ blk_put HG.out 0 _ rfl⟩
        replace HB : Aside0 (Below w.heap.size w W1) := ⟨hW ▸ below_set HB.out (by have := HN.out; omega)⟩
        clear hW
        have p1 := blk_at (i := 1) HS.out rfl
        rw [rounds_succ]
        go_wp2_with fail
        clear p1
        refine (CN1.out _).mono ?_
        rintro e wn1 ⟨rfl, hdr⟩
        have hb := (show Below W1.heap.size W1 wn1 from hdr.below)
        replace HG := Aside0.mk (blk_below HG.out hb)
        replace HGB := Aside0.mk (blk_below HGB.out hb)
        replace HS := Aside0.mk (blk_below HS.out hb)
        replace HB := Aside0.mk (below_step HB.out hb)
        clear hb hdr
        have q0 := blk_at (i := 0) HG.out rfl
        have q1 := blk_at (i := 1) HG.out rfl
        have q2 := blk_at (i := 2) HG.out rfl
        have q3 := blk_at (i := 3) HG.out rfl
        have q4 := blk_at (i := 4) HG.out rfl
        have f0 := blk_frozen HG.out 0
        have f1 := blk_frozen HG.out 1
        have f2 := blk_frozen HG.out 2
        have f3 := blk_frozen HG.out 3
        have f4 := blk_frozen HG.out 4
        have z0 := blk_at (i := 0) HGB.out rfl
        have z1 := blk_at (i := 1) HGB.out rfl
        have z2 := blk_at (i := 2) HGB.out rfl
        have z3 := blk_at (i := 3) HGB.out rfl
        have z4 := blk_at (i := 4) HGB.out rfl
        have y0 := blk_frozen HGB.out 0
        have y1 := blk_frozen HGB.out 1
        have y2 := blk_frozen HGB.out 2
        have y3 := blk_frozen HGB.out 3
        have y4 := blk_frozen HGB.out 4
        go_wp2
        rw [HX.out]
        exact bodyPost_ret (v := .tuple #[.agg #[.int .u32 0, .int .i64 0, .int .u32 0, .int .u32 0, .int .u32 0], .int .i64 6]) (by simp [results, Tryd.results10, go_sem, z0, z1, z2, z3, z4]) rfl ⟨rfl, (upd5p (F := fun _ => False) (g := w.heap.size) (a := w) (Upd.of_below HB.out) (fun h => absurd h (Nat.lt_irrefl _)) _ _ _ _ _).below (Nat.le_refl _) (fun _ _ h => h)⟩
      · skip
        have HX : Aside0 (parseF s = ((n0, 1, n1, 0, 0), 0)) := ⟨by rw [HPF.out]; simp [parseW, ← hn0, ← hn1, cb0, cb1]⟩
        subst cb0
        subst cb1
        clear hn0 hn1
        go_enter Tryd.func10, Tryd.ntmps10
        go_wp2_with fail
        have HGB := Aside0.mk (blk_new w (.cells #[.int .u32 0, .int .i64 0, .int .u32 0, .int .u32 0, .int .u32 0] 25))
        replace HB := Aside0.mk (below_alloc (o := .cells #[.int .u32 0, .int .i64 0, .int .u32 0, .int .u32 0, .int .u32 0] 25) HB.out)
        refine (CS.out _ (vars_below HV.out (below_alloc (Below.refl _ _) _))).mono ?_
        rintro e w1 ⟨rfl, hw1⟩
        have HS : Aside0 (w1.heap[(w.alloc (.cells #[.int .u32 0, .int .i64 0, .int .u32 0, .int .u32 0, .int .u32 0] 25)).heap.size]? = some (.cells #[.string x0, .string x1] 9 (0, 0))) := ⟨by rw [hw1]; exact blk_new _ _⟩
        have hb := below_alloc (Below.refl (w.alloc (.cells #[.int .u32 0, .int .i64 0, .int .u32 0, .int .u32 0, .int .u32 0] 25)).heap.size (w.alloc (.cells #[.int .u32 0, .int .i64 0, .int .u32 0, .int .u32 0, .int .u32 0] 25))) (.cells #[.string x0, .string x1] 9)
        replace hb : Below (w.alloc (.cells #[.int .u32 0, .int .i64 0, .int .u32 0, .int .u32 0, .int .u32 0] 25)).heap.size (w.alloc (.cells #[.int .u32 0, .int .i64 0, .int .u32 0, .int .u32 0, .int .u32 0] 25)) w1 := by rw [hw1]; exact hb
        replace HGB := Aside0.mk (blk_below HGB.out hb)
        replace HB := Aside0.mk (below_step HB.out hb)
        have HNS : Aside0 (w.heap.size < (w.alloc (.cells #[.int .u32 0, .int .i64 0, .int .u32 0, .int .u32 0, .int .u32 0] 25)).heap.size) := ⟨by rw [World.size_alloc]; omega⟩
        clear hb hw1
        generalize (w.alloc (.cells #[.int .u32 0, .int .i64 0, .int .u32 0, .int .u32 0, .int .u32 0] 25)).heap.size = gs at HS HNS ⊢
        have hgl := blk_lt HS.out
        go_wp2_with fail
        have HG := Aside0.mk (blk_new w1 (.cells #[.int .u32 0, .int .i64 1, .int .u32 0, .int .u32 0, .int .u32 0] 25))
        have HN : Aside0 (gs < w1.heap.size ∧ w.heap.size < w1.heap.size) := ⟨hgl, blk_lt HGB.out⟩
        replace HGB := Aside0.mk (Base.blk_alloc HGB.out (.cells #[.int .u32 0, .int .i64 1, .int .u32 0, .int .u32 0, .int .u32 0] 25))
        replace HS := Aside0.mk (Base.blk_alloc HS.out (.cells #[.int .u32 0, .int .i64 1, .int .u32 0, .int .u32 0, .int .u32 0] 25))
        replace HB := Aside0.mk (below_alloc (o := (.cells #[.int .u32 0, .int .i64 1, .int .u32 0, .int .u32 0, .int .u32 0] 25)) HB.out)
        obtain ⟨b, hb⟩ : ∃ b, b = w1.heap.size := ⟨_, rfl⟩
        rw [← hb] at HN HG ⊢
        generalize w1.alloc _ = W0 at HG HGB HB HS ⊢
        clear hb hgl
        refine (HTH.out _).mono ?_
        rintro e wt ⟨rfl, rfl⟩
        go_wp2_with fail
        refine wp_loop_rounds 3 ?_
        have p0 := blk_at (i := 0) HS.out rfl
        rw [rounds_succ]
        go_wp2_with fail
        clear p0
        refine (CN0.out _).mono ?_
        rintro e wn0 ⟨rfl, hdr⟩
        have hb := (show Below W0.heap.size W0 wn0 from hdr.below)
        replace HG := Aside0.mk (blk_below HG.out hb)
        replace HGB := Aside0.mk (blk_below HGB.out hb)
        replace HS := Aside0.mk (blk_below HS.out hb)
        replace HB := Aside0.mk (below_step HB.out hb)
        clear hb hdr
        have q0 := blk_at (i := 0) HG.out rfl
        have q1 := blk_at (i := 1) HG.out rfl
        have q2 := blk_at (i := 2) HG.out rfl
        have q3 := blk_at (i := 3) HG.out rfl
        have q4 := blk_at (i := 4) HG.out rfl
        have f0 := blk_frozen HG.out 0
        have f1 := blk_frozen HG.out 1
        have f2 := blk_frozen HG.out 2
        have f3 := blk_frozen HG.out 3
        have f4 := blk_frozen HG.out 4
        go_wp2_with fail
        clear q0 f0 q1 f1 q2 f2 q3 f3 q4 f4
        obtain ⟨W1, hW⟩ : ∃ W, W = wn0.setCell ⟨b, 0, none⟩ (.int .u32 n0) := ⟨_, rfl⟩
        rw [← hW]
        replace HGB : Aside0 (W1.heap[w.heap.size]? = _) := ⟨hW ▸ blk_far HGB.out (p := ⟨b, 0, none⟩) (by have := HN.out; simp only; omega) _⟩
        replace HS : Aside0 (W1.heap[gs]? = _) := ⟨hW ▸ blk_far HS.out (p := ⟨b, 0, none⟩) (by have := HN.out; simp only; omega) _⟩
        replace HG : Aside0 (W1.heap[b]? = some (.cells #[.int .u32 n0, .int .i64 1, .int .u32 0, .int .u32 0, .int .u32 0] 25 (0, 0))) := ⟨hW ▸ blk_put HG.out 0 _ rfl⟩
        replace HB : Aside0 (Below w.heap.size w W1) := ⟨hW ▸ below_set HB.out (by have := HN.out; omega)⟩
        clear hW
        have p1 := blk_at (i := 1) HS.out rfl
        rw [rounds_succ]
        go_wp2_with fail
        clear p1
        refine (CN1.out _).mono ?_
        rintro e wn1 ⟨rfl, hdr⟩
        have hb := (show Below W1.heap.size W1 wn1 from hdr.below)
        replace HG := Aside0.mk (blk_below HG.out hb)
        replace HGB := Aside0.mk (blk_below HGB.out hb)
        replace HS := Aside0.mk (blk_below HS.out hb)
        replace HB := Aside0.mk (below_step HB.out hb)
        clear hb hdr
        have q0 := blk_at (i := 0) HG.out rfl
        have q1 := blk_at (i := 1) HG.out rfl
        have q2 := blk_at (i := 2) HG.out rfl
        have q3 := blk_at (i := 3) HG.out rfl
        have q4 := blk_at (i := 4) HG.out rfl
        have f0 := blk_frozen HG.out 0
        have f1 := blk_frozen HG.out 1
        have f2 := blk_frozen HG.out 2
        have f3 := blk_frozen HG.out 3
        have f4 := blk_frozen HG.out 4
        go_wp2_with fail
        clear q0 f0 q1 f1 q2 f2 q3 f3 q4 f4
        obtain ⟨W2, hW⟩ : ∃ W, W = wn1.setCell ⟨b, 2, none⟩ (.int .u32 n1) := ⟨_, rfl⟩
        rw [← hW]
        replace HGB : Aside0 (W2.heap[w.heap.size]? = _) := ⟨hW ▸ blk_far HGB.out (p := ⟨b, 2, none⟩) (by have := HN.out; simp only; omega) _⟩
        replace HS : Aside0 (W2.heap[gs]? = _) := ⟨hW ▸ blk_far HS.out (p := ⟨b, 2, none⟩) (by have := HN.out; simp only; omega) _⟩
        replace HG : Aside0 (W2.heap[b]? = some (.cells #[.int .u32 n0, .int .i64 1, .int .u32 n1, .int .u32 0, .int .u32 0] 25 (0, 0))) := ⟨hW ▸ blk_put HG.out 2 _ rfl⟩
        replace HB : Aside0 (Below w.heap.size w W2) := ⟨hW ▸ below_set HB.out (by have := HN.out; omega)⟩
        clear hW
        rw [rounds_succ]
        have q0 := blk_at (i := 0) HG.out rfl
        have q1 := blk_at (i := 1) HG.out rfl
        have q2 := blk_at (i := 2) HG.out rfl
        have q3 := blk_at (i := 3) HG.out rfl
        have q4 := blk_at (i := 4) HG.out rfl
        have f0 := blk_frozen HG.out 0
        have f1 := blk_frozen HG.out 1
        have f2 := blk_frozen HG.out 2
        have f3 := blk_frozen HG.out 3
        have f4 := blk_frozen HG.out 4
        have z0 := blk_at (i := 0) HGB.out rfl
        have z1 := blk_at (i := 1) HGB.out rfl
        have z2 := blk_at (i := 2) HGB.out rfl
        have z3 := blk_at (i := 3) HGB.out rfl
        have z4 := blk_at (i := 4) HGB.out rfl
        have y0 := blk_frozen HGB.out 0
        have y1 := blk_frozen HGB.out 1
        have y2 := blk_frozen HGB.out 2
        have y3 := blk_frozen HGB.out 3
        have y4 := blk_frozen HGB.out 4
        go_wp2
        rw [HX.out]
        exact bodyPost_ret (v := .tuple #[.agg #[.int .u32 n0, .int .i64 1, .int .u32 n1, .int .u32 0, .int .u32 0], .int .i64 0]) (by simp [results, Tryd.results10, go_sem, z0, z1, z2, z3, z4]) rfl ⟨rfl, (upd5p (F := fun _ => False) (g := w.heap.size) (a := w) (Upd.of_below HB.out) (fun h => absurd h (Nat.lt_irrefl _)) _ _ _ _ _).below (Nat.le_refl _) (fun _ _ h => h)⟩
    · obtain ⟨x0, x1, x2, rfl⟩ : ∃ x0 x1 x2, ws = [x0, x1, x2] := by
        match ws, hws with
        | [a0, a1, a2], _ => exact ⟨a0, a1, a2, rfl⟩
      have hr0 := numF_range x0
      have hr1 := numF_range x1
      have hr2 := numF_range x2
      have CN0 := Aside0.mk (fun w1 => Q04c.stamp_number.calls (x0.size + 3) x0 (numF x0).1 (numF x0).2 w1 (number_f x0 (by have := hsz x0 (by simp); omega) _ (Nat.le_refl _)))
      obtain ⟨⟨n0, k0⟩, hn0⟩ : ∃ q, q = numF x0 := ⟨_, rfl⟩
      rw [← hn0] at CN0 hr0
      simp only at CN0 hr0
      have CN1 := Aside0.mk (fun w1 => Q04c.stamp_number.calls (x1.size + 3) x1 (numF x1).1 (numF x1).2 w1 (number_f x1 (by have := hsz x1 (by simp); omega) _ (Nat.le_refl _)))
      obtain ⟨⟨n1, k1⟩, hn1⟩ : ∃ q, q = numF x1 := ⟨_, rfl⟩
      rw [← hn1] at CN1 hr1
      simp only at CN1 hr1
      have CN2 := Aside0.mk (fun w1 => Q04c.stamp_number.calls (x2.size + 3) x2 (numF x2).1 (numF x2).2 w1 (number_f x2 (by have := hsz x2 (by simp); omega) _ (Nat.le_refl _)))
      obtain ⟨⟨n2, k2⟩, hn2⟩ : ∃ q, q = numF x2 := ⟨_, rfl⟩
      rw [← hn2] at CN2 hr2
      simp only at CN2 hr2
      have HTH := Aside0.mk (fun w1 => stamp_there_c 2 w1)
      rw [decide_eq_true (by omega)] at HTH
      have wN' : wrap64 2 = 2 := by unfold wrap64; omega
      clear hws hsz wN
      by_cases cb0 : k0 = true
      rotate_left
      · have cb0' : k0 = false := Bool.eq_false_iff.mpr cb0
        have HX : Aside0 (parseF s = badP) := ⟨by rw [HPF.out]; simp [parseW, ← hn0, ← hn1, ← hn2, cb0']⟩
        subst cb0'
        clear cb0
        clear hn0 hn1 hn2
        go_enter Tryd.func10, Tryd.ntmps10
        go_wp2_with fail
        have HGB := Aside0.mk (blk_new w (.cells #[.int .u32 0, .int .i64 0, .int .u32 0, .int .u32 0, .int .u32 0] 25))
        replace HB := Aside0.mk (below_alloc (o := .cells #[.int .u32 0, .int .i64 0, .int .u32 0, .int .u32 0, .int .u32 0] 25) HB.out)
        refine (CS.out _ (vars_below HV.out (below_alloc (Below.refl _ _) _))).mono ?_
        rintro e w1 ⟨rfl, hw1⟩
        have HS : Aside0 (w1.heap[(w.alloc (.cells #[.int .u32 0, .int .i64 0, .int .u32 0, .int .u32 0, .int .u32 0] 25)).heap.size]? = some (.cells #[.string x0, .string x1, .string x2] 9 (0, 0))) := ⟨by rw [hw1]; exact blk_new _ _⟩
        have hb := below_alloc (Below.refl (w.alloc (.cells #[.int .u32 0, .int .i64 0, .int .u32 0, .int .u32 0, .int .u32 0] 25)).heap.size (w.alloc (.cells #[.int .u32 0, .int .i64 0, .int .u32 0, .int .u32 0, .int .u32 0] 25))) (.cells #[.string x0, .string x1, .string x2] 9)
        replace hb : Below (w.alloc (.cells #[.int .u32 0, .int .i64 0, .int .u32 0, .int .u32 0, .int .u32 0] 25)).heap.size (w.alloc (.cells #[.int .u32 0, .int .i64 0, .int .u32 0, .int .u32 0, .int .u32 0] 25)) w1 := by rw [hw1]; exact hb
        replace HGB := Aside0.mk (blk_below HGB.out hb)
        replace HB := Aside0.mk (below_step HB.out hb)
        have HNS : Aside0 (w.heap.size < (w.alloc (.cells #[.int .u32 0, .int .i64 0, .int .u32 0, .int .u32 0, .int .u32 0] 25)).heap.size) := ⟨by rw [World.size_alloc]; omega⟩
        clear hb hw1
        generalize (w.alloc (.cells #[.int .u32 0, .int .i64 0, .int .u32 0, .int .u32 0, .int .u32 0] 25)).heap.size = gs at HS HNS ⊢
        have hgl := blk_lt HS.out
        go_wp2_with fail
        have HG := Aside0.mk (blk_new w1 (.cells #[.int .u32 0, .int .i64 2, .int .u32 0, .int .u32 0, .int .u32 0] 25))
        have HN : Aside0 (gs < w1.heap.size ∧ w.heap.size < w1.heap.size) := ⟨hgl, blk_lt HGB.out⟩
        replace HGB := Aside0.mk (Base.blk_alloc HGB.out (.cells #[.int .u32 0, .int .i64 2, .int .u32 0, .int .u32 0, .int .u32 0] 25))
        replace HS := Aside0.mk (Base.blk_alloc HS.out (.cells #[.int .u32 0, .int .i64 2, .int .u32 0, .int .u32 0, .int .u32 0] 25))
        replace HB := Aside0.mk (below_alloc (o := (.cells #[.int .u32 0, .int .i64 2, .int .u32 0, .int .u32 0, .int .u32 0] 25)) HB.out)
        obtain ⟨b, hb⟩ : ∃ b, b = w1.heap.size := ⟨_, rfl⟩
        rw [← hb] at HN HG ⊢
        generalize w1.alloc _ = W0 at HG HGB HB HS ⊢
        clear hb hgl
        refine (HTH.out _).mono ?_
        rintro e wt ⟨rfl, rfl⟩
        go_wp2_with fail
        refine wp_loop_rounds 4 ?_
        have p0 := blk_at (i := 0) HS.out rfl
        rw [rounds_succ]
        go_wp2_with fail
        clear p0
        refine (CN0.out _).mono ?_
        rintro e wn0 ⟨rfl, hdr⟩
        have hb := (show Below W0.heap.size W0 wn0 from hdr.below)
        replace HG := Aside0.mk (blk_below HG.out hb)
        replace HGB := Aside0.mk (blk_below HGB.out hb)
        replace HS := Aside0.mk (blk_below HS.out hb)
        replace HB := Aside0.mk (below_step HB.out hb)
        clear hb hdr
        have q0 := blk_at (i := 0) HG.out rfl
        have q1 := blk_at (i := 1) HG.out rfl
        have q2 := blk_at (i := 2) HG.out rfl
        have q3 := blk_at (i := 3) HG.out rfl
        have q4 := blk_at (i := 4) HG.out rfl
        have f0 := blk_frozen HG.out 0
        have f1 := blk_frozen HG.out 1
        have f2 := blk_frozen HG.out 2
        have f3 := blk_frozen HG.out 3
        have f4 := blk_frozen HG.out 4
        have z0 := blk_at (i := 0) HGB.out rfl
        have z1 := blk_at (i := 1) HGB.out rfl
        have z2 := blk_at (i := 2) HGB.out rfl
        have z3 := blk_at (i := 3) HGB.out rfl
        have z4 := blk_at (i := 4) HGB.out rfl
        have y0 := blk_frozen HGB.out 0
        have y1 := blk_frozen HGB.out 1
        have y2 := blk_frozen HGB.out 2
        have y3 := blk_frozen HGB.out 3
        have y4 := blk_frozen HGB.out 4
        go_wp2
        rw [HX.out]
        exact bodyPost_ret (v := .tuple #[.agg #[.int .u32 0, .int .i64 0, .int .u32 0, .int .u32 0, .int .u32 0], .int .i64 6]) (by simp [results, Tryd.results10, go_sem, z0, z1, z2, z3, z4]) rfl ⟨rfl, (upd5p (F := fun _ => False) (g := w.heap.size) (a := w) (Upd.of_below HB.out) (fun h => absurd h (Nat.lt_irrefl _)) _ _ _ _ _).below (Nat.le_refl _) (fun _ _ h => h)⟩
      by_cases cb1 : k1 = true
      rotate_left
      · have cb1' : k1 = false := Bool.eq_false_iff.mpr cb1
        have HX : Aside0 (parseF s = badP) := ⟨by rw [HPF.out]; simp [parseW, ← hn0, ← hn1, ← hn2, cb0, cb1']⟩
        subst cb0
        subst cb1'
        clear cb1
        clear hn0 hn1 hn2
        go_enter Tryd.func10, Tryd.ntmps10
        go_wp2_with fail
        have HGB := Aside0.mk (blk_new w (.cells #[.int .u32 0, .int .i64 0, .int .u32 0, .int .u32 0, .int .u32 0] 25))
        replace HB := Aside0.mk (below_alloc (o := .cells #[.int .u32 0, .int .i64 0, .int .u32 0, .int .u32 0, .int .u32 0] 25) HB.out)
        refine (CS.out _ (vars_below HV.out (below_alloc (Below.refl _ _) _))).mono ?_
        rintro e w1 ⟨rfl, hw1⟩
        have HS : Aside0 (w1.heap[(w.alloc (.cells #[.int .u32 0, .int .i64 0, .int .u32 0, .int .u32 0, .int .u32 0] 25)).heap.size]? = some (.cells #[.string x0, .string x1, .string x2] 9 (0, 0))) := ⟨by rw [hw1]; exact blk_new _ _⟩
        have hb := below_alloc (Below.refl (w.alloc (.cells #[.int .u32 0, .int .i64 0, .int .u32 0, .int .u32 0, .int .u32 0] 25)).heap.size (w.alloc (.cells #[.int .u32 0, .int .i64 0, .int .u32 0, .int .u32 0, .int .u32 0] 25))) (.cells #[.string x0, .string x1, .string x2] 9)
        replace hb : Below (w.alloc (.cells #[.int .u32 0, .int .i64 0, .int .u32 0, .int .u32 0, .int .u32 0] 25)).heap.size (w.alloc (.cells #[.int .u32 0, .int .i64 0, .int .u32 0, .int .u32 0, .int .u32 0] 25)) w1 := by rw [hw1]; exact hb
        replace HGB := Aside0.mk (blk_below HGB.out hb)
        replace HB := Aside0.mk (below_step HB.out hb)
        have HNS : Aside0 (w.heap.size < (w.alloc (.cells #[.int .u32 0, .int .i64 0, .int .u32 0, .int .u32 0, .int .u32 0] 25)).heap.size) := ⟨by rw [World.size_alloc]; omega⟩
        clear hb hw1
        generalize (w.alloc (.cells #[.int .u32 0, .int .i64 0, .int .u32 0, .int .u32 0, .int .u32 0] 25)).heap.size = gs at HS HNS ⊢
        have hgl := blk_lt HS.out
        go_wp2_with fail
        have HG := Aside0.mk (blk_new w1 (.cells #[.int .u32 0, .int .i64 2, .int .u32 0, .int .u32 0, .int .u32 0] 25))
        have HN : Aside0 (gs < w1.heap.size ∧ w.heap.size < w1.heap.size) := ⟨hgl, blk_lt HGB.out⟩
        replace HGB := Aside0.mk (Base.blk_alloc HGB.out (.cells #[.int .u32 0, .int .i64 2, .int .u32 0, .int .u32 0, .int .u32 0] 25))
        replace HS := Aside0.mk (Base.blk_alloc HS.out (.cells #[.int .u32 0, .int .i64 2, .int .u32 0, .int .u32 0, .int .u32 0] 25))
        replace HB := Aside0.mk (below_alloc (o := (.cells #[.int .u32 0, .int .i64 2, .int .u32 0, .int .u32 0, .int .u32 0] 25)) HB.out)
        obtain ⟨b, hb⟩ : ∃ b, b = w1.heap.size := ⟨_, rfl⟩
        rw [← hb] at HN HG ⊢
        generalize w1.alloc _ = W0 at HG HGB HB HS ⊢
        clear hb hgl
        refine (HTH.out _).mono ?_
        rintro e wt ⟨rfl, rfl⟩
        go_wp2_with fail
        refine wp_loop_rounds 4 ?_
        have p0 := blk_at (i := 0) HS.out rfl
        rw [rounds_succ]
        go_wp2_with fail
        clear p0
        refine (CN0.out _).mono ?_
        rintro e wn0 ⟨rfl, hdr⟩
        have hb := (show Below W0.heap.size W0 wn0 from hdr.below)
        replace HG := Aside0.mk (blk_below HG.out hb)
        replace HGB := Aside0.mk (blk_below HGB.out hb)
        replace HS := Aside0.mk (blk_below HS.out hb)
        replace HB := Aside0.mk (below_step HB.out hb)
        clear hb hdr
        have q0 := blk_at (i := 0) HG.out rfl
        have q1 := blk_at (i := 1) HG.out rfl
        have q2 := blk_at (i := 2) HG.out rfl
        have q3 := blk_at (i := 3) HG.out rfl
        have q4 := blk_at (i := 4) HG.out rfl
        have f0 := blk_frozen HG.out 0
        have f1 := blk_frozen HG.out 1
        have f2 := blk_frozen HG.out 2
        have f3 := blk_frozen HG.out 3
        have f4 := blk_frozen HG.out 4
        go_wp2_with fail
        clear q0 f0 q1 f1 q2 f2 q3 f3 q4 f4
        obtain ⟨W1, hW⟩ : ∃ W, W = wn0.setCell ⟨b, 0, none⟩ (.int .u32 n0) := ⟨_, rfl⟩
        rw [← hW]
        replace HGB : Aside0 (W1.heap[w.heap.size]? = _) := ⟨hW ▸ blk_far HGB.out (p := ⟨b, 0, none⟩) (by have := HN.out; simp only; omega) _⟩
        replace HS : Aside0 (W1.heap[gs]? = _) := ⟨hW ▸ blk_far HS.out (p := ⟨b, 0, none⟩) (by have := HN.out; simp only; omega) _⟩
        replace HG : Aside0 (W1.heap[b]? = some (.cells #[.int .u32 n0, .int .i64 2, .int .u32 0, .int .u32 0, .int .u32 0] 25 (0, 0))) := ⟨hW ▸ blk_put HG.out 0 _ rfl⟩
        replace HB : Aside0 (Below w.heap.size w W1) := ⟨hW ▸ below_set HB.out (by have := HN.out; omega)⟩
        clear hW
        have p1 := blk_at (i := 1) HS.out rfl
        rw [rounds_succ]
        go_wp2_with fail
        clear p1
        refine (CN1.out _).mono ?_
        rintro e wn1 ⟨rfl, hdr⟩
        have hb := (show Below W1.heap.size W1 wn1 from hdr.below)
        replace HG := Aside0.mk (blk_below HG.out hb)
        replace HGB := Aside0.mk (blk_below HGB.out hb)
        replace HS := Aside0.mk (blk_below HS.out hb)
        replace HB := Aside0.mk (below_step HB.out hb)
        clear hb hdr
        have q0 := blk_at (i := 0) HG.out rfl
        have q1 := blk_at (i := 1) HG.out rfl
        have q2 := blk_at (i := 2) HG.out rfl
        have q3 := blk_at (i := 3) HG.out rfl
        have q4 := blk_at (i := 4) HG.out rfl
        have f0 := blk_frozen HG.out 0
        have f1 := blk_frozen HG.out 1
        have f2 := blk_frozen HG.out 2
        have f3 := blk_frozen HG.out 3
        have f4 := blk_frozen HG.out 4
        have z0 := blk_at (i := 0) HGB.out rfl
        have z1 := blk_at (i := 1) HGB.out rfl
        have z2 := blk_at (i := 2) HGB.out rfl
        have z3 := blk_at (i := 3) HGB.out rfl
        have z4 := blk_at (i := 4) HGB.out rfl
        have y0 := blk_frozen HGB.out 0
        have y1 := blk_frozen HGB.out 1
        have y2 := blk_frozen HGB.out 2
        have y3 := blk_frozen HGB.out 3
        have y4 := blk_frozen HGB.out 4
        go_wp2
        rw [HX.out]
        exact bodyPost_ret (v := .tuple #[.agg #[.int .u32 0, .int .i64 0, .int .u32 0, .int .u32 0, .int .u32 0], .int .i64 6]) (by simp [results, Tryd.results10, go_sem, z0, z1, z2, z3, z4]) rfl ⟨rfl, (upd5p (F := fun _ => False) (g := w.heap.size) (a := w) (Upd.of_below HB.out) (fun h => absurd h (Nat.lt_irrefl _)) _ _ _ _ _).below (Nat.le_refl _) (fun _ _ h => h)⟩
      by_cases cb2 : k2 = true
      rotate_left
      · have cb2' : k2 = false := Bool.eq_false_iff.mpr cb2
        have HX : Aside0 (parseF s = badP) := ⟨by rw [HPF.out]; simp [parseW, ← hn0, ← hn1, ← hn2, cb0, cb1, cb2']⟩
        subst cb0
        subst cb1
        subst cb2'
        clear cb2
        clear hn0 hn1 hn2
        go_enter Tryd.func10, Tryd.ntmps10
        go_wp2_with fail
        have HGB := Aside0.mk (blk_new w (.cells #[.int .u32 0, .int .i64 0, .int .u32 0, .int .u32 0, .int .u32 0] 25))
        replace HB := Aside0.mk (below_alloc (o := .cells #[.int .u32 0, .int .i64 0, .int .u32 0, .int .u32 0, .int .u32 0] 25) HB.out)
        refine (CS.out _ (vars_below HV.out (below_alloc (Below.refl _ _) _))).mono ?_
        rintro e w1 ⟨rfl, hw1⟩
        have HS : Aside0 (w1.heap[(w.alloc (.cells #[.int .u32 0, .int .i64 0, .int .u32 0, .int .u32 0, .int .u32 0] 25)).heap.size]? = some (.cells #[.string x0, .string x1, .string x2] 9 (0, 0))) := ⟨by rw [hw1]; exact blk_new _ _⟩
        have hb := below_alloc (Below.refl (w.alloc (.cells #[.int .u32 0, .int .i64 0, .int .u32 0, .int .u32 0, .int .u32 0] 25)).heap.size (w.alloc (.cells #[.int .u32 0, .int .i64 0, .int .u32 0, .int .u32 0, .int .u32 0] 25))) (.cells #[.string x0, .string x1, .string x2] 9)
        replace hb : Below (w.alloc (.cells #[.int .u32 0, .int .i64 0, .int .u32 0, .int .u32 0, .int .u32 0] 25)).heap.size (w.alloc (.cells #[.int .u32 0, .int .i64 0, .int .u32 0, .int .u32 0, .int .u32 0] 25)) w1 := by rw [hw1]; exact hb
        replace HGB := Aside0.mk (blk_below HGB.out hb)
        replace HB := Aside0.mk (below_step HB.out hb)
        have HNS : Aside0 (w.heap.size < (w.alloc (.cells #[.int .u32 0, .int .i64 0, .int .u32 0, .int .u32 0, .int .u32 0] 25)).heap.size) := ⟨by rw [World.size_alloc]; omega⟩
        clear hb hw1
        generalize (w.alloc (.cells #[.int .u32 0, .int .i64 0, .int .u32 0, .int .u32 0, .int .u32 0] 25)).heap.size = gs at HS HNS ⊢
        have hgl := blk_lt HS.out
        go_wp2_with fail
        have HG := Aside0.mk (blk_new w1 (.cells #[.int .u32 0, .int .i64 2, .int .u32 0, .int .u32 0, .int .u32 0] 25))
        have HN : Aside0 (gs < w1.heap.size ∧ w.heap.size < w1.heap.size) := ⟨hgl, blk_lt HGB.out⟩
        replace HGB := Aside0.mk (Base.blk_alloc HGB.out (.cells #[.int .u32 0, .int .i64 2, .int .u32 0, .int .u32 0, .int .u32 0] 25))
        replace HS := Aside0.mk (Base.blk_alloc HS.out (.cells #[.int .u32 0, .int .i64 2, .int .u32 0, .int .u32 0, .int .u32 0] 25))
        replace HB := Aside0.mk (below_alloc (o := (.cells #[.int .u32 0, .int .i64 2, .int .u32 0, .int .u32 0, .int .u32 0] 25)) HB.out)
        obtain ⟨b, hb⟩ : ∃ b, b = w1.heap.size := ⟨_, rfl⟩
        rw [← hb] at HN HG ⊢
        generalize w1.alloc _ = W0 at HG HGB HB HS ⊢
        clear hb hgl
        refine (HTH.out _).mono ?_
        rintro e wt ⟨rfl, rfl⟩
        go_wp2_with fail
        refine wp_loop_rounds 4 ?_
        have p0 := blk_at (i := 0) HS.out rfl
        rw [rounds_succ]
        go_wp2_with fail
        clear p0
        refine (CN0.out _).mono ?_
        rintro e wn0 ⟨rfl, hdr⟩
        have hb := (show Below W0.heap.size W0 wn0 from hdr.below)
        replace HG := Aside0.mk (blk_below HG.out hb)
        replace HGB := Aside0.mk (blk_below HGB.out hb)
        replace HS := Aside0.mk (blk_below HS.out hb)
        replace HB := Aside0.mk (below_step HB.out hb)
        clear hb hdr
        have q0 := blk_at (i := 0) HG.out rfl
        have q1 := blk_at (i := 1) HG.out rfl
        have q2 := blk_at (i := 2) HG.out rfl
        have q3 := blk_at (i := 3) HG.out rfl
        have q4 := blk_at (i := 4) HG.out rfl
        have f0 := blk_frozen HG.out 0
        have f1 := blk_frozen HG.out 1
        have f2 := blk_frozen HG.out 2
        have f3 := blk_frozen HG.out 3
        have f4 := blk_frozen HG.out 4
        go_wp2_with fail
        clear q0 f0 q1 f1 q2 f2 q3 f3 q4 f4
        obtain ⟨W1, hW⟩ : ∃ W, W = wn0.setCell ⟨b, 0, none⟩ (.int .u32 n0) := ⟨_, rfl⟩
        rw [← hW]
        replace HGB : Aside0 (W1.heap[w.heap.size]? = _) := ⟨hW ▸ blk_far HGB.out (p := ⟨b, 0, none⟩) (by have := HN.out; simp only; omega) _⟩
        replace HS : Aside0 (W1.heap[gs]? = _) := ⟨hW ▸ blk_far HS.out (p := ⟨b, 0, none⟩) (by have := HN.out; simp only; omega) _⟩
        replace HG : Aside0 (W1.heap[b]? = some (.cells #[.int .u32 n0, .int .i64 2, .int .u32 0, .int .u32 0, .int .u32 0] 25 (0, 0))) := ⟨hW ▸ blk_put HG.out 0 _ rfl⟩
        replace HB : Aside0 (Below w.heap.size w W1) := ⟨hW ▸ below_set HB.out (by have := HN.out; omega)⟩
        clear hW
        have p1 := blk_at (i := 1) HS.out rfl
        rw [rounds_succ]
        go_wp2_with fail
        clear p1
        refine (CN1.out _).mono ?_
        rintro e wn1 ⟨rfl, hdr⟩
        have hb := (show Below W1.heap.size W1 wn1 from hdr.below)
        replace HG := Aside0.mk (blk_below HG.out hb)
        replace HGB := Aside0.mk (blk_below HGB.out hb)
        replace HS := Aside0.mk (blk_below HS.out hb)
        replace HB := Aside0.mk (below_step HB.out hb)
        clear hb hdr
        have q0 := blk_at (i := 0) HG.out rfl
        have q1 := blk_at (i := 1) HG.out rfl
        have q2 := blk_at (i := 2) HG.out rfl
        have q3 := blk_at (i := 3) HG.out rfl
        have q4 := blk_at (i := 4) HG.out rfl
        have f0 := blk_frozen HG.out 0
        have f1 := blk_frozen HG.out 1
        have f2 := blk_frozen HG.out 2
        have f3 := blk_frozen HG.out 3
        have f4 := blk_frozen HG.out 4
        go_wp2_with fail
        clear q0 f0 q1 f1 q2 f2 q3 f3 q4 f4
        obtain ⟨W2, hW⟩ : ∃ W, W = wn1.setCell ⟨b, 2, none⟩ (.int .u32 n1) := ⟨_, rfl⟩
        rw [← hW]
        replace HGB : Aside0 (W2.heap[w.heap.size]? = _) := ⟨hW ▸ blk_far HGB.out (p := ⟨b, 2, none⟩) (by have := HN.out; simp only; omega) _⟩
        replace HS : Aside0 (W2.heap[gs]? = _) := ⟨hW ▸ blk_far HS.out (p := ⟨b, 2, none⟩) (by have := HN.out; simp only; omega) _⟩
        replace HG : Aside0 (W2.heap[b]? = some (.cells #[.int .u32 n0, .int .i64 2, .int .u32 n1, .int .u32 0, .int .u32 0] 25 (0, 0))) := ⟨hW ▸ blk_put HG.out 2 _ rfl⟩
        replace HB : Aside0 (Below w.heap.size w W2) := ⟨hW ▸ below_set HB.out (by have := HN.out; omega)⟩
        clear hW
        have p2 := blk_at (i := 2) HS.out rfl
        rw [rounds_succ]
        go_wp2_with fail
        clear p2
        refine (CN2.out _).mono ?_
        rintro e wn2 ⟨rfl, hdr⟩
        have hb := (show Below W2.heap.size W2 wn2 from hdr.below)
        replace HG := Aside0.mk (blk_below HG.out hb)
        replace HGB := Aside0.mk (blk_below HGB.out hb)
        replace HS := Aside0.mk (blk_below HS.out hb)
        replace HB := Aside0.mk (below_step HB.out hb)
        clear hb hdr
        have q0 := blk_at (i := 0) HG.out rfl
        have q1 := blk_at (i := 1) HG.out rfl
        have q2 := blk_at (i := 2) HG.out rfl
        have q3 := blk_at (i := 3) HG.out rfl
        have q4 := blk_at (i := 4) HG.out rfl
        have f0 := blk_frozen HG.out 0
        have f1 := blk_frozen HG.out 1
        have f2 := blk_frozen HG.out 2
        have f3 := blk_frozen HG.out 3
        have f4 := blk_frozen HG.out 4
        have z0 := blk_at (i := 0) HGB.out rfl
        have z1 := blk_at (i := 1) HGB.out rfl
        have z2 := blk_at (i := 2) HGB.out rfl
        have z3 := blk_at (i := 3) HGB.out rfl
        have z4 := blk_at (i := 4) HGB.out rfl
        have y0 := blk_frozen HGB.out 0
        have y1 := blk_frozen HGB.out 1
        have y2 := blk_frozen HGB.out 2
        have y3 := blk_frozen HGB.out 3
        have y4 := blk_frozen HGB.out 4
        go_wp2
        rw [HX.out]
        exact bodyPost_ret (v := .tuple #[.agg #[.int .u32 0, .int .i64 0, .int .u32 0, .int .u32 0, .int .u32 0], .int .i64 6]) (by simp [results, Tryd.results10, go_sem, z0, z1, z2, z3, z4]) rfl ⟨rfl, (upd5p (F := fun _ => False) (g := w.heap.size) (a := w) (Upd.of_below HB.out) (fun h => absurd h (Nat.lt_irrefl _)) _ _ _ _ _).below (Nat.le_refl _) (fun _ _ h => h)⟩
      · skip
        have HX : Aside0 (parseF s = ((n0, 2, n1, n2, 0), 0)) := ⟨by rw [HPF.out]; simp [parseW, ← hn0, ← hn1, ← hn2, cb0, cb1, cb2]⟩
        subst cb0
        subst cb1
        subst cb2
        clear hn0 hn1 hn2
        go_enter Tryd.func10, Tryd.ntmps10
        go_wp2_with fail
        have HGB := Aside0.mk (blk_new w (.cells #[.int .u32 0, .int .i64 0, .int .u32 0, .int .u32 0, .int .u32 0] 25))
        replace HB := Aside0.mk (below_alloc (o := .cells #[.int .u32 0, .int .i64 0, .int .u32 0, .int .u32 0, .int .u32 0] 25) HB.out)
        refine (CS.out _ (vars_below HV.out (below_alloc (Below.refl _ _) _))).mono ?_
        rintro e w1 ⟨rfl, hw1⟩
        have HS : Aside0 (w1.heap[(w.alloc (.cells #[.int .u32 0, .int .i64 0, .int .u32 0, .int .u32 0, .int .u32 0] 25)).heap.size]? = some (.cells #[.string x0, .string x1, .string x2] 9 (0, 0))) := ⟨by rw [hw1]; exact blk_new _ _⟩
        have hb := below_alloc (Below.refl (w.alloc (.cells #[.int .u32 0, .int .i64 0, .int .u32 0, .int .u32 0, .int .u32 0] 25)).heap.size (w.alloc (.cells #[.int .u32 0, .int .i64 0, .int .u32 0, .int .u32 0, .int .u32 0] 25))) (.cells #[.string x0, .string x1, .string x2] 9)
        replace hb : Below (w.alloc (.cells #[.int .u32 0, .int .i64 0, .int .u32 0, .int .u32 0, .int .u32 0] 25)).heap.size (w.alloc (.cells #[.int .u32 0, .int .i64 0, .int .u32 0, .int .u32 0, .int .u32 0] 25)) w1 := by rw [hw1]; exact hb
        replace HGB := Aside0.mk (blk_below HGB.out hb)
        replace HB := Aside0.mk (below_step HB.out hb)
        have HNS : Aside0 (w.heap.size < (w.alloc (.cells #[.int .u32 0, .int .i64 0, .int .u32 0, .int .u32 0, .int .u32 0] 25)).heap.size) := ⟨by rw [World.size_alloc]; omega⟩
        clear hb hw1
        generalize (w.alloc (.cells #[.int .u32 0, .int .i64 0, .int .u32 0, .int .u32 0, .int .u32 0] 25)).heap.size = gs at HS HNS ⊢
        have hgl := blk_lt HS.out
        go_wp2_with fail
        have HG := Aside0.mk (blk_new w1 (.cells #[.int .u32 0, .int .i64 2, .int .u32 0, .int .u32 0, .int .u32 0] 25))
        have HN : Aside0 (gs < w1.heap.size ∧ w.heap.size < w1.heap.size) := ⟨hgl, blk_lt HGB.out⟩
        replace HGB := Aside0.mk (Base.blk_alloc HGB.out (.cells #[.int .u32 0, .int .i64 2, .int .u32 0, .int .u32 0, .int .u32 0] 25))
        replace HS := Aside0.mk (Base.blk_alloc HS.out (.cells #[.int .u32 0, .int .i64 2, .int .u32 0, .int .u32 0, .int .u32 0] 25))
        replace HB := Aside0.mk (below_alloc (o := (.cells #[.int .u32 0, .int .i64 2, .int .u32 0, .int .u32 0, .int .u32 0] 25)) HB.out)
        obtain ⟨b, hb⟩ : ∃ b, b = w1.heap.size := ⟨_, rfl⟩
        rw [← hb] at HN HG ⊢
        generalize w1.alloc _ = W0 at HG HGB HB HS ⊢
        clear hb hgl
        refine (HTH.out _).mono ?_
        rintro e wt ⟨rfl, rfl⟩
        go_wp2_with fail
        refine wp_loop_rounds 4 ?_
        have p0 := blk_at (i := 0) HS.out rfl
        rw [rounds_succ]
        go_wp2_with fail
        clear p0
        refine (CN0.out _).mono ?_
        rintro e wn0 ⟨rfl, hdr⟩
        have hb := (show Below W0.heap.size W0 wn0 from hdr.below)
        replace HG := Aside0.mk (blk_below HG.out hb)
        replace HGB := Aside0.mk (blk_below HGB.out hb)
        replace HS := Aside0.mk (blk_below HS.out hb)
        replace HB := Aside0.mk (below_step HB.out hb)
        clear hb hdr
        have q0 := blk_at (i := 0) HG.out rfl
        have q1 := blk_at (i := 1) HG.out rfl
        have q2 := blk_at (i := 2) HG.out rfl
        have q3 := blk_at (i := 3) HG.out rfl
        have q4 := blk_at (i := 4) HG.out rfl
        have f0 := blk_frozen HG.out 0
        have f1 := blk_frozen HG.out 1
        have f2 := blk_frozen HG.out 2
        have f3 := blk_frozen HG.out 3
        have f4 := blk_frozen HG.out 4
        go_wp2_with fail
        clear q0 f0 q1 f1 q2 f2 q3 f3 q4 f4
        obtain ⟨W1, hW⟩ : ∃ W, W = wn0.setCell ⟨b, 0, none⟩ (.int .u32 n0) := ⟨_, rfl⟩
        rw [← hW]
        replace HGB : Aside0 (W1.heap[w.heap.size]? = _) := ⟨hW ▸ blk_far HGB.out (p := ⟨b, 0, none⟩) (by have := HN.out; simp only; omega) _⟩
        replace HS : Aside0 (W1.heap[gs]? = _) := ⟨hW ▸ blk_far HS.out (p := ⟨b, 0, none⟩) (by have := HN.out; simp only; omega) _⟩
        replace HG : Aside0 (W1.heap[b]? = some (.cells #[.int .u32 n0, .int .i64 2, .int .u32 0, .int .u32 0, .int .u32 0] 25 (0, 0))) := ⟨hW ▸ blk_put HG.out 0 _ rfl⟩
        replace HB : Aside0 (Below w.heap.size w W1) := ⟨hW ▸ below_set HB.out (by have := HN.out; omega)⟩
        clear hW
        have p1 := blk_at (i := 1) HS.out rfl
        rw [rounds_succ]
        go_wp2_with fail
        clear p1
        refine (CN1.out _).mono ?_
        rintro e wn1 ⟨rfl, hdr⟩
        have hb := (show Below W1.heap.size W1 wn1 from hdr.below)
        replace HG := Aside0.mk (blk_below HG.out hb)
        replace HGB := Aside0.mk (blk_below HGB.out hb)
        replace HS := Aside0.mk (blk_below HS.out hb)
        replace HB := Aside0.mk (below_step HB.out hb)
        clear hb hdr
        have q0 := blk_at (i := 0) HG.out rfl
        have q1 := blk_at (i := 1) HG.out rfl
        have q2 := blk_at (i := 2) HG.out rfl
        have q3 := blk_at (i := 3) HG.out rfl
        have q4 := blk_at (i := 4) HG.out rfl
        have f0 := blk_frozen HG.out 0
        have f1 := blk_frozen HG.out 1
        have f2 := blk_frozen HG.out 2
        have f3 := blk_frozen HG.out 3
        have f4 := blk_frozen HG.out 4
        go_wp2_with fail
        clear q0 f0 q1 f1 q2 f2 q3 f3 q4 f4
        obtain ⟨W2, hW⟩ : ∃ W, W = wn1.setCell ⟨b, 2, none⟩ (.int .u32 n1) := ⟨_, rfl⟩
        rw [← hW]
        replace HGB : Aside0 (W2.heap[w.heap.size]? = _) := ⟨hW ▸ blk_far HGB.out (p := ⟨b, 2, none⟩) (by have := HN.out; simp only; omega) _⟩
        replace HS : Aside0 (W2.heap[gs]? = _) := ⟨hW ▸ blk_far HS.out (p := ⟨b, 2, none⟩) (by have := HN.out; simp only; omega) _⟩
        replace HG : Aside0 (W2.heap[b]? = some (.cells #[.int .u32 n0, .int .i64 2, .int .u32 n1, .int .u32 0, .int .u32 0] 25 (0, 0))) := ⟨hW ▸ blk_put HG.out 2 _ rfl⟩
        replace HB : Aside0 (Below w.heap.size w W2) := ⟨hW ▸ below_set HB.out (by have := HN.out; omega)⟩
        clear hW
        have p2 := blk_at (i := 2) HS.out rfl
        rw [rounds_succ]
        go_wp2_with fail
        clear p2
        refine (CN2.out _).mono ?_
        rintro e wn2 ⟨rfl, hdr⟩
        have hb := (show Below W2.heap.size W2 wn2 from hdr.below)
        replace HG := Aside0.mk (blk_below HG.out hb)
        replace HGB := Aside0.mk (blk_below HGB.out hb)
        replace HS := Aside0.mk (blk_below HS.out hb)
        replace HB := Aside0.mk (below_step HB.out hb)
        clear hb hdr
        have q0 := blk_at (i := 0) HG.out rfl
        have q1 := blk_at (i := 1) HG.out rfl
        have q2 := blk_at (i := 2) HG.out rfl
        have q3 := blk_at (i := 3) HG.out rfl
        have q4 := blk_at (i := 4) HG.out rfl
        have f0 := blk_frozen HG.out 0
        have f1 := blk_frozen HG.out 1
        have f2 := blk_frozen HG.out 2
        have f3 := blk_frozen HG.out 3
        have f4 := blk_frozen HG.out 4
        go_wp2_with fail
        clear q0 f0 q1 f1 q2 f2 q3 f3 q4 f4
        obtain ⟨W3, hW⟩ : ∃ W, W = wn2.setCell ⟨b, 3, none⟩ (.int .u32 n2) := ⟨_, rfl⟩
        rw [← hW]
        replace HGB : Aside0 (W3.heap[w.heap.size]? = _) := ⟨hW ▸ blk_far HGB.out (p := ⟨b, 3, none⟩) (by have := HN.out; simp only; omega) _⟩
        replace HS : Aside0 (W3.heap[gs]? = _) := ⟨hW ▸ blk_far HS.out (p := ⟨b, 3, none⟩) (by have := HN.out; simp only; omega) _⟩
        replace HG : Aside0 (W3.heap[b]? = some (.cells #[.int .u32 n0, .int .i64 2, .int .u32 n1, .int .u32 n2, .int .u32 0] 25 (0, 0))) := ⟨hW ▸ blk_put HG.out 3 _ rfl⟩
        replace HB : Aside0 (Below w.heap.size w W3) := ⟨hW ▸ below_set HB.out (by have := HN.out; omega)⟩
        clear hW
        rw [rounds_succ]
        have q0 := blk_at (i := 0) HG.out rfl
        have q1 := blk_at (i := 1) HG.out rfl
        have q2 := blk_at (i := 2) HG.out rfl
        have q3 := blk_at (i := 3) HG.out rfl
        have q4 := blk_at (i := 4) HG.out rfl
        have f0 := blk_frozen HG.out 0
        have f1 := blk_frozen HG.out 1
        have f2 := blk_frozen HG.out 2
        have f3 := blk_frozen HG.out 3
        have f4 := blk_frozen HG.out 4
        have z0 := blk_at (i := 0) HGB.out rfl
        have z1 := blk_at (i := 1) HGB.out rfl
        have z2 := blk_at (i := 2) HGB.out rfl
        have z3 := blk_at (i := 3) HGB.out rfl
        have z4 := blk_at (i := 4) HGB.out rfl
        have y0 := blk_frozen HGB.out 0
        have y1 := blk_frozen HGB.out 1
        have y2 := blk_frozen HGB.out 2
        have y3 := blk_frozen HGB.out 3
        have y4 := blk_frozen HGB.out 4
        go_wp2
        rw [HX.out]
        exact bodyPost_ret (v := .tuple #[.agg #[.int .u32 n0, .int .i64 2, .int .u32 n1, .int .u32 n2, .int .u32 0], .int .i64 0]) (by simp [results, Tryd.results10, go_sem, z0, z1, z2, z3, z4]) rfl ⟨rfl, (upd5p (F := fun _ => False) (g := w.heap.size) (a := w) (Upd.of_below HB.out) (fun h => absurd h (Nat.lt_irrefl _)) _ _ _ _ _).below (Nat.le_refl _) (fun _ _ h => h)⟩
    · obtain ⟨x0, x1, x2, x3, rfl⟩ : ∃ x0 x1 x2 x3, ws = [x0, x1, x2, x3] := by
        match ws, hws with
        | [a0, a1, a2, a3], _ => exact ⟨a0, a1, a2, a3, rfl⟩
      have hr0 := numF_range x0
      have hr1 := numF_range x1
      have hr2 := numF_range x2
      have hr3 := numF_range x3
      have CN0 := Aside0.mk (fun w1 => Q04c.stamp_number.calls (x0.size + 3) x0 (numF x0).1 (numF x0).2 w1 (number_f x0 (by have := hsz x0 (by simp); omega) _ (Nat.le_refl _)))
      obtain ⟨⟨n0, k0⟩, hn0⟩ : ∃ q, q = numF x0 := ⟨_, rfl⟩
      rw [← hn0] at CN0 hr0
      simp only at CN0 hr0
      have CN1 := Aside0.mk (fun w1 => Q04c.stamp_number.calls (x1.size + 3) x1 (numF x1).1 (numF x1).2 w1 (number_f x1 (by have := hsz x1 (by simp); omega) _ (Nat.le_refl _)))
      obtain ⟨⟨n1, k1⟩, hn1⟩ : ∃ q, q = numF x1 := ⟨_, rfl⟩
      rw [← hn1] at CN1 hr1
      simp only at CN1 hr1
      have CN2 := Aside0.mk (fun w1 => Q04c.stamp_number.calls (x2.size + 3) x2 (numF x2).1 (numF x2).2 w1 (number_f x2 (by have := hsz x2 (by simp); omega) _ (Nat.le_refl _)))
      obtain ⟨⟨n2, k2⟩, hn2⟩ : ∃ q, q = numF x2 := ⟨_, rfl⟩
      rw [← hn2] at CN2 hr2
      simp only at CN2 hr2
      have CN3 := Aside0.mk (fun w1 => Q04c.stamp_number.calls (x3.size + 3) x3 (numF x3).1 (numF x3).2 w1 (number_f x3 (by have := hsz x3 (by simp); omega) _ (Nat.le_refl _)))
      obtain ⟨⟨n3, k3⟩, hn3⟩ : ∃ q, q = numF x3 := ⟨_, rfl⟩
      rw [← hn3] at CN3 hr3
      simp only at CN3 hr3
      have HTH := Aside0.mk (fun w1 => stamp_there_c 3 w1)
      rw [decide_eq_true (by omega)] at HTH
      have wN' : wrap64 3 = 3 := by unfold wrap64; omega
      clear hws hsz wN
      by_cases cb0 : k0 = true
      rotate_left
      · have cb0' : k0 = false := Bool.eq_false_iff.mpr cb0
        have HX : Aside0 (parseF s = badP) := ⟨by rw [HPF.out]; simp [parseW, ← hn0, ← hn1, ← hn2, ← hn3, cb0']⟩
        subst cb0'
        clear cb0
        clear hn0 hn1 hn2 hn3
        go_enter Tryd.func10, Tryd.ntmps10
        go_wp2_with fail
        have HGB := Aside0.mk (blk_new w (.cells #[.int .u32 0, .int .i64 0, .int .u32 0, .int .u32 0, .int .u32 0] 25))
        replace HB := Aside0.mk (below_alloc (o := .cells #[.int .u32 0, .int .i64 0, .int .u32 0, .int .u32 0, .int .u32 0] 25) HB.out)
        refine (CS.out _ (vars_below HV.out (below_alloc (Below.refl _ _) _))).mono ?_
        rintro e w1 ⟨rfl, hw1⟩
        have HS : Aside0 (w1.heap[(w.alloc (.cells #[.int .u32 0, .int .i64 0, .int .u32 0, .int .u32 0, .int .u32 0] 25)).heap.size]? = some (.cells #[.string x0, .string x1, .string x2, .string x3] 9 (0, 0))) := ⟨by rw [hw1]; exact blk_new _ _⟩
        have hb := below_alloc (Below.refl (w.alloc (.cells #[.int .u32 0, .int .i64 0, .int .u32 0, .int .u32 0, .int .u32 0] 25)).heap.size (w.alloc (.cells #[.int .u32 0, .int .i64 0, .int .u32 0, .int .u32 0, .int .u32 0] 25))) (.cells #[.string x0, .string x1, .string x2, .string x3] 9)
        replace hb : Below (w.alloc (.cells #[.int .u32 0, .int .i64 0, .int .u32 0, .int .u32 0, .int .u32 0] 25)).heap.size (w.alloc (.cells #[.int .u32 0, .int .i64 0, .int .u32 0, .int .u32 0, .int .u32 0] 25)) w1 := by rw [hw1]; exact hb
        replace HGB := Aside0.mk (blk_below HGB.out hb)
        replace HB := Aside0.mk (below_step HB.out hb)
        have HNS : Aside0 (w.heap.size < (w.alloc (.cells #[.int .u32 0, .int .i64 0, .int .u32 0, .int .u32 0, .int .u32 0] 25)).heap.size) := ⟨by rw [World.size_alloc]; omega⟩
        clear hb hw1
        generalize (w.alloc (.cells #[.int .u32 0, .int .i64 0, .int .u32 0, .int .u32 0, .int .u32 0] 25)).heap.size = gs at HS HNS ⊢
        have hgl := blk_lt HS.out
        go_wp2_with fail
        have HG := Aside0.mk (blk_new w1 (.cells #[.int .u32 0, .int .i64 3, .int .u32 0, .int .u32 0, .int .u32 0] 25))
        have HN : Aside0 (gs < w1.heap.size ∧ w.heap.size < w1.heap.size) := ⟨hgl, blk_lt HGB.out⟩
        replace HGB := Aside0.mk (Base.blk_alloc HGB.out (.cells #[.int .u32 0, .int .i64 3, .int .u32 0, .int .u32 0, .int .u32 0] 25))
        replace HS := Aside0.mk (Base.blk_alloc HS.out (.cells #[.int .u32 0, .int .i64 3, .int .u32 0, .int .u32 0, .int .u32 0] 25))
        replace HB := Aside0.mk (below_alloc (o := (.cells #[.int .u32 0, .int .i64 3, .int .u32 0, .int .u32 0, .int .u32 0] 25)) HB.out)
        obtain ⟨b, hb⟩ : ∃ b, b = w1.heap.size := ⟨_, rfl⟩
        rw [← hb] at HN HG ⊢
        generalize w1.alloc _ = W0 at HG HGB HB HS ⊢
        clear hb hgl
        refine (HTH.out _).mono ?_
        rintro e wt ⟨rfl, rfl⟩
        go_wp2_with fail
        refine wp_loop_rounds 5 ?_
        have p0 := blk_at (i := 0) HS.out rfl
        rw [rounds_succ]
        go_wp2_with fail
        clear p0
        refine (CN0.out _).mono ?_
        rintro e wn0 ⟨rfl, hdr⟩
        have hb := (show Below W0.heap.size W0 wn0 from hdr.below)
        replace HG := Aside0.mk (blk_below HG.out hb)
        replace HGB := Aside0.mk (blk_below HGB.out hb)
        replace HS := Aside0.mk (blk_below HS.out hb)
        replace HB := Aside0.mk (below_step HB.out hb)
        clear hb hdr
        have q0 := blk_at (i := 0) HG.out rfl
        have q1 := blk_at (i := 1) HG.out rfl
        have q2 := blk_at (i := 2) HG.out rfl
        have q3 := blk_at (i := 3) HG.out rfl
        have q4 := blk_at (i := 4) HG.out rfl
        have f0 := blk_frozen HG.out 0
        have f1 := blk_frozen HG.out 1
        have f2 := blk_frozen HG.out 2
        have f3 := blk_frozen HG.out 3
        have f4 := blk_frozen HG.out 4
        have z0 := blk_at (i := 0) HGB.out rfl
        have z1 := blk_at (i := 1) HGB.out rfl
        have z2 := blk_at (i := 2) HGB.out rfl
        have z3 := blk_at (i := 3) HGB.out rfl
        have z4 := blk_at (i := 4) HGB.out rfl
        have y0 := blk_frozen HGB.out 0
        have y1 := blk_frozen HGB.out 1
        have y2 := blk_frozen HGB.out 2
        have y3 := blk_frozen HGB.out 3
        have y4 := blk_frozen HGB.out 4
        go_wp2
        rw [HX.out]
        exact bodyPost_ret (v := .tuple #[.agg #[.int .u32 0, .int .i64 0, .int .u32 0, .int .u32 0, .int .u32 0], .int .i64 6]) (by simp [results, Tryd.results10, go_sem, z0, z1, z2, z3, z4]) rfl ⟨rfl, (upd5p (F := fun _ => False) (g := w.heap.size) (a := w) (Upd.of_below HB.out) (fun h => absurd h (Nat.lt_irrefl _)) _ _ _ _ _).below (Nat.le_refl _) (fun _ _ h => h)⟩
      by_cases cb1 : k1 = true
      rotate_left
      · have cb1' : k1 = false := Bool.eq_false_iff.mpr cb1
        have HX : Aside0 (parseF s = badP) := ⟨by rw [HPF.out]; simp [parseW, ← hn0, ← hn1, ← hn2, ← hn3, cb0, cb1']⟩
        subst cb0
        subst cb1'
        clear cb1
        clear hn0 hn1 hn2 hn3
        go_enter Tryd.func10, Tryd.ntmps10
        go_wp2_with fail
        have HGB := Aside0.mk (blk_new w (.cells #[.int .u32 0, .int .i64 0, .int .u32 0, .int .u32 0, .int .u32 0] 25))
        replace HB := Aside0.mk (below_alloc (o := .cells #[.int .u32 0, .int .i64 0, .int .u32 0, .int .u32 0, .int .u32 0] 25) HB.out)
        refine (CS.out _ (vars_below HV.out (below_alloc (Below.refl _ _) _))).mono ?_
        rintro e w1 ⟨rfl, hw1⟩
        have HS : Aside0 (w1.heap[(w.alloc (.cells #[.int .u32 0, .int .i64 0, .int .u32 0, .int .u32 0, .int .u32 0] 25)).heap.size]? = some (.cells #[.string x0, .string x1, .string x2, .string x3] 9 (0, 0))) := ⟨by rw [hw1]; exact blk_new _ _⟩
        have hb := below_alloc (Below.refl (w.alloc (.cells #[.int .u32 0, .int .i64 0, .int .u32 0, .int .u32 0, .int .u32 0] 25)).heap.size (w.alloc (.cells #[.int .u32 0, .int .i64 0, .int .u32 0, .int .u32 0, .int .u32 0] 25))) (.cells #[.string x0, .string x1, .string x2, .string x3] 9)
        replace hb : Below (w.alloc (.cells #[.int .u32 0, .int .i64 0, .int .u32 0, .int .u32 0, .int .u32 0] 25)).heap.size (w.alloc (.cells #[.int .u32 0, .int .i64 0, .int .u32 0, .int .u32 0, .int .u32 0] 25)) w1 := by rw [hw1]; exact hb
        replace HGB := Aside0.mk (blk_below HGB.out hb)
        replace HB := Aside0.mk (below_step HB.out hb)
        have HNS : Aside0 (w.heap.size < (w.alloc (.cells #[.int .u32 0, .int .i64 0, .int .u32 0, .int .u32 0, .int .u32 0] 25)).heap.size) := ⟨by rw [World.size_alloc]; omega⟩
        clear hb hw1
        generalize (w.alloc (.cells #[.int .u32 0, .int .i64 0, .int .u32 0, .int .u32 0, .int .u32 0] 25)).heap.size = gs at HS HNS ⊢
        have hgl := blk_lt HS.out
        go_wp2_with fail
        have HG := Aside0.mk (blk_new w1 (.cells #[.int .u32 0, .int .i64 3, .int .u32 0, .int .u32 0, .int .u32 0] 25))
        have HN : Aside0 (gs < w1.heap.size ∧ w.heap.size < w1.heap.size) := ⟨hgl, blk_lt HGB.out⟩
        replace HGB := Aside0.mk (Base.blk_alloc HGB.out (.cells #[.int .u32 0, .int .i64 3, .int .u32 0, .int .u32 0, .int .u32 0] 25))
        replace HS := Aside0.mk (Base.blk_alloc HS.out (.cells #[.int .u32 0, .int .i64 3, .int .u32 0, .int .u32 0, .int .u32 0] 25))
        replace HB := Aside0.mk (below_alloc (o := (.cells #[.int .u32 0, .int .i64 3, .int .u32 0, .int .u32 0, .int .u32 0] 25)) HB.out)
        obtain ⟨b, hb⟩ : ∃ b, b = w1.heap.size := ⟨_, rfl⟩
        rw [← hb] at HN HG ⊢
        generalize w1.alloc _ = W0 at HG HGB HB HS ⊢
        clear hb hgl
        refine (HTH.out _).mono ?_
        rintro e wt ⟨rfl, rfl⟩
        go_wp2_with fail
        refine wp_loop_rounds 5 ?_
        have p0 := blk_at (i := 0) HS.out rfl
        rw [rounds_succ]
        go_wp2_with fail
        clear p0
        refine (CN0.out _).mono ?_
        rintro e wn0 ⟨rfl, hdr⟩
        have hb := (show Below W0.heap.size W0 wn0 from hdr.below)
        replace HG := Aside0.mk (blk_below HG.out hb)
        replace HGB := Aside0.mk (blk_below HGB.out hb)
        replace HS := Aside0.mk (blk_below HS.out hb)
        replace HB := Aside0.mk (below_step HB.out hb)
        clear hb hdr
        have q0 := blk_at (i := 0) HG.out rfl
        have q1 := blk_at (i := 1) HG.out rfl
        have q2 := blk_at (i := 2) HG.out rfl
        have q3 := blk_at (i := 3) HG.out rfl
        have q4 := blk_at (i := 4) HG.out rfl
        have f0 := blk_frozen HG.out 0
        have f1 := blk_frozen HG.out 1
        have f2 := blk_frozen HG.out 2
        have f3 := blk_frozen HG.out 3
        have f4 := blk_frozen HG.out 4
        go_wp2_with fail
        clear q0 f0 q1 f1 q2 f2 q3 f3 q4 f4
        obtain ⟨W1, hW⟩ : ∃ W, W = wn0.setCell ⟨b, 0, none⟩ (.int .u32 n0) := ⟨_, rfl⟩
        rw [← hW]
        replace HGB : Aside0 (W1.heap[w.heap.size]? = _) := ⟨hW ▸ blk_far HGB.out (p := ⟨b, 0, none⟩) (by have := HN.out; simp only; omega) _⟩
        replace HS : Aside0 (W1.heap[gs]? = _) := ⟨hW ▸ blk_far HS.out (p := ⟨b, 0, none⟩) (by have := HN.out; simp only; omega) _⟩
        replace HG : Aside0 (W1.heap[b]? = some (.cells #[.int .u32 n0, .int .i64 3, .int .u32 0, .int .u32 0, .int .u32 0] 25 (0, 0))) := ⟨hW ▸ blk_put HG.out 0 _ rfl⟩
        replace HB : Aside0 (Below w.heap.size w W1) := ⟨hW ▸ below_set HB.out (by have := HN.out; omega)⟩
        clear hW
        have p1 := blk_at (i := 1) HS.out rfl
        rw [rounds_succ]
        go_wp2_with fail
        clear p1
        refine (CN1.out _).mono ?_
        rintro e wn1 ⟨rfl, hdr⟩
        have hb := (show Below W1.heap.size W1 wn1 from hdr.below)
        replace HG := Aside0.mk (blk_below HG.out hb)
        replace HGB := Aside0.mk (blk_below HGB.out hb)
        replace HS := Aside0.mk (blk_below HS.out hb)
        replace HB := Aside0.mk (below_step HB.out hb)
        clear hb hdr
        have q0 := blk_at (i := 0) HG.out rfl
        have q1 := blk_at (i := 1) HG.out rfl
        have q2 := blk_at (i := 2) HG.out rfl
        have q3 := blk_at (i := 3) HG.out rfl
        have q4 := blk_at (i := 4) HG.out rfl
        have f0 := blk_frozen HG.out 0
        have f1 := blk_frozen HG.out 1
        have f2 := blk_frozen HG.out 2
        have f3 := blk_frozen HG.out 3
        have f4 := blk_frozen HG.out 4
        have z0 := blk_at (i := 0) HGB.out rfl
        have z1 := blk_at (i := 1) HGB.out rfl
        have z2 := blk_at (i := 2) HGB.out rfl
        have z3 := blk_at (i := 3) HGB.out rfl
        have z4 := blk_at (i := 4) HGB.out rfl
        have y0 := blk_frozen HGB.out 0
        have y1 := blk_frozen HGB.out 1
        have y2 := blk_frozen HGB.out 2
        have y3 := blk_frozen HGB.out 3
        have y4 := blk_frozen HGB.out 4
        go_wp2
        rw [HX.out]
        exact bodyPost_ret (v := .tuple #[.agg #[.int .u32 0, .int .i64 0, .int .u32 0, .int .u32 0, .int .u32 0], .int .i64 6]) (by simp [results, Tryd.results10, go_sem, z0, z1, z2, z3, z4]) rfl ⟨rfl, (upd5p (F := fun _ => False) (g := w.heap.size) (a := w) (Upd.of_below HB.out) (fun h => absurd h (Nat.lt_irrefl _)) _ _ _ _ _).below (Nat.le_refl _) (fun _ _ h => h)⟩
      by_cases cb2 : k2 = true
      rotate_left
      · have cb2' : k2 = false := Bool.eq_false_iff.mpr cb2
        have HX : Aside0 (parseF s = badP) := ⟨by rw [HPF.out]; simp [parseW, ← hn0, ← hn1, ← hn2, ← hn3, cb0, cb1, cb2']⟩
        subst cb0
        subst cb1
        subst cb2'
        clear cb2
        clear hn0 hn1 hn2 hn3
        go_enter Tryd.func10, Tryd.ntmps10
        go_wp2_with fail
        have HGB := Aside0.mk (blk_new w (.cells #[.int .u32 0, .int .i64 0, .int .u32 0, .int .u32 0, .int .u32 0] 25))
        replace HB := Aside0.mk (below_alloc (o := .cells #[.int .u32 0, .int .i64 0, .int .u32 0, .int .u32 0, .int .u32 0] 25) HB.out)
        refine (CS.out _ (vars_below HV.out (below_alloc (Below.refl _ _) _))).mono ?_
        rintro e w1 ⟨rfl, hw1⟩
        have HS : Aside0 (w1.heap[(w.alloc (.cells #[.int .u32 0, .int .i64 0, .int .u32 0, .int .u32 0, .int .u32 0] 25)).heap.size]? = some (.cells #[.string x0, .string x1, .string x2, .string x3] 9 (0, 0))) := ⟨by rw [hw1]; exact blk_new _ _⟩
        have hb := below_alloc (Below.refl (w.alloc (.cells #[.int .u32 0, .int .i64 0, .int .u32 0, .int .u32 0, .int .u32 0] 25)).heap.size (w.alloc (.cells #[.int .u32 0, .int .i64 0, .int .u32 0, .int .u32 0, .int .u32 0] 25))) (.cells #[.string x0, .string x1, .string x2, .string x3] 9)
        replace hb : Below (w.alloc (.cells #[.int .u32 0, .int .i64 0, .int .u32 0, .int .u32 0, .int .u32 0] 25)).heap.size (w.alloc (.cells #[.int .u32 0, .int .i64 0, .int .u32 0, .int .u32 0, .int .u32 0] 25)) w1 := by rw [hw1]; exact hb
        replace HGB := Aside0.mk (blk_below HGB.out hb)
        replace HB := Aside0.mk (below_step HB.out hb)
        have HNS : Aside0 (w.heap.size < (w.alloc (.cells #[.int .u32 0, .int .i64 0, .int .u32 0, .int .u32 0, .int .u32 0] 25)).heap.size) := ⟨by rw [World.size_alloc]; omega⟩
        clear hb hw1
        generalize (w.alloc (.cells #[.int .u32 0, .int .i64 0, .int .u32 0, .int .u32 0, .int .u32 0] 25)).heap.size = gs at HS HNS ⊢
        have hgl := blk_lt HS.out
        go_wp2_with fail
        have HG := Aside0.mk (blk_new w1 (.cells #[.int .u32 0, .int .i64 3, .int .u32 0, .int .u32 0, .int .u32 0] 25))
        have HN : Aside0 (gs < w1.heap.size ∧ w.heap.size < w1.heap.size) := ⟨hgl, blk_lt HGB.out⟩
        replace HGB := Aside0.mk (Base.blk_alloc HGB.out (.cells #[.int .u32 0, .int .i64 3, .int .u32 0, .int .u32 0, .int .u32 0] 25))
        replace HS := Aside0.mk (Base.blk_alloc HS.out (.cells #[.int .u32 0, .int .i64 3, .int .u32 0, .int .u32 0, .int .u32 0] 25))
        replace HB := Aside0.mk (below_alloc (o := (.cells #[.int .u32 0, .int .i64 3, .int .u32 0, .int .u32 0, .int .u32 0] 25)) HB.out)
        obtain ⟨b, hb⟩ : ∃ b, b = w1.heap.size := ⟨_, rfl⟩
        rw [← hb] at HN HG ⊢
        generalize w1.alloc _ = W0 at HG HGB HB HS ⊢
        clear hb hgl
        refine (HTH.out _).mono ?_
        rintro e wt ⟨rfl, rfl⟩
        go_wp2_with fail
        refine wp_loop_rounds 5 ?_
        have p0 := blk_at (i := 0) HS.out rfl
        rw [rounds_succ]
        go_wp2_with fail
        clear p0
        refine (CN0.out _).mono ?_
        rintro e wn0 ⟨rfl, hdr⟩
        have hb := (show Below W0.heap.size W0 wn0 from hdr.below)
        replace HG := Aside0.mk (blk_below HG.out hb)
        replace HGB := Aside0.mk (blk_below HGB.out hb)
        replace HS := Aside0.mk (blk_below HS.out hb)
        replace HB := Aside0.mk (below_step HB.out hb)
        clear hb hdr
        have q0 := blk_at (i := 0) HG.out rfl
        have q1 := blk_at (i := 1) HG.out rfl
        have q2 := blk_at (i := 2) HG.out rfl
        have q3 := blk_at (i := 3) HG.out rfl
        have q4 := blk_at (i := 4) HG.out rfl
        have f0 := blk_frozen HG.out 0
        have f1 := blk_frozen HG.out 1
        have f2 := blk_frozen HG.out 2
        have f3 := blk_frozen HG.out 3
        have f4 := blk_frozen HG.out 4
        go_wp2_with fail
        clear q0 f0 q1 f1 q2 f2 q3 f3 q4 f4
        obtain ⟨W1, hW⟩ : ∃ W, W = wn0.setCell ⟨b, 0, none⟩ (.int .u32 n0) := ⟨_, rfl⟩
        rw [← hW]
        replace HGB : Aside0 (W1.heap[w.heap.size]? = _) := ⟨hW ▸ blk_far HGB.out (p := ⟨b, 0, none⟩) (by have := HN.out; simp only; omega) _⟩
        replace HS : Aside0 (W1.heap[gs]? = _) := ⟨hW ▸ blk_far HS.out (p := ⟨b, 0, none⟩) (by have := HN.out; simp only; omega) _⟩
        replace HG : Aside0 (W1.heap[b]? = some (.cells #[.int .u32 n0, .int .i64 3, .int .u32 0, .int .u32 0, .int .u32 0] 25 (0, 0))) := ⟨hW ▸ blk_put HG.out 0 _ rfl⟩
        replace HB : Aside0 (Below w.heap.size w W1) := ⟨hW ▸ below_set HB.out (by have := HN.out; omega)⟩
        clear hW
        have p1 := blk_at (i := 1) HS.out rfl
        rw [rounds_succ]
        go_wp2_with fail
        clear p1
        refine (CN1.out _).mono ?_
        rintro e wn1 ⟨rfl, hdr⟩
        have hb := (show Below W1.heap.size W1 wn1 from hdr.below)
        replace HG := Aside0.mk (blk_below HG.out hb)
        replace HGB := Aside0.mk (blk_below HGB.out hb)
        replace HS := Aside0.mk (blk_below HS.out hb)
        replace HB := Aside0.mk (below_step HB.out hb)
        clear hb hdr
        have q0 := blk_at (i := 0) HG.out rfl
        have q1 := blk_at (i := 1) HG.out rfl
        have q2 := blk_at (i := 2) HG.out rfl
        have q3 := blk_at (i := 3) HG.out rfl
        have q4 := blk_at (i := 4) HG.out rfl
        have f0 := blk_frozen HG.out 0
        have f1 := blk_frozen HG.out 1
        have f2 := blk_frozen HG.out 2
        have f3 := blk_frozen HG.out 3
        have f4 := blk_frozen HG.out 4
        go_wp2_with fail
        clear q0 f0 q1 f1 q2 f2 q3 f3 q4 f4
        obtain ⟨W2, hW⟩ : ∃ W, W = wn1.setCell ⟨b, 2, none⟩ (.int .u32 n1) := ⟨_, rfl⟩
        rw [← hW]
        replace HGB : Aside0 (W2.heap[w.heap.size]? = _) := ⟨hW ▸ blk_far HGB.out (p := ⟨b, 2, none⟩) (by have := HN.out; simp only; omega) _⟩
        replace HS : Aside0 (W2.heap[gs]? = _) := ⟨hW ▸ blk_far HS.out (p := ⟨b, 2, none⟩) (by have := HN.out; simp only; omega) _⟩
        replace HG : Aside0 (W2.heap[b]? = some (.cells #[.int .u32 n0, .int .i64 3, .int .u32 n1, .int .u32 0, .int .u32 0] 25 (0, 0))) := ⟨hW ▸ blk_put HG.out 2 _ rfl⟩
        replace HB : Aside0 (Below w.heap.size w W2) := ⟨hW ▸ below_set HB.out (by have := HN.out; omega)⟩
        clear hW
        have p2 := blk_at (i := 2) HS.out rfl
        rw [rounds_succ]
        go_wp2_with fail
        clear p2
        refine (CN2.out _).mono ?_
        rintro e wn2 ⟨rfl, hdr⟩
        have hb := (show Below W2.heap.size W2 wn2 from hdr.below)
        replace HG := Aside0.mk (blk_below HG.out hb)
        replace HGB := Aside0.mk (blk_below HGB.out hb)
        replace HS := Aside0.mk (blk_below HS.out hb)
        replace HB := Aside0.mk (below_step HB.out hb)
        clear hb hdr
        have q0 := blk_at (i := 0) HG.out rfl
        have q1 := blk_at (i := 1) HG.out rfl
        have q2 := blk_at (i := 2) HG.out rfl
        have q3 := blk_at (i := 3) HG.out rfl
        have q4 := blk_at (i := 4) HG.out rfl
        have f0 := blk_frozen HG.out 0
        have f1 := blk_frozen HG.out 1
        have f2 := blk_frozen HG.out 2
        have f3 := blk_frozen HG.out 3
        have f4 := blk_frozen HG.out 4
        have z0 := blk_at (i := 0) HGB.out rfl
        have z1 := blk_at (i := 1) HGB.out rfl
        have z2 := blk_at (i := 2) HGB.out rfl
        have z3 := blk_at (i := 3) HGB.out rfl
        have z4 := blk_at (i := 4) HGB.out rfl
        have y0 := blk_frozen HGB.out 0
        have y1 := blk_frozen HGB.out 1
        have y2 := blk_frozen HGB.out 2
        have y3 := blk_frozen HGB.out 3
        have y4 := blk_frozen HGB.out 4
        go_wp2
        rw [HX.out]
        exact bodyPost_ret (v := .tuple #[.agg #[.int .u32 0, .int .i64 0, .int .u32 0, .int .u32 0, .int .u32 0], .int .i64 6]) (by simp [results, Tryd.results10, go_sem, z0, z1, z2, z3, z4]) rfl ⟨rfl, (upd5p (F := fun _ => False) (g := w.heap.size) (a := w) (Upd.of_below HB.out) (fun h => absurd h (Nat.lt_irrefl _)) _ _ _ _ _).below (Nat.le_refl _) (fun _ _ h => h)⟩
      by_cases cb3 : k3 = true
      rotate_left
      · have cb3' : k3 = false := Bool.eq_false_iff.mpr cb3
        have HX : Aside0 (parseF s = badP) := ⟨by rw [HPF.out]; simp [parseW, ← hn0, ← hn1, ← hn2, ← hn3, cb0, cb1, cb2, cb3']⟩
        subst cb0
        subst cb1
        subst cb2
        subst cb3'
        clear cb3
        clear hn0 hn1 hn2 hn3
        go_enter Tryd.func10, Tryd.ntmps10
        go_wp2_with fail
        have HGB := Aside0.mk (blk_new w (.cells #[.int .u32 0, .int .i64 0, .int .u32 0, .int .u32 0, .int .u32 0] 25))
        replace HB := Aside0.mk (below_alloc (o := .cells #[.int .u32 0, .int .i64 0, .int .u32 0, .int .u32 0, .int .u32 0] 25) HB.out)
        refine (CS.out _ (vars_below HV.out (below_alloc (Below.refl _ _) _))).mono ?_
        rintro e w1 ⟨rfl, hw1⟩
        have HS : Aside0 (w1.heap[(w.alloc (.cells #[.int .u32 0, .int .i64 0, .int .u32 0, .int .u32 0, .int .u32 0] 25)).heap.size]? = some (.cells #[.string x0, .string x1, .string x2, .string x3] 9 (0, 0))) := ⟨by rw [hw1]; exact blk_new _ _⟩
        have hb := below_alloc (Below.refl (w.alloc (.cells #[.int .u32 0, .int .i64 0, .int .u32 0, .int .u32 0, .int .u32 0] 25)).heap.size (w.alloc (.cells #[.int .u32 0, .int .i64 0, .int .u32 0, .int .u32 0, .int .u32 0] 25))) (.cells #[.string x0, .string x1, .string x2, .string x3] 9)
        replace hb : Below (w.alloc (.cells #[.int .u32 0, .int .i64 0, .int .u32 0, .int .u32 0, .int .u32 0] 25)).heap.size (w.alloc (.cells #[.int .u32 0, .int .i64 0, .int .u32 0, .int .u32 0, .int .u32 0] 25)) w1 := by rw [hw1]; exact hb
        replace HGB := Aside0.mk (blk_below HGB.out hb)
        replace HB := Aside0.mk (below_step HB.out hb)
        have HNS : Aside0 (w.heap.size < (w.alloc (.cells #[.int .u32 0, .int .i64 0, .int .u32 0, .int .u32 0, .int .u32 0] 25)).heap.size) := ⟨by rw [World.size_alloc]; omega⟩
        clear hb hw1
        generalize (w.alloc (.cells #[.int .u32 0, .int .i64 0, .int .u32 0, .int .u32 0, .int .u32 0] 25)).heap.size = gs at HS HNS ⊢
        have hgl := blk_lt HS.out
        go_wp2_with fail
        have HG := Aside0.mk (blk_new w1 (.cells #[.int .u32 0, .int .i64 3, .int .u32 0, .int .u32 0, .int .u32 0] 25))
        have HN : Aside0 (gs < w1.heap.size ∧ w.heap.size < w1.heap.size) := ⟨hgl, blk_lt HGB.out⟩
        replace HGB := Aside0.mk (Base.blk_alloc HGB.out (.cells #[.int .u32 0, .int .i64 3, .int .u32 0, .int .u32 0, .int .u32 0] 25))
        replace HS := Aside0.mk (Base.blk_alloc HS.out (.cells #[.int .u32 0, .int .i64 3, .int .u32 0, .int .u32 0, .int .u32 0] 25))
        replace HB := Aside0.mk (below_alloc (o := (.cells #[.int .u32 0, .int .i64 3, .int .u32 0, .int .u32 0, .int .u32 0] 25)) HB.out)
        obtain ⟨b, hb⟩ : ∃ b, b = w1.heap.size := ⟨_, rfl⟩
        rw [← hb] at HN HG ⊢
        generalize w1.alloc _ = W0 at HG HGB HB HS ⊢
        clear hb hgl
        refine (HTH.out _).mono ?_
        rintro e wt ⟨rfl, rfl⟩
        go_wp2_with fail
        refine wp_loop_rounds 5 ?_
        have p0 := blk_at (i := 0) HS.out rfl
        rw [rounds_succ]
        go_wp2_with fail
        clear p0
        refine (CN0.out _).mono ?_
        rintro e wn0 ⟨rfl, hdr⟩
        have hb := (show Below W0.heap.size W0 wn0 from hdr.below)
        replace HG := Aside0.mk (blk_below HG.out hb)
        replace HGB := Aside0.mk (blk_below HGB.out hb)
        replace HS := Aside0.mk (blk_below HS.out hb)
        replace HB := Aside0.mk (below_step HB.out hb)
        clear hb hdr
        have q0 := blk_at (i := 0) HG.out rfl
        have q1 := blk_at (i := 1) HG.out rfl
        have q2 := blk_at (i := 2) HG.out rfl
        have q3 := blk_at (i := 3) HG.out rfl
        have q4 := blk_at (i := 4) HG.out rfl
        have f0 := blk_frozen HG.out 0
        have f1 := blk_frozen HG.out 1
        have f2 := blk_frozen HG.out 2
        have f3 := blk_frozen HG.out 3
        have f4 := blk_frozen HG.out 4
        go_wp2_with fail
        clear q0 f0 q1 f1 q2 f2 q3 f3 q4 f4
        obtain ⟨W1, hW⟩ : ∃ W, W = wn0.setCell ⟨b, 0, none⟩ (.int .u32 n0) := ⟨_, rfl⟩
        rw [← hW]
        replace HGB : Aside0 (W1.heap[w.heap.size]? = _) := ⟨hW ▸ blk_far HGB.out (p := ⟨b, 0, none⟩) (by have := HN.out; simp only; omega) _⟩
        replace HS : Aside0 (W1.heap[gs]? = _) := ⟨hW ▸ blk_far HS.out (p := ⟨b, 0, none⟩) (by have := HN.out; simp only; omega) _⟩
        replace HG : Aside0 (W1.heap[b]? = some (.cells #[.int .u32 n0, .int .i64 3, .int .u32 0, .int .u32 0, .int .u32 0] 25 (0, 0))) := ⟨hW ▸ blk_put HG.out 0 _ rfl⟩
        replace HB : Aside0 (Below w.heap.size w W1) := ⟨hW ▸ below_set HB.out (by have := HN.out; omega)⟩
        clear hW
        have p1 := blk_at (i := 1) HS.out rfl
        rw [rounds_succ]
        go_wp2_with fail
        clear p1
        refine (CN1.out _).mono ?_
        rintro e wn1 ⟨rfl, hdr⟩
        have hb := (show Below W1.heap.size W1 wn1 from hdr.below)
        replace HG := Aside0.mk (blk_below HG.out hb)
        replace HGB := Aside0.mk (blk_below HGB.out hb)
        replace HS := Aside0.mk (blk_below HS.out hb)
        replace HB := Aside0.mk (below_step HB.out hb)
        clear hb hdr
        have q0 := blk_at (i := 0) HG.out rfl
        have q1 := blk_at (i := 1) HG.out rfl
        have q2 := blk_at (i := 2) HG.out rfl
        have q3 := blk_at (i := 3) HG.out rfl
        have q4 := blk_at (i := 4) HG.out rfl
        have f0 := blk_frozen HG.out 0
        have f1 := blk_frozen HG.out 1
        have f2 := blk_frozen HG.out 2
        have f3 := blk_frozen HG.out 3
        have f4 := blk_frozen HG.out 4
        go_wp2_with fail
        clear q0 f0 q1 f1 q2 f2 q3 f3 q4 f4
        obtain ⟨W2, hW⟩ : ∃ W, W = wn1.setCell ⟨b, 2, none⟩ (.int .u32 n1) := ⟨_, rfl⟩
        rw [← hW]
        replace HGB : Aside0 (W2.heap[w.heap.size]? = _) := ⟨hW ▸ blk_far HGB.out (p := ⟨b, 2, none⟩) (by have := HN.out; simp only; omega) _⟩
        replace HS : Aside0 (W2.heap[gs]? = _) := ⟨hW ▸ blk_far HS.out (p := ⟨b, 2, none⟩) (by have := HN.out; simp only; omega) _⟩
        replace HG : Aside0 (W2.heap[b]? = some (.cells #[.int .u32 n0, .int .i64 3, .int .u32 n1, .int .u32 0, .int .u32 0] 25 (0, 0))) := ⟨hW ▸ blk_put HG.out 2 _ rfl⟩
        replace HB : Aside0 (Below w.heap.size w W2) := ⟨hW ▸ below_set HB.out (by have := HN.out; omega)⟩
        clear hW
        have p2 := blk_at (i := 2) HS.out rfl
        rw [rounds_succ]
        go_wp2_with fail
        clear p2
        refine (CN2.out _).mono ?_
        rintro e wn2 ⟨rfl, hdr⟩
        have hb := (show Below W2.heap.size W2 wn2 from hdr.below)
        replace HG := Aside0.mk (blk_below HG.out hb)
        replace HGB := Aside0.mk (blk_below HGB.out hb)
        replace HS := Aside0.mk (blk_below HS.out hb)
        replace HB := Aside0.mk (below_step HB.out hb)
        clear hb hdr
        have q0 := blk_at (i := 0) HG.out rfl
        have q1 := blk_at (i := 1) HG.out rfl
        have q2 := blk_at (i := 2) HG.out rfl
        have q3 := blk_at (i := 3) HG.out rfl
        have q4 := blk_at (i := 4) HG.out rfl
        have f0 := blk_frozen HG.out 0
        have f1 := blk_frozen HG.out 1
        have f2 := blk_frozen HG.out 2
        have f3 := blk_frozen HG.out 3
        have f4 := blk_frozen HG.out 4
        go_wp2_with fail
        clear q0 f0 q1 f1 q2 f2 q3 f3 q4 f4
        obtain ⟨W3, hW⟩ : ∃ W, W = wn2.setCell ⟨b, 3, none⟩ (.int .u32 n2) := ⟨_, rfl⟩
        rw [← hW]
        replace HGB : Aside0 (W3.heap[w.heap.size]? = _) := ⟨hW ▸ blk_far HGB.out (p := ⟨b, 3, none⟩) (by have := HN.out; simp only; omega) _⟩
        replace HS : Aside0 (W3.heap[gs]? = _) := ⟨hW ▸ blk_far HS.out (p := ⟨b, 3, none⟩) (by have := HN.out; simp only; omega) _⟩
        replace HG : Aside0 (W3.heap[b]? = some (.cells #[.int .u32 n0, .int .i64 3, .int .u32 n1, .int .u32 n2, .int .u32 0] 25 (0, 0))) := ⟨hW ▸ blk_put HG.out 3 _ rfl⟩
        replace HB : Aside0 (Below w.heap.size w W3) := ⟨hW ▸ below_set HB.out (by have := HN.out; omega)⟩
        clear hW
        have p3 := blk_at (i := 3) HS.out rfl
        rw [rounds_succ]
        go_wp2_with fail
        clear p3
        refine (CN3.out _).mono ?_
        rintro e wn3 ⟨rfl, hdr⟩
        have hb := (show Below W3.heap.size W3 wn3 from hdr.below)
        replace HG := Aside0.mk (blk_below HG.out hb)
        replace HGB := Aside0.mk (blk_below HGB.out hb)
        replace HS := Aside0.mk (blk_below HS.out hb)
        replace HB := Aside0.mk (below_step HB.out hb)
        clear hb hdr
        have q0 := blk_at (i := 0) HG.out rfl
        have q1 := blk_at (i := 1) HG.out rfl
        have q2 := blk_at (i := 2) HG.out rfl
        have q3 := blk_at (i := 3) HG.out rfl
        have q4 := blk_at (i := 4) HG.out rfl
        have f0 := blk_frozen HG.out 0
        have f1 := blk_frozen HG.out 1
        have f2 := blk_frozen HG.out 2
        have f3 := blk_frozen HG.out 3
        have f4 := blk_frozen HG.out 4
        have z0 := blk_at (i := 0) HGB.out rfl
        have z1 := blk_at (i := 1) HGB.out rfl
        have z2 := blk_at (i := 2) HGB.out rfl
        have z3 := blk_at (i := 3) HGB.out rfl
        have z4 := blk_at (i := 4) HGB.out rfl
        have y0 := blk_frozen HGB.out 0
        have y1 := blk_frozen HGB.out 1
        have y2 := blk_frozen HGB.out 2
        have y3 := blk_frozen HGB.out 3
        have y4 := blk_frozen HGB.out 4
        go_wp2
        rw [HX.out]
        exact bodyPost_ret (v := .tuple #[.agg #[.int .u32 0, .int .i64 0, .int .u32 0, .int .u32 0, .int .u32 0], .int .i64 6]) (by simp [results, Tryd.results10, go_sem, z0, z1, z2, z3, z4]) rfl ⟨rfl, (upd5p (F := fun _ => False) (g := w.heap.size) (a := w) (Upd.of_below HB.out) (fun h => absurd h (Nat.lt_irrefl _)) _ _ _ _ _).below (Nat.le_refl _) (fun _ _ h => h)⟩
      · skip
        have HX : Aside0 (parseF s = ((n0, 3, n1, n2, n3), 0)) := ⟨by rw [HPF.out]; simp [parseW, ← hn0, ← hn1, ← hn2, ← hn3, cb0, cb1, cb2, cb3]⟩
        subst cb0
        subst cb1
        subst cb2
        subst cb3
        clear hn0 hn1 hn2 hn3
        go_enter Tryd.func10, Tryd.ntmps10
        go_wp2_with fail
        have HGB := Aside0.mk (blk_new w (.cells #[.int .u32 0, .int .i64 0, .int .u32 0, .int .u32 0, .int .u32 0] 25))
        replace HB := Aside0.mk (below_alloc (o := .cells #[.int .u32 0, .int .i64 0, .int .u32 0, .int .u32 0, .int .u32 0] 25) HB.out)
        refine (CS.out _ (vars_below HV.out (below_alloc (Below.refl _ _) _))).mono ?_
        rintro e w1 ⟨rfl, hw1⟩
        have HS : Aside0 (w1.heap[(w.alloc (.cells #[.int .u32 0, .int .i64 0, .int .u32 0, .int .u32 0, .int .u32 0] 25)).heap.size]? = some (.cells #[.string x0, .string x1, .string x2, .string x3] 9 (0, 0))) := ⟨by rw [hw1]; exact blk_new _ _⟩
        have hb := below_alloc (Below.refl (w.alloc (.cells #[.int .u32 0, .int .i64 0, .int .u32 0, .int .u32 0, .int .u32 0] 25)).heap.size (w.alloc (.cells #[.int .u32 0, .int .i64 0, .int .u32 0, .int .u32 0, .int .u32 0] 25))) (.cells #[.string x0, .string x1, .string x2, .string x3] 9)
        replace hb : Below (w.alloc (.cells #[.int .u32 0, .int .i64 0, .int .u32 0, .int .u32 0, .int .u32 0] 25)).heap.size (w.alloc (.cells #[.int .u32 0, .int .i64 0, .int .u32 0, .int .u32 0, .int .u32 0] 25)) w1 := by rw [hw1]; exact hb
        replace HGB := Aside0.mk (blk_below HGB.out hb)
        replace HB := Aside0.mk (below_step HB.out hb)
        have HNS : Aside0 (w.heap.size < (w.alloc (.cells #[.int .u32 0, .int .i64 0, .int .u32 0, .int .u32 0, .int .u32 0] 25)).heap.size) := ⟨by rw [World.size_alloc]; omega⟩
        clear hb hw1
        generalize (w.alloc (.cells #[.int .u32 0, .int .i64 0, .int .u32 0, .int .u32 0, .int .u32 0] 25)).heap.size = gs at HS HNS ⊢
        have hgl := blk_lt HS.out
        go_wp2_with fail
        have HG := Aside0.mk (blk_new w1 (.cells #[.int .u32 0, .int .i64 3, .int .u32 0, .int .u32 0, .int .u32 0] 25))
        have HN : Aside0 (gs < w1.heap.size ∧ w.heap.size < w1.heap.size) := ⟨hgl, blk_lt HGB.out⟩
        replace HGB := Aside0.mk (Base.blk_alloc HGB.out (.cells #[.int .u32 0, .int .i64 3, .int .u32 0, .int .u32 0, .int .u32 0] 25))
        replace HS := Aside0.mk (Base.blk_alloc HS.out (.cells #[.int .u32 0, .int .i64 3, .int .u32 0, .int .u32 0, .int .u32 0] 25))
        replace HB := Aside0.mk (below_alloc (o := (.cells #[.int .u32 0, .int .i64 3, .int .u32 0, .int .u32 0, .int .u32 0] 25)) HB.out)
        obtain ⟨b, hb⟩ : ∃ b, b = w1.heap.size := ⟨_, rfl⟩
        rw [← hb] at HN HG ⊢
        generalize w1.alloc _ = W0 at HG HGB HB HS ⊢
        clear hb hgl
        refine (HTH.out _).mono ?_
        rintro e wt ⟨rfl, rfl⟩
        go_wp2_with fail
        refine wp_loop_rounds 5 ?_
        have p0 := blk_at (i := 0) HS.out rfl
        rw [rounds_succ]
        go_wp2_with fail
        clear p0
        refine (CN0.out _).mono ?_
        rintro e wn0 ⟨rfl, hdr⟩
        have hb := (show Below W0.heap.size W0 wn0 from hdr.below)
        replace HG := Aside0.mk (blk_below HG.out hb)
        replace HGB := Aside0.mk (blk_below HGB.out hb)
        replace HS := Aside0.mk (blk_below HS.out hb)
        replace HB := Aside0.mk (below_step HB.out hb)
        clear hb hdr
        have q0 := blk_at (i := 0) HG.out rfl
        have q1 := blk_at (i := 1) HG.out rfl
        have q2 := blk_at (i := 2) HG.out rfl
        have q3 := blk_at (i := 3) HG.out rfl
        have q4 := blk_at (i := 4) HG.out rfl
        have f0 := blk_frozen HG.out 0
        have f1 := blk_frozen HG.out 1
        have f2 := blk_frozen HG.out 2
        have f3 := blk_frozen HG.out 3
        have f4 := blk_frozen HG.out 4
        go_wp2_with fail
        clear q0 f0 q1 f1 q2 f2 q3 f3 q4 f4
        obtain ⟨W1, hW⟩ : ∃ W, W = wn0.setCell ⟨b, 0, none⟩ (.int .u32 n0) := ⟨_, rfl⟩
        rw [← hW]
        replace HGB : Aside0 (W1.heap[w.heap.size]? = _) := ⟨hW ▸ blk_far HGB.out (p := ⟨b, 0, none⟩) (by have := HN.out; simp only; omega) _⟩
        replace HS : Aside0 (W1.heap[gs]? = _) := ⟨hW ▸ blk_far HS.out (p := ⟨b, 0, none⟩) (by have := HN.out; simp only; omega) _⟩
        replace HG : Aside0 (W1.heap[b]? = some (.cells #[.int .u32 n0, .int .i64 3, .int .u32 0, .int .u32 0, .int .u32 0] 25 (0, 0))) := ⟨hW ▸ blk_put HG.out 0 _ rfl⟩
        replace HB : Aside0 (Below w.heap.size w W1) := ⟨hW ▸ below_set HB.out (by have := HN.out; omega)⟩
        clear hW
        have p1 := blk_at (i := 1) HS.out rfl
        rw [rounds_succ]
        go_wp2_with fail
        clear p1
        refine (CN1.out _).mono ?_
        rintro e wn1 ⟨rfl, hdr⟩
        have hb := (show Below W1.heap.size W1 wn1 from hdr.below)
        replace HG := Aside0.mk (blk_below HG.out hb)
        replace HGB := Aside0.mk (blk_below HGB.out hb)
        replace HS := Aside0.mk (blk_below HS.out hb)
        replace HB := Aside0.mk (below_step HB.out hb)
        clear hb hdr
        have q0 := blk_at (i := 0) HG.out rfl
        have q1 := blk_at (i := 1) HG.out rfl
        have q2 := blk_at (i := 2) HG.out rfl
        have q3 := blk_at (i := 3) HG.out rfl
        have q4 := blk_at (i := 4) HG.out rfl
        have f0 := blk_frozen HG.out 0
        have f1 := blk_frozen HG.out 1
        have f2 := blk_frozen HG.out 2
        have f3 := blk_frozen HG.out 3
        have f4 := blk_frozen HG.out 4
        go_wp2_with fail
        clear q0 f0 q1 f1 q2 f2 q3 f3 q4 f4
        obtain ⟨W2, hW⟩ : ∃ W, W = wn1.setCell ⟨b, 2, none⟩ (.int .u32 n1) := ⟨_, rfl⟩
        rw [← hW]
        replace HGB : Aside0 (W2.heap[w.heap.size]? = _) := ⟨hW ▸ blk_far HGB.out (p := ⟨b, 2, none⟩) (by have := HN.out; simp only; omega) _⟩
        replace HS : Aside0 (W2.heap[gs]? = _) := ⟨hW ▸ blk_far HS.out (p := ⟨b, 2, none⟩) (by have := HN.out; simp only; omega) _⟩
        replace HG : Aside0 (W2.heap[b]? = some (.cells #[.int .u32 n0, .int .i64 3, .int .u32 n1, .int .u32 0, .int .u32 0] 25 (0, 0))) := ⟨hW ▸ blk_put HG.out 2 _ rfl⟩
        replace HB : Aside0 (Below w.heap.size w W2) := ⟨hW ▸ below_set HB.out (by have := HN.out; omega)⟩
        clear hW
        have p2 := blk_at (i := 2) HS.out rfl
        rw [rounds_succ]
        go_wp2_with fail
        clear p2
        refine (CN2.out _).mono ?_
        rintro e wn2 ⟨rfl, hdr⟩
        have hb := (show Below W2.heap.size W2 wn2 from hdr.below)
        replace HG := Aside0.mk (blk_below HG.out hb)
        replace HGB := Aside0.mk (blk_below HGB.out hb)
        replace HS := Aside0.mk (blk_below HS.out hb)
        replace HB := Aside0.mk (below_step HB.out hb)
        clear hb hdr
        have q0 := blk_at (i := 0) HG.out rfl
        have q1 := blk_at (i := 1) HG.out rfl
        have q2 := blk_at (i := 2) HG.out rfl
        have q3 := blk_at (i := 3) HG.out rfl
        have q4 := blk_at (i := 4) HG.out rfl
        have f0 := blk_frozen HG.out 0
        have f1 := blk_frozen HG.out 1
        have f2 := blk_frozen HG.out 2
        have f3 := blk_frozen HG.out 3
        have f4 := blk_frozen HG.out 4
        go_wp2_with fail
        clear q0 f0 q1 f1 q2 f2 q3 f3 q4 f4
        obtain ⟨W3, hW⟩ : ∃ W, W = wn2.setCell ⟨b, 3, none⟩ (.int .u32 n2) := ⟨_, rfl⟩
        rw [← hW]
        replace HGB : Aside0 (W3.heap[w.heap.size]? = _) := ⟨hW ▸ blk_far HGB.out (p := ⟨b, 3, none⟩) (by have := HN.out; simp only; omega) _⟩
        replace HS : Aside0 (W3.heap[gs]? = _) := ⟨hW ▸ blk_far HS.out (p := ⟨b, 3, none⟩) (by have := HN.out; simp only; omega) _⟩
        replace HG : Aside0 (W3.heap[b]? = some (.cells #[.int .u32 n0, .int .i64 3, .int .u32 n1, .int .u32 n2, .int .u32 0] 25 (0, 0))) := ⟨hW ▸ blk_put HG.out 3 _ rfl⟩
        replace HB : Aside0 (Below w.heap.size w W3) := ⟨hW ▸ below_set HB.out (by have := HN.out; omega)⟩
        clear hW
        have p3 := blk_at (i := 3) HS.out rfl
        rw [rounds_succ]
        go_wp2_with fail
        clear p3
        refine (CN3.out _).mono ?_
        rintro e wn3 ⟨rfl, hdr⟩
        have hb := (show Below W3.heap.size W3 wn3 from hdr.below)
        replace HG := Aside0.mk (blk_below HG.out hb)
        replace HGB := Aside0.mk (blk_below HGB.out hb)
        replace HS := Aside0.mk (blk_below HS.out hb)
        replace HB := Aside0.mk (below_step HB.out hb)
        clear hb hdr
        have q0 := blk_at (i := 0) HG.out rfl
        have q1 := blk_at (i := 1) HG.out rfl
        have q2 := blk_at (i := 2) HG.out rfl
        have q3 := blk_at (i := 3) HG.out rfl
        have q4 := blk_at (i := 4) HG.out rfl
        have f0 := blk_frozen HG.out 0
        have f1 := blk_frozen HG.out 1
        have f2 := blk_frozen HG.out 2
        have f3 := blk_frozen HG.out 3
        have f4 := blk_frozen HG.out 4
        go_wp2_with fail
        clear q0 f0 q1 f1 q2 f2 q3 f3 q4 f4
        obtain ⟨W4, hW⟩ : ∃ W, W = wn3.setCell ⟨b, 4, none⟩ (.int .u32 n3) := ⟨_, rfl⟩
        rw [← hW]
        replace HGB : Aside0 (W4.heap[w.heap.size]? = _) := ⟨hW ▸ blk_far HGB.out (p := ⟨b, 4, none⟩) (by have := HN.out; simp only; omega) _⟩
        replace HS : Aside0 (W4.heap[gs]? = _) := ⟨hW ▸ blk_far HS.out (p := ⟨b, 4, none⟩) (by have := HN.out; simp only; omega) _⟩
        replace HG : Aside0 (W4.heap[b]? = some (.cells #[.int .u32 n0, .int .i64 3, .int .u32 n1, .int .u32 n2, .int .u32 n3] 25 (0, 0))) := ⟨hW ▸ blk_put HG.out 4 _ rfl⟩
        replace HB : Aside0 (Below w.heap.size w W4) := ⟨hW ▸ below_set HB.out (by have := HN.out; omega)⟩
        clear hW
        rw [rounds_succ]
        have q0 := blk_at (i := 0) HG.out rfl
        have q1 := blk_at (i := 1) HG.out rfl
        have q2 := blk_at (i := 2) HG.out rfl
        have q3 := blk_at (i := 3) HG.out rfl
        have q4 := blk_at (i := 4) HG.out rfl
        have f0 := blk_frozen HG.out 0
        have f1 := blk_frozen HG.out 1
        have f2 := blk_frozen HG.out 2
        have f3 := blk_frozen HG.out 3
        have f4 := blk_frozen HG.out 4
        have z0 := blk_at (i := 0) HGB.out rfl
        have z1 := blk_at (i := 1) HGB.out rfl
        have z2 := blk_at (i := 2) HGB.out rfl
        have z3 := blk_at (i := 3) HGB.out rfl
        have z4 := blk_at (i := 4) HGB.out rfl
        have y0 := blk_frozen HGB.out 0
        have y1 := blk_frozen HGB.out 1
        have y2 := blk_frozen HGB.out 2
        have y3 := blk_frozen HGB.out 3
        have y4 := blk_frozen HGB.out 4
        go_wp2
        rw [HX.out]
        exact bodyPost_ret (v := .tuple #[.agg #[.int .u32 n0, .int .i64 3, .int .u32 n1, .int .u32 n2, .int .u32 n3], .int .i64 0]) (by simp [results, Tryd.results10, go_sem, z0, z1, z2, z3, z4]) rfl ⟨rfl, (upd5p (F := fun _ => False) (g := w.heap.size) (a := w) (Upd.of_below HB.out) (fun h => absurd h (Nat.lt_irrefl _)) _ _ _ _ _).below (Nat.le_refl _) (fun _ _ h => h)⟩
def stamp_Parse.f (s : ByteArray) : Option (Int × Int × Int × Int × Int × Int) := if s.size ≤ 5000 then some ((parseF s).1.1, (parseF s).1.2.1, (parseF s).1.2.2.1, (parseF s).1.2.2.2.1, (parseF s).1.2.2.2.2, (parseF s).2) else none
theorem stamp_Parse.calls (a0 : ByteArray) (r1 r2 r3 r4 r5 r6 : Int) (w : World) (h : stamp_Parse.f a0 = some (r1, r2, r3, r4, r5, r6)) (HV : Aside0 (VARS w) := by first | exact HV | exact ⟨Ext.vars_below HV.out (by repeat (first | (with_reducible first | exact HB.out | apply below_alloc | apply pw_below_drewN | apply below_drew1 | refine below_set ?_ (Aside0.out (by assumption))) | exact HB.out))⟩) :
    Calls Tryd.prog 10 #[.string a0] w fun e w' => e = .returned (.tuple #[.agg #[.int .u32 r1, .int .i64 r2, .int .u32 r3, .int .u32 r4, .int .u32 r5], .int .i64 r6]) ∧ Below w.heap.size w w' := by
  unfold stamp_Parse.f at h
  split at h
  · rename_i hc
    have e := Option.some.inj h
    simp only [Prod.mk.injEq] at e
    obtain ⟨rfl, rfl, rfl, rfl, rfl, rfl⟩ := e
    exact stamp_Parse_c a0 w hc HV.out
  · cases h
end Go.Proofs.YtjkbgcdhhiakmaaDoor.Ext
