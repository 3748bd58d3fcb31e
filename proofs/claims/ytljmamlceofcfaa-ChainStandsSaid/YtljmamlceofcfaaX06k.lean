import Derived.Test.YtljmamlceofcfaaX06m
/- The contracts of slices.Grow, slices.Concat at two lists of times. -/
namespace Go.Proofs.Ytljmamlceofcfaa.V06
set_option linter.unusedSimpArgs false
set_option linter.unusedVariables false
open Go Go.Proofs Go.RowKit Go.Sort Go.Proofs.YtljmamlceofcfaaW.PrintWords Go.Proofs.YtljmamlceofcfaaW.PrintLast Go.Proofs.YtljmamlceofcfaaW.PrintMore Go.Proofs.Ytljmamlceofcfaa.Base Go.Proofs.Ytljmamlceofcfaa.Q06t
open M06 (sgc orZ cmpT cmpR ltR leR chkR)
theorem zeroM (w : World) (base : Nat) : k26.M w base (fun _ => False) z26 [.int .u32 0, .int .i64 0, .int .u32 0, .int .u32 0, .int .u32 0] := k26_mkM _ _ _ z26
set_option maxRecDepth 100000 in
set_option maxHeartbeats 4000000 in
theorem grow_c (n : Nat) (hn : n ≤ 1000000) (w : World) : Calls Try.prog 116 #[.slice none 0 0, .int .i64 n] w fun e w' => ∃ v, e = .returned v ∧ Kd.R k26 26 w' w.heap.size (fun _ => True) v ([] : List R) ∧ Below w.heap.size w w' := by
  obtain ⟨x, HX⟩ : ∃ x : Int, Aside0 (x = (n : Int) ∧ n ≤ 1000000) := ⟨_, ⟨rfl, hn⟩⟩
  rw [← HX.out.1]
  have c1 : decide (x < 0) = false := decide_eq_false (by have := HX.out; omega)
  have c2 : wrap64 x = x := by have := HX.out; unfold wrap64; omega
  clear hn
  by_cases h : 0 < x
  · have c3 : decide (0 < x) = true := decide_eq_true h
    clear h
    go_enter Try.func116, Try.ntmps116
    go_wp2_with (first | ((with_reducible refine gate_builtin (b := .append) (xs := #[.tmp 20, .tmp 21]) rfl ?_); at_builtin; refine Kd.R_append_zeros k26 (w0 := w) w.heap.size rfl (.tmp 20) (.tmp 21) 22 3 26 (.agg #[.int .u32 0, .int .i64 0, .int .u32 0, .int .u32 0, .int .u32 0]) 32 rfl Try.underlying22 (k := .i64) Try.underlying3 infoR rfl (by decide) (by omega) (.slice none 0 0) ([] : List R) z26 (kx := .i64) _ (fun _ => True) rfl rfl ?aZ (fun _ _ => trivial) ?aO ?a0 ?aB ?aS ?aL ?_; (case aZ => exact zeroM _ _); (case aO => exact Kd.R_nil _ _ _ _ _); (case a0 => (first | (have := HX.out; omega) | (rw [c2]; have := HX.out; omega))); (case aB => exact Below.refl _ _); (case aS => exact Nat.le_refl _); (case aL => (have := HX.out; simp only [List.length_nil]; first | omega | (rw [c2]; omega))); intro v1 w1 ho hb hg hat_; obtain ⟨A, c, e1⟩ := Kd.R_slice ho; subst e1; obtain ⟨i0, hi0, _, hsz0, _⟩ := info_parts infoR; have hcut := cut_to (P := Try.prog) 22 26 .i64 Try.underlying22 hi0 A _ c 0 (by omega) (by omega) (Kd.R_reads' ho).2.1; have HT := Aside0.mk (Kd.R_take (m := 0) ho (by omega)); have HB := Aside0.mk hb; clear ho hb hg hat_ hi0 hsz0))
    go_ret
    exact ⟨_, rfl, HT.out, HB.out⟩
  · have c3 : decide (0 < x) = false := decide_eq_false h
    clear h
    go_enter Try.func116, Try.ntmps116
    go_wp2
    go_ret
    exact ⟨_, rfl, Kd.R_nil _ _ _ _ _, Below.refl _ _⟩
set_option maxRecDepth 100000 in
set_option maxHeartbeats 4000000 in
theorem concat_c (g : Nat) (A0 : Option Addr) (c0 : Nat) (l0 : List R) (A1 : Option Addr) (c1 : Nat) (l1 : List R) (w : World) (hg : w.heap[g]? = some (.cells #[.slice A0 l0.length c0, .slice A1 l1.length c1] 22 (0, 0))) (h0 : Kd.C k26 w A0 l0.length l0) (h1 : Kd.C k26 w A1 l1.length l1) (hl0 : l0.length ≤ 100000) (hl1 : l1.length ≤ 100000) :
    Calls Try.prog 77 #[.slice (some ⟨g, 0, none⟩) 2 2] w fun e w' => ∃ v, e = .returned v ∧ Kd.R k26 26 w' w.heap.size (fun _ => True) v (l0 ++ l1) ∧ Below w.heap.size w w' := by
  have HLEN := Aside0.mk (And.intro hl0 hl1)
  have HG := Aside0.mk hg
  have HC0 := Aside0.mk h0
  have HC1 := Aside0.mk h1
  have r0 := blk_at (i := 0) hg rfl
  have r1 := blk_at (i := 1) hg rfl
  have HGR := Aside0.mk (grow_c (l0.length + l1.length) (by omega) w)
  have n0 : decide ((l0.length : Int) < 0) = false := decide_eq_false (by omega)
  have n1 : decide (((l0.length + l1.length : Nat) : Int) < 0) = false := decide_eq_false (by omega)
  have w0 : wrap64 (l0.length : Int) = (l0.length : Int) := by unfold wrap64; omega
  have w1 : wrap64 ((l0.length : Int) + (l1.length : Int)) = ((l0.length + l1.length : Nat) : Int) := by unfold wrap64; omega
  clear hg h0 h1 hl0 hl1
  generalize ((l0.length + l1.length : Nat) : Int) = N at n1 w1 HGR
  go_enter Try.func77, Try.ntmps77
  go_wp2
  refine wp_loop_rounds 3 ?_
  rw [rounds_succ]
  go_wp2
  rw [rounds_succ]
  go_wp2
  rw [rounds_succ]
  go_wp2_with fail
  refine HGR.out.mono ?_
  rintro e w1 ⟨v, rfl, ho, hb⟩
  have HV0 := Aside0.mk ho
  have HB0 := Aside0.mk hb
  clear ho hb r0 r1
  have r0 := (HB0.out.cell (p := ⟨g, 0, none⟩) (Array.getElem?_eq_some_iff.1 HG.out).1).trans (blk_at (i := 0) HG.out rfl)
  have r1 := (HB0.out.cell (p := ⟨g, 1, none⟩) (Array.getElem?_eq_some_iff.1 HG.out).1).trans (blk_at (i := 1) HG.out rfl)
  go_wp2
  refine wp_loop_rounds 3 ?_
  rw [rounds_succ]
  go_wp2_with (first | ((with_reducible refine gate_builtin (b := .append) (xs := #[.tmp 31, .tmp 32]) rfl ?_); at_builtin; refine Kd.R_append_rows k26 (w0 := w) w.heap.size rfl (.tmp 31) (.tmp 32) 22 26 (.agg #[.int .u32 0, .int .i64 0, .int .u32 0, .int .u32 0, .int .u32 0]) 32 rfl Try.underlying22 infoR rfl (by decide) (by omega) v ([] : List R) l0 _ _ _ (fun _ => True) (fun _ => False) rfl rfl ?aO ?aR (fun _ _ h => h) (fun _ h => h.elim) ?aF ?aB ?aS ?aL ?_; (case aR => exact Kd.C_below HC0.out HB0.out); (case aB => exact HB0.out); (case aF => exact (fun _ _ => trivial)); (case aO => exact HV0.out); (case aS => exact HB0.out.size); (case aL => (have := HLEN.out; simp only [List.length_append, List.length_nil]; omega)); intro v1 w2 ho hb_ hg hat_; have HV1 := Aside0.mk ho; have HB1 := Aside0.mk hb_; clear ho hb_ hg hat_; replace r1 := (HB1.out.cell (p := ⟨g, 1, none⟩) (Array.getElem?_eq_some_iff.1 HG.out).1).trans (blk_at (i := 1) HG.out rfl)))
  rw [rounds_succ]
  go_wp2_with (first | ((with_reducible refine gate_builtin (b := .append) (xs := #[.tmp 31, .tmp 32]) rfl ?_); at_builtin; refine Kd.R_append_rows k26 (w0 := w) w.heap.size rfl (.tmp 31) (.tmp 32) 22 26 (.agg #[.int .u32 0, .int .i64 0, .int .u32 0, .int .u32 0, .int .u32 0]) 32 rfl Try.underlying22 infoR rfl (by decide) (by omega) v1 (([] : List R) ++ l0) l1 _ _ _ (fun _ => True) (fun _ => False) rfl rfl ?aO ?aR (fun _ _ h => h) (fun _ h => h.elim) ?aF ?aB ?aS ?aL ?_; (case aR => exact Kd.C_below HC1.out HB1.out); (case aB => exact HB1.out); (case aF => exact (fun _ _ => trivial)); (case aO => exact HV1.out); (case aS => exact HB1.out.size); (case aL => (have := HLEN.out; simp only [List.length_append, List.length_nil]; omega)); intro v2 w3 ho hb_ hg hat_; have HV2 := Aside0.mk ho; have HB2 := Aside0.mk hb_; clear ho hb_ hg hat_))
  rw [rounds_succ]
  go_wp2
  go_ret
  exact ⟨_, rfl, by have := HV2.out; simpa using this, HB2.out⟩
end Go.Proofs.Ytljmamlceofcfaa.V06
