import Derived.RangeFuncNested
import Derived.RangeFuncBox
import Derived.RangeFuncLeaves
import Derived.Shelf.Abstract
import Derived.Shelf.RegionOpen
import Derived.WalkKit
import Derived.OwnWalkIn
import Derived.TacticsInMore
import Derived.LoopNIn
import Derived.LoopIn
import Derived.Maps.AppendAt
import Derived.Test.YtljmamlceofcfaaQ06tx0
import Derived.Test.YtljmamlceofcfaaBase
import Derived.Sort.EveryDepth
import Derived.Sort.OwnSorted
import Derived.Shelf.GgSortFunc.InsertionK
section
/- slices.Values, AppendSeq and Collect over structs of 5 cells. -/
namespace Go.Proofs.Ytljmamlceofcfaa.V06
set_option linter.unusedSimpArgs false
set_option linter.unusedVariables false
open Go Go.Proofs Go.RowKit Go.Shelf Go.Proofs.YtljmamlceofcfaaW.PrintWords Go.Proofs.YtljmamlceofcfaaW.PrintLast Go.Proofs.YtljmamlceofcfaaW.PrintMore Go.Proofs.Ytljmamlceofcfaa.Base Go.Proofs.Ytljmamlceofcfaa.Q06t
attribute [local go_sem] Oper.semAt_some
abbrev R := S26
def enc (x : R) : Value := .agg #[.int .u32 x.f0, .int .i64 x.f1, .int .u32 x.f2.f0, .int .u32 x.f2.f1, .int .u32 x.f2.f2]
abbrev fV : Nat := 109
set_option maxRecDepth 100000 in
set_option maxHeartbeats 4000000 in
theorem values1_in (F : Fence) (n : Nat) (h7 : F.fn fV) (hro : F.round = none) (hn : 1 ≤ n) (l Bs n₀ b off cap B : Nat) (zs : List R) (hreach : zs.length * 32 ≤ 140737488351232) (hb : b < n₀) (J Jx : List R → World → Prop) (hJ : AbidesFrom B J)
    (hY : ∀ pre x W, J pre W → pre.length < zs.length → YieldAt F (n - 1) Try.prog l #[enc x] W fun e W' =>
      (e = .returned (.bool true) ∧ J (pre ++ [x]) W' ∧ Below n₀ W W') ∨ (e = .returned (.bool false) ∧ Jx (pre ++ [x]) W'))
    (W : World) (hn₀ : n₀ ≤ W.heap.size) (hBs : W.cell? ⟨Bs, 0, none⟩ = some (.slice (some ⟨b, off, none⟩) zs.length cap)) (hc : ∀ j (h : j < zs.length), W.cell? ⟨b, off + j * 5, none⟩ = some (.int .u32 zs[j].f0) ∧ W.cell? ⟨b, off + j * 5 + 1, none⟩ = some (.int .i64 zs[j].f1) ∧ W.cell? ⟨b, off + j * 5 + 2, none⟩ = some (.int .u32 zs[j].f2.f0) ∧ W.cell? ⟨b, off + j * 5 + 3, none⟩ = some (.int .u32 zs[j].f2.f1) ∧ W.cell? ⟨b, off + j * 5 + 4, none⟩ = some (.int .u32 zs[j].f2.f2)) (h0 : J [] W) :
    CallsIn F n Try.prog fV #[.func (.yield l) #[] #[], .pointer (some ⟨Bs, 0, none⟩)] W fun e W' => (∃ v, e = .returned v) ∧ (J zs W' ∨ ∃ pre, pre <+: zs ∧ Jx pre W') := by
  refine callsIn_of_wp Try.func109 rfl h7 ?_ hro
  simp only [Try.ntmps109, List.size_toArray, List.length_cons, List.length_nil, Nat.reduceAdd, Nat.reduceSub, Array.replicate_succ, Array.replicate_zero, List.push_toArray, List.append_toArray, List.nil_append, List.cons_append]
  gi_wp2
  gi_loopw [7] (fun i wr => ∃ k : Nat, k ≤ zs.length ∧ i = .int .i64 k ∧ J (zs.take k) wr ∧ Below n₀ W wr)
    (fun i _ => zs.length - (intOf i).toNat)
  case atStart => exact ⟨0, Nat.zero_le _, rfl, h0, Below.refl _ _⟩
  case round =>
    obtain ⟨k, hk, rfl, hJs, hnx⟩ := hrel
    by_cases hlt : k < zs.length
    · have q0 := (hnx.cell (p := ⟨b, off + k * 5, none⟩) hb).trans (hc k hlt).1
      have q1 := (hnx.cell (p := ⟨b, off + k * 5 + 1, none⟩) hb).trans (hc k hlt).2.1
      have q2 := (hnx.cell (p := ⟨b, off + k * 5 + 2, none⟩) hb).trans (hc k hlt).2.2.1
      have q3 := (hnx.cell (p := ⟨b, off + k * 5 + 3, none⟩) hb).trans (hc k hlt).2.2.2.1
      have q4 := (hnx.cell (p := ⟨b, off + k * 5 + 4, none⟩) hb).trans (hc k hlt).2.2.2.2
      have hJa := hJ _ _ (wr.alloc (.cells #[.int .u32 zs[k].f0, .int .i64 zs[k].f1, .int .u32 zs[k].f2.f0, .int .u32 zs[k].f2.f1, .int .u32 zs[k].f2.f2] 26)) none hJs (World.grownBy_alloc _ _ _) (fun r e => by cases e)
      obtain ⟨fn, tmps, assign, body, hy, hR⟩ := hY _ zs[k] _ hJa (by rw [List.length_take]; omega)
      unfold enc at hy
      gi_wp2
      have htk : zs.take (k + 1) = zs.take k ++ [zs[k]] := by rw [List.take_succ_eq_append_getElem hlt]
      refine hR.mono ?_
      rintro e W3 (⟨rfl, hJ3, hk3⟩ | ⟨rfl, hJx3⟩)
      · gi_wp2
        go_roundw
        case rel => exact ⟨k + 1, by omega, by simp, by rw [htk]; exact hJ3, hnx.trans ((below_alloc (Below.refl _ _) _).mono (Nat.le_trans hn₀ hnx.size) |>.trans hk3)⟩
        case measure => simp [intOf]; omega
      · gi_wp2
        refine bodyPost_ret (results_none rfl _ _ _) rfl ?_
        exact ⟨⟨_, rfl⟩, .inr ⟨zs.take (k + 1), List.take_prefix _ _, by rw [htk]; exact hJx3⟩⟩
    · obtain rfl : k = zs.length := by omega
      rw [List.take_length] at hJs
      gi_wp2
      go_end0
      exact ⟨⟨_, rfl⟩, .inl hJs⟩
set_option maxRecDepth 100000 in
set_option maxHeartbeats 1000000 in
theorem values1_nil_in (F : Fence) (n : Nat) (h7 : F.fn fV) (hro : F.round = none) (l Bs : Nat) (J : List R → World → Prop) (W : World) (A : Option Addr) (c : Nat) (hBs : W.cell? ⟨Bs, 0, none⟩ = some (.slice A 0 c)) (h0 : J [] W) :
    CallsIn F n Try.prog fV #[.func (.yield l) #[] #[], .pointer (some ⟨Bs, 0, none⟩)] W fun e W' => (∃ v, e = .returned v) ∧ J [] W' := by
  refine callsIn_of_wp Try.func109 rfl h7 ?_ hro
  simp only [Try.ntmps109, List.size_toArray, List.length_cons, List.length_nil, Nat.reduceAdd, Nat.reduceSub, Array.replicate_succ, Array.replicate_zero, List.push_toArray, List.append_toArray, List.nil_append, List.cons_append]
  gi_wp2
  gi_loopw [7] (fun i wr => i = .int .i64 0 ∧ J [] wr) (fun _ _ => 0)
  case atStart => exact ⟨rfl, h0⟩
  case round =>
    obtain ⟨rfl, hJs⟩ := hrel
    gi_wp2
    go_end0
    exact ⟨⟨_, rfl⟩, hJs⟩
set_option maxHeartbeats 1000000 in
/-- slices.Values: the slice value is boxed; the function value captures the box. -/
theorem values_in (F : Fence) (n : Nat) (h5 : F.fn 68) (hro : F.round = none) (a : Option Addr) (len cap : Nat) (w : World) :
    CallsIn F n Try.prog 68 #[.slice a len cap] w fun e w' => e = .returned (.func (.func fV) #[] #[.pointer (some ⟨w.heap.size, 0, none⟩)]) ∧ w' = w.alloc (.cells #[.slice a len cap] 22) := by
  refine callsIn_of_wp Try.func68 rfl h5 ?_ hro
  simp only [Try.ntmps68, List.size_toArray, List.length_cons, List.length_nil, Nat.reduceAdd, Nat.reduceSub, Array.replicate_succ, Array.replicate_zero, List.push_toArray, List.append_toArray, List.nil_append, List.cons_append]
  gi_wp2
  go_ret
  exact ⟨rfl, rfl⟩
/-- The slice value holds the items, in a block below n₀; or it is nil and there are none. -/
def Recs (n₀ : Nat) (W : World) (sv : Value) (zs : List R) : Prop :=
  (zs = [] ∧ ∃ A c, sv = .slice A 0 c) ∨ ∃ b off cap, sv = .slice (some ⟨b, off, none⟩) zs.length cap ∧ b < n₀ ∧ ∀ j (h : j < zs.length), W.cell? ⟨b, off + j * 5, none⟩ = some (.int .u32 zs[j].f0) ∧ W.cell? ⟨b, off + j * 5 + 1, none⟩ = some (.int .i64 zs[j].f1) ∧ W.cell? ⟨b, off + j * 5 + 2, none⟩ = some (.int .u32 zs[j].f2.f0) ∧ W.cell? ⟨b, off + j * 5 + 3, none⟩ = some (.int .u32 zs[j].f2.f1) ∧ W.cell? ⟨b, off + j * 5 + 4, none⟩ = some (.int .u32 zs[j].f2.f2)
theorem Recs.below {n₀ : Nat} {A B : World} (h : Below n₀ A B) {sv : Value} {zs : List R} : Recs n₀ A sv zs → Recs n₀ B sv zs
  | .inl e => .inl e
  | .inr ⟨b, off, cap, e, hb, hc⟩ => .inr ⟨b, off, cap, e, hb, fun j hj => ⟨(h.cell (p := ⟨b, off + j * 5, none⟩) hb).trans (hc j hj).1, (h.cell (p := ⟨b, off + j * 5 + 1, none⟩) hb).trans (hc j hj).2.1, (h.cell (p := ⟨b, off + j * 5 + 2, none⟩) hb).trans (hc j hj).2.2.1, (h.cell (p := ⟨b, off + j * 5 + 3, none⟩) hb).trans (hc j hj).2.2.2.1, (h.cell (p := ⟨b, off + j * 5 + 4, none⟩) hb).trans (hc j hj).2.2.2.2⟩⟩
/-- What slices.Values hands back gives all of the items, in their order; or a beginning. -/
theorem values_stops (F : Fence) (n : Nat) (h7 : F.fn fV) (hro : F.round = none) (hn : 1 ≤ n) (Bs n₀ : Nat) (sv : Value) (zs : List R) (hreach : zs.length * 32 ≤ 140737488351232) (w : World) (hBs : Bs < w.heap.size) (hn₀ : n₀ ≤ w.heap.size)
    (hc : w.cell? ⟨Bs, 0, none⟩ = some sv) (hI : Recs n₀ w sv zs) :
    SeqStopsK F n Try.prog fV #[.pointer (some ⟨Bs, 0, none⟩)] (fun x : R => #[enc x]) (Below n₀) (fun ys => ys = zs) (fun pre => pre <+: zs) zs.length w := fun l J Jx W hW hJ _ hY h0 => by
  have hc' := (hW.cell (p := ⟨Bs, 0, none⟩) hBs).trans hc
  rcases hI.below (hW.mono hn₀) with ⟨rfl, A, c, rfl⟩ | ⟨b, off, cap, rfl, hb, hcs⟩
  · exact (values1_nil_in F n h7 hro l Bs J W A c hc' h0).mono fun e W' ⟨he, hj⟩ => ⟨he, .inl ⟨_, rfl, hj⟩⟩
  · refine (values1_in F n h7 hro hn l Bs n₀ b off cap W.heap.size zs hreach hb J Jx hJ hY W (Nat.le_trans hn₀ hW.size) hc' hcs h0).mono ?_
    rintro e W' ⟨he, hj | ⟨pre, hp, hj⟩⟩
    · exact ⟨he, .inl ⟨_, rfl, hj⟩⟩
    · exact ⟨he, .inr ⟨_, hp, hj⟩⟩
abbrev fA : Nat := 131
abbrev TS : TypeId := 22
abbrev TR : TypeId := 26
theorem infoR : (Try.prog.info? 26).map (fun i => (i.zero, i.size, i.bytes)) = some (some (.agg #[.int .u32 0, .int .i64 0, .int .u32 0, .int .u32 0, .int .u32 0]), 5, 32) := by kernel_rfl
def cs : List R → List Value
  | [] => []
  | x :: t => .int .u32 x.f0 :: .int .i64 x.f1 :: .int .u32 x.f2.f0 :: .int .u32 x.f2.f1 :: .int .u32 x.f2.f2 :: cs t
theorem cs_append : ∀ a b : List R, cs (a ++ b) = cs a ++ cs b
  | [], b => rfl
  | x :: t, b => by rw [List.cons_append, cs, cs, cs_append t b]; rfl
theorem cell_new (w : World) (x0 x1 x2 x3 x4 : Value) (t : TypeId) : ∀ j u, [x0, x1, x2, x3, x4][j]? = some u → (w.alloc (.cells #[x0, x1, x2, x3, x4] t)).cell? ((⟨w.heap.size, 0, none⟩ : Addr).add j) = some u := by
  intro j u hj
  match j, hj with
  | 0, hj =>
    simp at hj
    subst hj
    simp [Addr.add]
  | 1, hj =>
    simp at hj
    subst hj
    simp [Addr.add]
  | 2, hj =>
    simp at hj
    subst hj
    simp [Addr.add]
  | 3, hj =>
    simp at hj
    subst hj
    simp [Addr.add]
  | 4, hj =>
    simp at hj
    subst hj
    simp [Addr.add]
set_option maxRecDepth 100000 in
set_option maxHeartbeats 8000000 in
theorem appendSeq_in (F : Fence) (n : Nat) (h71 : F.fn fA) (h60 : F.fn fV) (hro : F.round = none) (hn : 3 ≤ n) (Bs : Nat) (sv : Value) (zs : List R) (hl : zs.length ≤ 1000000) (w : World) (hBs : Bs < w.heap.size) (hc : w.cell? ⟨Bs, 0, none⟩ = some sv) (hI : Recs w.heap.size w sv zs) :
    CallsIn F n Try.prog fA #[.slice none 0 0, .func (.func fV) #[] #[.pointer (some ⟨Bs, 0, none⟩)]] w fun e w' => ∃ v, e = .returned v ∧ w'.ownsRow w.heap.size TR 5 v zs.length (cs zs) ∧ Below w.heap.size w w' := by
  have h1 : 1 ≤ n := by omega
  obtain ⟨i0, hi, hz0, hz1, hz2⟩ := info_parts infoR
  refine callsIn_of_wp_marks Try.func131 rfl h71 ?_ hro
  simp only [Try.ntmps131, List.size_toArray, List.length_cons, List.length_nil, Nat.reduceAdd, Nat.reduceSub, Array.replicate_succ, Array.replicate_zero, List.push_toArray, List.append_toArray, List.nil_append, List.cons_append]
  gi_wp2
  have bS := Boxed.new w TS (.slice none 0 0)
  have hB0 : Below w.heap.size w (w.alloc (.cells #[.slice none 0 0] TS)) := (Below.refl _ w).alloc (Nat.le_refl _) _
  have hsz : (w.alloc (.cells #[.slice none 0 0] TS)).heap.size = w.heap.size + 1 := by simp
  obtain ⟨W0, hW0⟩ : ∃ W0, w.alloc (.cells #[.slice none 0 0] TS) = W0 := ⟨_, rfl⟩
  rw [hW0] at bS hB0 hsz ⊢
  clear hW0
  refine wpIn_rangeFunc_ownH hro h1 (gf := fV) (lb := #[.pointer (some ⟨Bs, 0, none⟩)]) rfl h60 (enters_of Try.func109 (by kernel_rfl) rfl)
    (values_stops F (n - 1) h60 hro (by omega) Bs w.heap.size sv zs (by omega) W0 (by omega) (by omega) ((hB0.cell (p := ⟨Bs, 0, none⟩) hBs).trans hc) (hI.below hB0)) belowK_t (belowK_b (by omega)) (Below.refl _ _) (fun _ => rfl)
    (fun pre W => (∃ v, Boxed W w.heap.size TS v ∧ W.ownsRow w.heap.size TR 5 v pre.length (cs pre) ∧ True) ∧ Below w.heap.size w W)
    (fun _ _ _ => False)
    (OwnFrom.and (Own.from (holdsRow_own w.heap.size w.heap.size TS TR 5 (fun pre : List R => pre.length) cs (fun _ _ => True)) _) (ownFrom_below (Nat.le_refl _) (by omega)))
    (fun _ _ _ _ _ hs _ _ => hs)
    ⟨⟨_, bS, World.ownsRow_nil _ _ _ _, trivial⟩, hB0⟩
    (fun x a' W => ∃ Bx, w.heap.size < Bx ∧ W.heap[Bx]? = some (.cells #[.int .u32 x.f0, .int .i64 x.f1, .int .u32 x.f2.f0, .int .u32 x.f2.f1, .int .u32 x.f2.f2] TR (0, 0)) ∧ a' = { tmps := #[.slice none 0 0, .func (.func fV) #[] #[.pointer (some ⟨Bs, 0, none⟩)], .pointer (some ⟨w.heap.size, 0, none⟩), undef, .slice none 0 0, .pointer (some ⟨Bx, 0, none⟩), .func (.func fV) #[] #[.pointer (some ⟨Bs, 0, none⟩)], enc x, undef, undef, undef, undef, undef], defers := [] })
    (fun x a' _ X Y row hs hg hr => by
      obtain ⟨Bx, h1, h2, h3⟩ := hs
      refine ⟨Bx, h1, (hg.block Bx (Array.getElem?_eq_some_iff.1 h2).1 (fun e => ?_)).trans h2, h3⟩
      obtain ⟨_, o, ho, hcl⟩ := hr Bx e.symm
      rw [h2] at ho
      cases ho
      cases hcl)
    ?assign ?body ?done ?stop
  case assign =>
    rintro l pre x W K ⟨⟨v, bv, hrow, _⟩, hB1⟩ hK
    unfold enc
    gi_wp2
    exact hK _ _ ((KeepsOthers.alloc _ _).from _) ((Below.refl _ W).alloc hB1.size _) ⟨⟨v, bv.alloc _, hrow.alloc _, trivial⟩, hB1.alloc hB1.size _⟩ ⟨W.heap.size, bv.lt, World.alloc_heap_new W _, rfl⟩
  case body =>
    rintro l pre x a' W hl1 ⟨r, hr⟩ ⟨⟨v, bv, hrow, _⟩, hB1⟩ ⟨Bx, hBx, bX, rfl⟩ hlt
    have cB := bv.cell
    have fB := bv.frozen
    have c0 := blk_at (i := 0) bX rfl
    have c1 := blk_at (i := 1) bX rfl
    have c2 := blk_at (i := 2) bX rfl
    have c3 := blk_at (i := 3) bX rfl
    have c4 := blk_at (i := 4) bX rfl
    unfold enc
    gi_wp2_with (first
      | (gi_at_builtin; refine wpListIn_append_own _ rfl _ _ TS rfl w.heap.size TR i0 (.agg #[.int .u32 0, .int .i64 0, .int .u32 0, .int .u32 0, .int .u32 0]) 5 32 Try.underlying22 hi hz0 hz1 hz2 rfl (by decide) _ _ _ rfl (hrow.alloc _) ⟨W.heap.size, 0, none⟩ 1 1 [.int .u32 x.f0, .int .i64 x.f1, .int .u32 x.f2.f0, .int .u32 x.f2.f1, .int .u32 x.f2.f2] rfl rfl (cell_new _ _ _ _ _ _ _) (by simp [Value.oneCell']) (by unfold maxLen; omega) (by omega) (by have := hB1.size; simp; omega) ?_; intro v' w1 hown' hgrow _; obtain ⟨g', cap', rfl⟩ := ownsRow_succ hown'; obtain ⟨hv1, hv2, hr2, hk2, hb2⟩ := bv.appended (by decide) hrow hB1.size (Nat.le_refl _) hown' hgrow; have hc1 := hv1.cell; have hf1 := hv1.frozen)
      | gi_in)
    exact ⟨hk2.from _, hb2, ⟨_, hv2, by rw [List.length_append, cs_append]; exact hr2, trivial⟩, hB1.trans hb2⟩
  case done =>
    rintro D ys W hD rfl ⟨⟨v, bv, hrow, _⟩, hB1⟩ hK
    have cB := bv.cell
    gi_wp2
    refine ⟨by simp, .inl ⟨_, _, rfl, run_takeDeferred hK, ?_⟩⟩
    exact ⟨_, results_tmp rfl _ _ _, v, rfl, ownsRow_putObj hrow _ hK rfl, hB1.trans (belowK_b (w := w) (Nat.le_refl _) W D _ _ (by omega) hK rfl rfl)⟩
  case stop =>
    rintro D c pre W hD _ h _
    exact h.elim
abbrev fC : Nat := 107
set_option maxRecDepth 100000 in
set_option maxHeartbeats 2000000 in
theorem collect_in (F : Fence) (n : Nat) (h58 : F.fn fC) (h71 : F.fn fA) (h60 : F.fn fV) (hro : F.round = none) (hn : 4 ≤ n) (Bs : Nat) (sv : Value) (zs : List R) (hl : zs.length ≤ 1000000) (w : World) (hBs : Bs < w.heap.size) (hc : w.cell? ⟨Bs, 0, none⟩ = some sv) (hI : Recs w.heap.size w sv zs) :
    CallsIn F n Try.prog fC #[.func (.func fV) #[] #[.pointer (some ⟨Bs, 0, none⟩)]] w fun e w' => ∃ v, e = .returned v ∧ w'.ownsRow w.heap.size TR 5 v zs.length (cs zs) ∧ Below w.heap.size w w' := by
  have h1 : 1 ≤ n := by omega
  refine callsIn_of_wp Try.func107 rfl h58 ?_ hro
  simp only [Try.ntmps107, List.size_toArray, List.length_cons, List.length_nil, Nat.reduceAdd, Nat.reduceSub, Array.replicate_succ, Array.replicate_zero, List.push_toArray, List.append_toArray, List.nil_append, List.cons_append]
  gi_wp2_with (gi_at_call 131; refine (appendSeq_in F (n - 1) h71 h60 hro (by omega) Bs sv zs hl w hBs hc hI).mono ?_; rintro e w' ⟨v, rfl, hrow, hb⟩)
  go_ret
  exact ⟨v, rfl, hrow, hb⟩
end Go.Proofs.Ytljmamlceofcfaa.V06
end
section
/- slices.Values and slices.Collect over structs of 5 cells as plain contracts. -/
namespace Go.Proofs.Ytljmamlceofcfaa.V06
set_option linter.unusedSimpArgs false
set_option linter.unusedVariables false
open Go Go.Proofs Go.RowKit Go.Shelf Go.Proofs.YtljmamlceofcfaaW.PrintWords Go.Proofs.YtljmamlceofcfaaW.PrintLast Go.Proofs.YtljmamlceofcfaaW.PrintMore Go.Proofs.Ytljmamlceofcfaa.Base Go.Proofs.Ytljmamlceofcfaa.Q06t
theorem Values_c (a : Option Addr) (len cap : Nat) (w : World) :
    Calls Try.prog 68 #[.slice a len cap] w fun e w' => e = .returned (.func (.func fV) #[] #[.pointer (some ⟨w.heap.size, 0, none⟩)]) ∧ w' = w.alloc (.cells #[.slice a len cap] 22) :=
  calls_of_every_depth (L := [68]) (n := 1) fun D => values_in _ 1 (by show _ ∈ _; decide) rfl a len cap w
theorem Collect_c (Bs : Nat) (sv : Value) (zs : List R) (hl : zs.length ≤ 1000000) (w : World) (hBs : Bs < w.heap.size) (hc : w.cell? ⟨Bs, 0, none⟩ = some sv) (hI : Recs w.heap.size w sv zs) :
    Calls Try.prog fC #[.func (.func fV) #[] #[.pointer (some ⟨Bs, 0, none⟩)]] w fun e w' => ∃ v, e = .returned v ∧ w'.ownsRow w.heap.size TR 5 v zs.length (cs zs) ∧ Below w.heap.size w w' :=
  calls_of_every_depth (L := [fC, fA, fV]) (n := 4) fun D => collect_in _ 4 (by show _ ∈ _; decide) (by show _ ∈ _; decide) (by show _ ∈ _; decide) rfl (by decide) Bs sv zs hl w hBs hc hI
theorem cell_spot {w : World} {a : Addr} {u : Value} (h : w.cell? a = some u) : a.spot = none := by
  unfold World.cell? at h
  cases hs : a.spot with
  | none => rfl
  | some s =>
    rw [hs] at h
    split at h
    · simp at h
    · cases h
/-- A row of items in memory: where its cells lie. -/
theorem at_C {w : World} {A : Option Addr} {l : List R} (h : Kd.C k26 w A l.length l) (h0 : 0 < l.length) : ∃ b off, A = some ⟨b, off, none⟩ ∧ b < w.heap.size ∧ ∀ j (hj : j < l.length), w.cell? ⟨b, off + j * 5, none⟩ = some (.int .u32 l[j].f0) ∧ w.cell? ⟨b, off + j * 5 + 1, none⟩ = some (.int .i64 l[j].f1) ∧ w.cell? ⟨b, off + j * 5 + 2, none⟩ = some (.int .u32 l[j].f2.f0) ∧ w.cell? ⟨b, off + j * 5 + 3, none⟩ = some (.int .u32 l[j].f2.f1) ∧ w.cell? ⟨b, off + j * 5 + 4, none⟩ = some (.int .u32 l[j].f2.f2) := by
  obtain ⟨ad, hA, h0, h1, h2, h3, h4⟩ := at_T26 h 0 (by omega) (by omega)
  have hs : ad.spot = none := by
    have := cell_spot h0
    simpa [Addr.add] using this
  have hb : ad.block < w.heap.size := by
    have := World.block_lt_of_cell? _ _ h0
    simpa [Addr.add] using this
  refine ⟨ad.block, ad.off, by rw [hA]; cases ad; simp_all, hb, fun j hj => ?_⟩
  obtain ⟨ad', hA', g0, g1, g2, g3, g4⟩ := at_T26 h j (by omega) (by omega)
  have : ad' = ad := by rw [hA] at hA'; cases hA'; rfl
  subst this
  have e1 : rd_T26 l (j : Int) = l[j] := by
    unfold rd_T26
    rw [Int.toNat_natCast, List.getD_eq_getElem?_getD, List.getElem?_eq_getElem hj]
    rfl
  rw [e1, Int.toNat_natCast] at g0 g1 g2 g3 g4
  have e2 : ad'.add (j * 5) = ⟨ad'.block, ad'.off + j * 5, none⟩ := by
    unfold Addr.add
    split
    · rename_i hj0
      rw [hj0, Nat.add_zero, ← hs]
    · rfl
  rw [e2] at g0 g1 g2 g3 g4
  exact ⟨g0, g1, g2, g3, g4⟩
theorem recs_of_C {w : World} {A : Option Addr} {l : List R} (c : Nat) (h : Kd.C k26 w A l.length l) : Recs w.heap.size w (.slice A l.length c) l := by
  by_cases h0 : l.length = 0
  · obtain rfl := List.eq_nil_of_length_eq_zero h0
    exact .inl ⟨rfl, A, c, rfl⟩
  · obtain ⟨b, off, rfl, hb, hc⟩ := at_C h (by omega)
    exact .inr ⟨b, off, c, rfl, hb, hc⟩
end Go.Proofs.Ytljmamlceofcfaa.V06
end
section
/- A row of structs of 5 cells that the library sorts: its cells, flat. -/
namespace Go.Proofs.Ytljmamlceofcfaa.V06
set_option linter.unusedSimpArgs false
set_option linter.unusedVariables false
open Go Go.Proofs Go.RowKit Go.Sort Go.Proofs.YtljmamlceofcfaaW.PrintWords Go.Proofs.YtljmamlceofcfaaW.PrintLast Go.Proofs.YtljmamlceofcfaaW.PrintMore Go.Proofs.Ytljmamlceofcfaa.Base Go.Proofs.Ytljmamlceofcfaa.Q06t
instance : Inhabited R := ⟨z26⟩
def encL (x : R) : List Value := [.int .u32 x.f0, .int .i64 x.f1, .int .u32 x.f2.f0, .int .u32 x.f2.f1, .int .u32 x.f2.f2]
theorem cs_length : ∀ zs : List R, (cs zs).length = zs.length * 5
  | [] => rfl
  | x :: t => by
    rw [cs, List.length_cons, List.length_cons, List.length_cons, List.length_cons, List.length_cons, cs_length t, List.length_cons]
    omega
theorem cs_get : ∀ (zs : List R) (t : Nat), t < zs.length * 5 → (cs zs)[t]? = some ((encL zs.toArray[t / 5]!)[t % 5]!)
  | [], t, h => by simp at h
  | x :: r, 0, h => by simp [cs, encL]
  | x :: r, 1, h => by simp [cs, encL]
  | x :: r, 2, h => by simp [cs, encL]
  | x :: r, 3, h => by simp [cs, encL]
  | x :: r, 4, h => by simp [cs, encL]
  | x :: r, t + 5, h => by
    have ih := cs_get r t (by simp only [List.length_cons] at h; omega)
    rw [cs, List.getElem?_cons_succ, List.getElem?_cons_succ, List.getElem?_cons_succ, List.getElem?_cons_succ, List.getElem?_cons_succ, ih]
    congr 2
    · have : (t + 5) / 5 = t / 5 + 1 := by omega
      rw [this]
      simp
    · omega
theorem flat_cs (zs : List R) : flatK encL 5 zs.toArray = (cs zs).toArray := by
  refine ext_get! (by simp [cs_length]) fun t ht => ?_
  have ht' : t < zs.length * 5 := by simpa using ht
  rw [get_flatK _ _ _ t (by simpa using ht')]
  have h := cs_get zs t ht'
  have hl : t < (cs zs).length := by rw [cs_length]; exact ht'
  rw [List.getElem?_eq_getElem hl] at h
  simp only [Option.some.injEq] at h
  rw [getElem!_pos _ t (by simpa using hl)]
  simpa using h.symm
theorem holds_row {w : World} {g : Nat} {cur : Array Value} {e : TypeId} {xs : List Value} (hb : w.heap[g]? = some (.cells cur e (0, 0))) (ht : cur.toList.take xs.length = xs) : Holds id w g 0 xs.toArray := by
  intro j hj
  have hj' : j < xs.length := by simpa using hj
  refine ⟨?_, by simp [World.frozen?, hb]⟩
  have h1 : (cur.toList.take xs.length)[j]? = xs[j]? := by rw [ht]
  rw [List.getElem?_take_of_lt hj'] at h1
  simp only [World.cell?, hb, Nat.zero_add]
  simp only [Option.isSome_none, Bool.false_eq_true, if_false]
  rw [← Array.getElem?_toList, h1]
  simp [hj']
theorem heap_sortedR {w : World} {g n : Nat} {os : Array Obj} {cur : Array Value} {e : TypeId} {fr : Nat × Nat} (d : Array Value) (hb : w.heap[g]? = some (.cells cur e fr)) :
    (grow (putRow id (Sort.ahead w n) g 0 d) os).heap[g]? = some (.cells (putCells id 0 d cur) e fr) := by
  have hg : g < w.heap.size := (Array.getElem?_eq_some_iff.1 hb).1
  rw [heap_grow_old _ _ (by simpa using hg)]
  simp [putRow, mapBlock, Sort.ahead, Array.getElem?_modify, hb, onCells]
theorem grownBy_sortedR {w : World} {g n : Nat} {os : Array Obj} (d : Array Value) : w.grownBy (grow (putRow id (Sort.ahead w n) g 0 d) os) (some g) := by
  refine ⟨rfl, rfl, rfl, by simp, fun k hk hne => ?_⟩
  rw [heap_grow_old _ _ (by simpa using hk)]
  have : g ≠ k := fun e => hne (by rw [e])
  simp [putRow, mapBlock, Sort.ahead, Array.getElem?_modify, this]
theorem take_putCellsR (cur : Array Value) (ts : List Value) (h : ts.length ≤ cur.size) : (putCells id 0 ts.toArray cur).toList.take ts.length = ts := by
  apply List.ext_getElem?
  intro j
  by_cases hj : j < ts.length
  · rw [List.getElem?_take_of_lt hj, Array.getElem?_toList]
    simp [putCells, hj, show j < cur.size by omega]
  · rw [List.getElem?_take_eq_none (by omega), List.getElem?_eq_none (by omega)]
/-- Behind the sort the same slice owns the sorted items. -/
theorem ownsRow_sortedR {w : World} {base g cap n m : Nat} {e : TypeId} {os : Array Obj} {cur : Array Value} {xs : List Value} (hl : xs.length = m * 5) (hbase : base ≤ g) (hb : w.heap[g]? = some (.cells cur e (0, 0)))
    (h1 : m ≤ cap) (h2 : cap ≤ maxLen) (h3 : cur.size = cap * 5) :
    (grow (putRow id (Sort.ahead w n) g 0 xs.toArray) os).ownsRow base e 5 (.slice (some ⟨g, 0, none⟩) m cap) m xs :=
  ⟨hl, .inr ⟨g, cap, _, rfl, hbase, heap_sortedR _ hb, h1, h2, by simp [putCells, h3], by rw [← hl]; exact take_putCellsR cur xs (by omega)⟩⟩
def lays (w w' : World) : Prop := ∃ q os, w' = grow (w.drewN q) os
theorem lays_refl (w : World) : lays w w := ⟨0, #[], by simp [World.drewN]⟩
theorem lays.alloc {w w' : World} (h : lays w w') (o : Obj) : lays w (w'.alloc o) := by
  obtain ⟨q, os, rfl⟩ := h
  exact ⟨q, os ++ #[o], by rw [alloc_eq_grow, grow_grow]⟩
theorem lays.drewN {w w' : World} (h : lays w w') (n : Nat) : lays w (w'.drewN n) := by
  obtain ⟨q, os, rfl⟩ := h
  exact ⟨q + n, os, by simp [grow, World.drewN, Nat.add_assoc]⟩
theorem lays.drew {w w' : World} (h : lays w w') : lays w w'.drew := h.drewN 1
theorem cs_of_own {w : World} {base : Nat} {ok : Nat → Prop} {v : Value} {zs : List R} (h : w.ownsRow base TR 5 v zs.length (cs zs)) (hok : ∀ k, v.ownBlock = some k → ok k) : Kd.R k26 TR w base ok v zs := by
  refine ⟨hok, cs zs, h, by rw [cs_length]; rfl, fun j p hj => ?_⟩
  have hj' := (List.getElem?_eq_some_iff.1 hj).1
  have hk : k26.sz = 5 := rfl
  rw [hk]
  have : ((cs zs).drop (j * 5)).take 5 = encL p := by
    apply List.ext_getElem?
    intro i
    by_cases hi : i < 5
    · rw [List.getElem?_take_of_lt hi, List.getElem?_drop, cs_get zs (j * 5 + i) (by omega)]
      have e1 : (j * 5 + i) / 5 = j := by omega
      have e2 : (j * 5 + i) % 5 = i := by omega
      rw [e1, e2]
      have e3 : zs.toArray[j]! = p := by
        rw [getElem!_pos _ j (by simpa using hj')]
        simpa using (List.getElem?_eq_some_iff.1 hj).2
      rw [e3]
      match i, hi with
      | 0, _ => rfl
      | 1, _ => rfl
      | 2, _ => rfl
      | 3, _ => rfl
      | 4, _ => rfl
    · rw [List.getElem?_eq_none (by simp; omega), List.getElem?_eq_none (by simp [encL]; omega)]
  rw [this]
  exact k26_mkM _ _ _ p
end Go.Proofs.Ytljmamlceofcfaa.V06
end
