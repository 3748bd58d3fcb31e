import Derived.Test.YtogainbkidgkhaaQ12cx
import Derived.Test.YtogainbkidgkhaaQ12fx0
import Derived.Test.YtogainbkidgkhaaPl
import Derived.Sort.Grow
import Derived.Test.YtogainbkidgkhaaX12D
import Derived.Sort.OwnSorted
import Derived.Shelf.GgSortFunc.InsertionK
import Derived.Test.YtogainbkidgkhaaSh2
section
/- The contract of data.compare, as the library's sort asks it: what it hands back, and that it lays blocks alone. -/
namespace Go.Proofs.Ytogainbkidgkhaa.C12
set_option linter.unusedSimpArgs false
set_option linter.unusedVariables false
open Go Go.Proofs Go.RowKit Go.Sort Go.Proofs.YtogainbkidgkhaaW.PrintWords Go.Proofs.YtogainbkidgkhaaW.PrintLast Go.Proofs.YtogainbkidgkhaaW.PrintMore Go.Proofs.Ytogainbkidgkhaa.Base Go.Proofs.Ytogainbkidgkhaa.Q12f Q12c
abbrev R := S25
def cmpI (a b : Int) : Int := if a < b then -1 else if a > b then 1 else 0
def cfR (x y : R) : Int := if cmpI x.f0 y.f0 = 0 then cmpI x.f1 y.f1 else cmpI x.f0 y.f0
theorem Compare_f (a b : Int) : cmp_Compare_int64.f a b = some (cmpI a b) := by
  unfold cmp_Compare_int64.f cmp_isNaN_int64.f cmpI
  simp
  split
  · rfl
  · split <;> rfl
theorem Or_f (a b : Int) : cmp_Or_int.f 10 [a, b] = some (if a = 0 then b else a) := by
  unfold cmp_Or_int.f
  simp only [cmp_Or_int.l0, List.length_cons, List.length_nil]
  by_cases h : a = 0
  · subst h
    by_cases h2 : b = 0
    · subst h2
      simp [Go.Proofs.YtogainbkidgkhaaW.PrintWords.rd, wrap64]
    · simp [Go.Proofs.YtogainbkidgkhaaW.PrintWords.rd, wrap64, h2]
  · simp [Go.Proofs.YtogainbkidgkhaaW.PrintWords.rd, h]
def lays (w w' : World) : Prop := ∃ q os, w' = grow (w.drewN q) os
theorem lays_refl (w : World) : lays w w := ⟨0, #[], by simp [World.drewN]⟩
theorem lays.alloc {w w' : World} (h : lays w w') (o : Obj) : lays w (w'.alloc o) := by
  obtain ⟨q, os, rfl⟩ := h
  exact ⟨q, os ++ #[o], by rw [alloc_eq_grow, grow_grow]⟩
theorem lays.drewN {w w' : World} (h : lays w w') (n : Nat) : lays w (w'.drewN n) := by
  obtain ⟨q, os, rfl⟩ := h
  exact ⟨q + n, os, by simp [grow, World.drewN, Nat.add_assoc]⟩
theorem lays.drew {w w' : World} (h : lays w w') : lays w w'.drew := h.drewN 1
theorem lit2 (w : World) (a b : Int) (t : TypeId) : Kd.C (Kd.int .i64) (w.alloc (.cells #[.int .i64 a, .int .i64 b] t)) (some ⟨w.heap.size, 0, none⟩) 2 [a, b] := by
  have hb := blk_new w (.cells #[.int .i64 a, .int .i64 b] t)
  refine ⟨rfl, by decide, fun _ => ⟨_, rfl, fun j p hj => ?_⟩⟩
  refine ⟨[.int .i64 p], rfl, rfl, fun i u hu => ?_⟩
  match i, hu with
  | 0, hu =>
    simp at hu
    subst hu
    rw [show (Kd.int .i64).sz = 1 from rfl, Nat.mul_one, Nat.add_zero, add_plain]
    match j, hj with
    | 0, hj => simp at hj; subst hj; exact blk_at (i := 0) hb rfl
    | 1, hj => simp at hj; subst hj; exact blk_at (i := 1) hb rfl
set_option maxRecDepth 100000 in
set_option maxHeartbeats 4000000 in
theorem compare_c (x y : R) (w : World) : Calls Try.prog 42 #[.agg #[.int .i64 x.f0, .int .i64 x.f1], .agg #[.int .i64 y.f0, .int .i64 y.f1]] w fun e w' => e = .returned (.int .i64 (cfR x y)) ∧ lays w w' := by
  go_enter Try.func42, Try.ntmps42
  go_upto_region 1 with (fail)
  have hL := ((lays_refl w).alloc (.cells #[.int .i64 x.f0, .int .i64 x.f1] 25)).alloc (.cells #[.int .i64 y.f0, .int .i64 y.f1] 25)
  have HG1 := blk_new w (.cells #[.int .i64 x.f0, .int .i64 x.f1] 25)
  have HG2 := blk_new (w.alloc (.cells #[.int .i64 x.f0, .int .i64 x.f1] 25)) (.cells #[.int .i64 y.f0, .int .i64 y.f1] 25)
  have HG3 := Aside0.mk (blk_below HG1 (below_alloc (Below.refl _ _) (.cells #[.int .i64 y.f0, .int .i64 y.f1] 25)))
  have HG4 := Aside0.mk HG2
  have HL0 := Aside0.mk hL
  clear hL HG1 HG2
  have hgg : (w.alloc (.cells #[.int .i64 x.f0, .int .i64 x.f1] 25)).heap.size = w.heap.size + 1 := by simp
  rw [hgg] at HG4
  clear hgg
  generalize (w.alloc (.cells #[.int .i64 x.f0, .int .i64 x.f1] 25)).alloc (.cells #[.int .i64 y.f0, .int .i64 y.f1] 25) = w1 at HG3 HG4 HL0 ⊢
  generalize w.heap.size + 1 = g2 at HG4 ⊢
  generalize hg1 : w.heap.size = g1 at HG3 ⊢
  clear hg1
  have r0 := blk_at (i := 0) HG3.out rfl
  have r1 := blk_at (i := 1) HG3.out rfl
  have r2 := blk_at (i := 0) HG4.out rfl
  have r3 := blk_at (i := 1) HG4.out rfl
  refine start_ (n := 13) (S := fun w' => w'.cell? ⟨g1, 0, none⟩ = some (.int .i64 x.f0) ∧ w'.cell? ⟨g1, 1, none⟩ = some (.int .i64 x.f1) ∧ w'.cell? ⟨g2, 0, none⟩ = some (.int .i64 y.f0) ∧ w'.cell? ⟨g2, 1, none⟩ = some (.int .i64 y.f1)) (ds := [11]) #[false, false, false, false, false, false, false, false, false, false, false, false, false] (by kernel_rfl) rfl rfl ⟨r0, r1, r2, r3⟩ (fun hHeld => ?_)
  refine pure_ (i := 0) (N := some 5) (v := ?_) (a' := ?_) #[true, false, false, false, false, false, false, false, false, false, false, false, false] rfl rfl (by kernel_rfl) (fun _ _ _ h => h) (Or.inl ⟨by rfl, ?_⟩) ?_ ?_
  rotate_left
  · intro w'
    go_simp
    with_reducible rfl
  rotate_left
  · simp only [Act.put, List.setIfInBounds_toArray, List.set_cons_zero, List.set_cons_succ, i64_w, i32_w]
    rfl
  refine pure_ (i := 2) (N := some 7) (v := ?_) (a' := ?_) #[true, false, true, false, false, false, false, false, false, false, false, false, false] rfl rfl (by kernel_rfl) (fun _ _ _ h => h) (Or.inl ⟨by rfl, ?_⟩) ?_ ?_
  rotate_left
  · intro w'
    go_simp
    with_reducible rfl
  rotate_left
  · simp only [Act.put, List.setIfInBounds_toArray, List.set_cons_zero, List.set_cons_succ, i64_w, i32_w]
    rfl
  refine pure_ (i := 5) (N := some 10) (v := ?_) (a' := ?_) #[true, false, true, false, false, true, false, false, false, false, false, false, false] rfl rfl (by kernel_rfl) (fun _ _ _ h => h) (Or.inl ⟨by rfl, ?_⟩) ?_ ?_
  rotate_left
  · intro w'
    go_simp
    with_reducible rfl
  rotate_left
  · simp only [Act.put, List.setIfInBounds_toArray, List.set_cons_zero, List.set_cons_succ, i64_w, i32_w]
    rfl
  refine pure_ (i := 7) (N := some 12) (v := ?_) (a' := ?_) #[true, false, true, false, false, true, false, true, false, false, false, false, false] rfl rfl (by kernel_rfl) (fun _ _ _ h => h) (Or.inl ⟨by rfl, ?_⟩) ?_ ?_
  rotate_left
  · intro w'
    go_simp
    with_reducible rfl
  rotate_left
  · simp only [Act.put, List.setIfInBounds_toArray, List.set_cons_zero, List.set_cons_succ, i64_w, i32_w]
    rfl
  refine take_ (i := 1) (N := some 6) (v := ?_) (a' := ?_) #[true, true, true, false, false, true, false, true, false, false, false, false, false] rfl rfl (by kernel_rfl) (fun _ _ _ h => h) (Or.inl ⟨by rfl, ?_⟩) hHeld ?_ ?_
  rotate_left
  · rintro w' ⟨s0, s1, s2, s3⟩
    go_simp
    with_reducible rfl
  rotate_left
  · simp only [Act.put, List.setIfInBounds_toArray, List.set_cons_zero, List.set_cons_succ, i64_w, i32_w]
    rfl
  refine take_ (i := 3) (N := some 8) (v := ?_) (a' := ?_) #[true, true, true, true, false, true, false, true, false, false, false, false, false] rfl rfl (by kernel_rfl) (fun _ _ _ h => h) (Or.inl ⟨by rfl, ?_⟩) hHeld ?_ ?_
  rotate_left
  · rintro w' ⟨s0, s1, s2, s3⟩
    go_simp
    with_reducible rfl
  rotate_left
  · simp only [Act.put, List.setIfInBounds_toArray, List.set_cons_zero, List.set_cons_succ, i64_w, i32_w]
    rfl
  refine take_ (i := 6) (N := some 11) (v := ?_) (a' := ?_) #[true, true, true, true, false, true, true, true, false, false, false, false, false] rfl rfl (by kernel_rfl) (fun _ _ _ h => h) (Or.inl ⟨by rfl, ?_⟩) hHeld ?_ ?_
  rotate_left
  · rintro w' ⟨s0, s1, s2, s3⟩
    go_simp
    with_reducible rfl
  rotate_left
  · simp only [Act.put, List.setIfInBounds_toArray, List.set_cons_zero, List.set_cons_succ, i64_w, i32_w]
    rfl
  refine take_ (i := 8) (N := some 13) (v := ?_) (a' := ?_) #[true, true, true, true, false, true, true, true, true, false, false, false, false] rfl rfl (by kernel_rfl) (fun _ _ _ h => h) (Or.inl ⟨by rfl, ?_⟩) hHeld ?_ ?_
  rotate_left
  · rintro w' ⟨s0, s1, s2, s3⟩
    go_simp
    with_reducible rfl
  rotate_left
  · simp only [Act.put, List.setIfInBounds_toArray, List.set_cons_zero, List.set_cons_succ, i64_w, i32_w]
    rfl
  refine one_ (i := 4) (N := some 9) #[true, true, true, true, true, true, true, true, true, false, false, false, false] rfl rfl (by kernel_rfl) (by decide) (fun K hK => ?_)
  refine goes_ Try.func62 (by kernel_rfl) rfl #[.int .i64 x.f0, .int .i64 y.f0] (by rfl) rfl rfl (by simp only [List.map_toArray, List.map_cons, List.map_nil]; rfl) ?_
  with_reducible refine (cmp_Compare_int64.calls x.f0 y.f0 (cmpI x.f0 y.f0) _ (Compare_f _ _)).mono ?_
  rintro e w2 ⟨rfl, n1, rfl⟩
  refine ⟨_, rfl, ?_⟩
  have HL1 := Aside0.mk ((HL0.out.drew).drewN n1)
  refine hK.out _ _ ⟨r0, r1, r2, r3⟩ (fun hHeld => ?_)
  clear hK K
  refine norm_ (a' := ?_) ?_ ?_
  rotate_left
  · show Act.put _ (some 9) _ = _
    simp only [Act.put, List.setIfInBounds_toArray, List.set_cons_zero, List.set_cons_succ, i64_w, i32_w]
    rfl
  refine one_ (i := 9) (N := some 14) #[true, true, true, true, true, true, true, true, true, true, false, false, false] rfl rfl (by kernel_rfl) (by decide) (fun K hK => ?_)
  refine goes_ Try.func62 (by kernel_rfl) rfl #[.int .i64 x.f1, .int .i64 y.f1] (by rfl) rfl rfl (by simp only [List.map_toArray, List.map_cons, List.map_nil]; rfl) ?_
  with_reducible refine (cmp_Compare_int64.calls x.f1 y.f1 (cmpI x.f1 y.f1) _ (Compare_f _ _)).mono ?_
  rintro e w3 ⟨rfl, n2, rfl⟩
  refine ⟨_, rfl, ?_⟩
  have HL2 := Aside0.mk (HL1.out.drewN n2)
  generalize hw3 : (w1.drew.drewN n1).drewN n2 = w3 at HL2 ⊢
  have r0 : w3.cell? ⟨g1, 0, none⟩ = some (.int .i64 x.f0) := by rw [← hw3]; exact r0
  have r1 : w3.cell? ⟨g1, 1, none⟩ = some (.int .i64 x.f1) := by rw [← hw3]; exact r1
  have r2 : w3.cell? ⟨g2, 0, none⟩ = some (.int .i64 y.f0) := by rw [← hw3]; exact r2
  have r3 : w3.cell? ⟨g2, 1, none⟩ = some (.int .i64 y.f1) := by rw [← hw3]; exact r3
  refine hK.out _ _ ⟨r0, r1, r2, r3⟩ (fun hHeld => ?_)
  clear hK K
  refine norm_ (a' := ?_) ?_ ?_
  rotate_left
  · show Act.put _ (some 14) _ = _
    simp only [Act.put, List.setIfInBounds_toArray, List.set_cons_zero, List.set_cons_succ, i64_w, i32_w]
    rfl
  refine one_ (i := 10) (N := some 15) #[true, true, true, true, true, true, true, true, true, true, true, false, false] rfl rfl (by kernel_rfl) (by decide) (fun K hK => ?_)
  refine value_ (w1 := w3.alloc (.cells #[.int .i64 (cmpI x.f0 y.f0), .int .i64 (cmpI x.f1 y.f1)] 3)) (v := .slice (some ⟨w3.heap.size, 0, none⟩) 2 2) (by rfl) rfl ?_ ?_
  · (go_simp; try rfl)
  have HL3 := Aside0.mk (HL2.out.alloc (.cells #[.int .i64 (cmpI x.f0 y.f0), .int .i64 (cmpI x.f1 y.f1)] 3))
  have HK := Aside0.mk (lit2 w3 (cmpI x.f0 y.f0) (cmpI x.f1 y.f1) 3)
  refine hK.out _ _ ⟨(World.cell?_alloc_lt _ _ _ (World.block_lt_of_cell? _ _ r0)).trans r0, (World.cell?_alloc_lt _ _ _ (World.block_lt_of_cell? _ _ r1)).trans r1, (World.cell?_alloc_lt _ _ _ (World.block_lt_of_cell? _ _ r2)).trans r2, (World.cell?_alloc_lt _ _ _ (World.block_lt_of_cell? _ _ r3)).trans r3⟩ (fun hHeld => ?_)
  clear hK K
  refine norm_ (a' := ?_) ?_ ?_
  rotate_left
  · show Act.put _ (some 15) _ = _
    simp only [Act.put, List.setIfInBounds_toArray, List.set_cons_zero, List.set_cons_succ, i64_w, i32_w]
    rfl
  refine last_ (i := 11) (N := some 16) #[true, true, true, true, true, true, true, true, true, true, true, true, false] rfl rfl (by kernel_rfl) (by decide) (fun K hK => ?_)
  refine goes_ Try.func61 (by kernel_rfl) rfl #[.slice (some ⟨w3.heap.size, 0, none⟩) [cmpI x.f0 y.f0, cmpI x.f1 y.f1].length 2] (by rfl) rfl rfl (by simp only [List.map_toArray, List.map_cons, List.map_nil]; rfl) ?_
  with_reducible refine (cmp_Or_int.calls 10 (some ⟨w3.heap.size, 0, none⟩) 2 [cmpI x.f0 y.f0, cmpI x.f1 y.f1] (cfR x y) _ HK.out (Nat.le_refl _) (Or_f _ _)).mono ?_
  rintro e w4 ⟨rfl, n3, rfl⟩
  refine ⟨_, rfl, ?_⟩
  have HL4 := Aside0.mk (HL3.out.drewN n3)
  refine hK.out _ _ ?_
  clear hK K
  refine norm_ (a' := ?_) ?_ ?_
  rotate_left
  · show Act.put _ (some 16) _ = _
    simp only [Act.put, List.setIfInBounds_toArray, List.set_cons_zero, List.set_cons_succ, i64_w, i32_w]
    rfl
  refine pure_ (i := 12) (N := some 4) (v := ?_) (a' := ?_) #[true, true, true, true, true, true, true, true, true, true, true, true, true] rfl rfl (by kernel_rfl) (fun _ _ _ h => h) (Or.inl ⟨by rfl, ?_⟩) ?_ ?_
  rotate_left
  · intro w'
    go_simp
    with_reducible rfl
  rotate_left
  · simp only [Act.put, List.setIfInBounds_toArray, List.set_cons_zero, List.set_cons_succ, i64_w, i32_w]
    rfl
  refine done_ (by kernel_rfl) ?_
  go_wp2
  go_ret
  exact ⟨rfl, HL4.out⟩
end Go.Proofs.Ytogainbkidgkhaa.C12
end
section
/- A row of records that the library sorts: its cells, flat. -/
namespace Go.Proofs.Ytogainbkidgkhaa.O12
set_option linter.unusedSimpArgs false
set_option linter.unusedVariables false
open Go Go.Proofs Go.RowKit Go.Sort Go.Proofs.YtogainbkidgkhaaW.PrintWords Go.Proofs.YtogainbkidgkhaaW.PrintLast Go.Proofs.YtogainbkidgkhaaW.PrintMore Go.Proofs.Ytogainbkidgkhaa.Base Go.Proofs.Ytogainbkidgkhaa.Q12f V12 C12
abbrev R := S25
instance : Inhabited R := ⟨⟨0, 0⟩⟩
def enc2 (x : R) : List Value := [.int .i64 x.f0, .int .i64 x.f1]
theorem cs_length : ∀ zs : List R, (cs zs).length = zs.length * 2
  | [] => rfl
  | x :: t => by
    rw [cs, List.length_cons, List.length_cons, cs_length t, List.length_cons]
    omega
theorem cs_get : ∀ (zs : List R) (t : Nat), t < zs.length * 2 → (cs zs)[t]? = some ((enc2 zs.toArray[t / 2]!)[t % 2]!)
  | [], t, h => by simp at h
  | x :: r, 0, h => by simp [cs, enc2]
  | x :: r, 1, h => by simp [cs, enc2]
  | x :: r, t + 2, h => by
    have ih := cs_get r t (by simp only [List.length_cons] at h; omega)
    rw [cs, List.getElem?_cons_succ, List.getElem?_cons_succ, ih]
    congr 2
    · have : (t + 2) / 2 = t / 2 + 1 := by omega
      rw [this]
      simp
    · omega
theorem flat_cs (zs : List R) : flatK enc2 2 zs.toArray = (cs zs).toArray := by
  refine ext_get! (by simp [cs_length]) fun t ht => ?_
  have ht' : t < zs.length * 2 := by simpa using ht
  rw [get_flatK _ _ _ t (by simpa using ht')]
  have h := cs_get zs t ht'
  have hl : t < (cs zs).length := by rw [cs_length]; exact ht'
  rw [List.getElem?_eq_getElem hl] at h
  simp only [Option.some.injEq] at h
  rw [getElem!_pos _ t (by simpa using hl)]
  simpa using h.symm
theorem holds_row {w : World} {g : Nat} {cur : Array Value} {e : TypeId} {xs : List Value} (hb : w.heap[g]? = some (.cells cur e (0, 0))) (ht : cur.toList.take xs.length = xs) : Holds id w g 0 xs.toArray := by
  intro j hj
  have hj' : j < xs.length := by simpa using hj
  refine ⟨?_, by simp [World.frozen?, hb]⟩
  have h1 : (cur.toList.take xs.length)[j]? = xs[j]? := by rw [ht]
  rw [List.getElem?_take_of_lt hj'] at h1
  simp only [World.cell?, hb, Nat.zero_add]
  simp only [Option.isSome_none, Bool.false_eq_true, if_false]
  rw [← Array.getElem?_toList, h1]
  simp [hj']
theorem heap_sortedR {w : World} {g n : Nat} {os : Array Obj} {cur : Array Value} {e : TypeId} {fr : Nat × Nat} (d : Array Value) (hb : w.heap[g]? = some (.cells cur e fr)) :
    (grow (putRow id (Sort.ahead w n) g 0 d) os).heap[g]? = some (.cells (putCells id 0 d cur) e fr) := by
  have hg : g < w.heap.size := (Array.getElem?_eq_some_iff.1 hb).1
  rw [heap_grow_old _ _ (by simpa using hg)]
  simp [putRow, mapBlock, Sort.ahead, Array.getElem?_modify, hb, onCells]
theorem grownBy_sortedR {w : World} {g n : Nat} {os : Array Obj} (d : Array Value) : w.grownBy (grow (putRow id (Sort.ahead w n) g 0 d) os) (some g) := by
  refine ⟨rfl, rfl, rfl, by simp, fun k hk hne => ?_⟩
  rw [heap_grow_old _ _ (by simpa using hk)]
  have : g ≠ k := fun e => hne (by rw [e])
  simp [putRow, mapBlock, Sort.ahead, Array.getElem?_modify, this]
theorem take_putCellsR (cur : Array Value) (ts : List Value) (h : ts.length ≤ cur.size) : (putCells id 0 ts.toArray cur).toList.take ts.length = ts := by
  apply List.ext_getElem?
  intro j
  by_cases hj : j < ts.length
  · rw [List.getElem?_take_of_lt hj, Array.getElem?_toList]
    simp [putCells, hj, show j < cur.size by omega]
  · rw [List.getElem?_take_eq_none (by omega), List.getElem?_eq_none (by omega)]
/-- Behind the sort the same slice owns the sorted records. -/
theorem ownsRow_sortedR {w : World} {base g cap n m : Nat} {e : TypeId} {os : Array Obj} {cur : Array Value} {xs : List Value} (hl : xs.length = m * 2) (hbase : base ≤ g) (hb : w.heap[g]? = some (.cells cur e (0, 0)))
    (h1 : m ≤ cap) (h2 : cap ≤ maxLen) (h3 : cur.size = cap * 2) :
    (grow (putRow id (Sort.ahead w n) g 0 xs.toArray) os).ownsRow base e 2 (.slice (some ⟨g, 0, none⟩) m cap) m xs :=
  ⟨hl, .inr ⟨g, cap, _, rfl, hbase, heap_sortedR _ hb, h1, h2, by simp [putCells, h3], by rw [← hl]; exact take_putCellsR cur xs (by omega)⟩⟩
end Go.Proofs.Ytogainbkidgkhaa.O12
end
section
/- slices.SortFunc and slices.SortedFunc over records, and data.Order. -/
namespace Go.Proofs.Ytogainbkidgkhaa.O12
set_option linter.unusedSimpArgs false
set_option linter.unusedVariables false
open Go Go.Proofs Go.RowKit Go.Sort Go.Proofs.YtogainbkidgkhaaW.PrintWords Go.Proofs.YtogainbkidgkhaaW.PrintLast Go.Proofs.YtogainbkidgkhaaW.PrintMore Go.Proofs.Ytogainbkidgkhaa.Base Go.Proofs.Ytogainbkidgkhaa.Q12f V12 C12
theorem lt_iff (x y : R) : ltOf cfR x y = true ↔ (x.f0 < y.f0 ∨ (x.f0 = y.f0 ∧ x.f1 < y.f1)) := by
  unfold ltOf cfR cmpI
  rw [decide_eq_true_iff]
  split <;> split <;> (try split) <;> omega
theorem lt_iff_f (x y : R) : ltOf cfR x y = false ↔ ¬ (x.f0 < y.f0 ∨ (x.f0 = y.f0 ∧ x.f1 < y.f1)) := by
  rw [← lt_iff]
  simp
theorem swo : SWO (ltOf cfR) where
  irrefl x := by rw [lt_iff_f]; omega
  trans x y z h1 h2 := by rw [lt_iff] at *; omega
  ntrans x y z h1 h2 := by rw [lt_iff_f] at *; omega
theorem total (x y : R) (h1 : ltOf cfR x y = false) (h2 : ltOf cfR y x = false) : x = y := by
  rw [lt_iff_f] at h1 h2
  cases x; cases y
  simp at h1 h2 ⊢
  omega
def srt (zs : List R) : List R := zs.mergeSort fun x y => !(ltOf cfR) y x
theorem sort_recs {w : World} {base : Nat} {v : Value} {zs : List R} (h : w.ownsRow base TR 2 v zs.length (cs zs)) (hl : zs.length ≤ 1000000) :
    ∃ A c, v = .slice A zs.length c ∧ Calls Try.prog 59 #[.slice A zs.length c, .func (.func 42) #[] #[]] w fun e w' => e = .returned (.tuple #[]) ∧ w'.ownsRow base TR 2 (.slice A zs.length c) zs.length (cs (srt zs)) ∧ RowKit.Below base w w' := by
  rcases h.2 with ⟨rfl, hn⟩ | ⟨g, cap, cur, rfl, hbase, hb, h1, h2, h3, h4⟩
  · obtain rfl : zs = [] := List.eq_nil_of_length_eq_zero hn
    refine ⟨none, 0, rfl, (AnyF.slices_SortFunc_none Sh.sortf none 0 _ w).mono ?_⟩
    rintro e w' ⟨rfl, rfl⟩
    exact ⟨rfl, by simpa [srt] using h, RowKit.Below.refl _ _⟩
  · have hcl := cs_length zs
    refine ⟨some ⟨g, 0, none⟩, cap, rfl, ?_⟩
    have hs := AnyQ.slices_SortFunc_total Sh.sortf 2 Try.isAgg25 Try.sizeOf25 enc2 (fun _ => rfl) (fun x v hv => by simp [enc2] at hv; rcases hv with rfl | rfl <;> rfl) cfR swo 42 #[] g 0 cap zs.toArray w (enters_of Try.func42 (by kernel_rfl) rfl)
      (fun m os dk _ x y => (compare_c x y _).mono fun e w' hh => hh) (by unfold HoldsK; rw [flat_cs]; exact holds_row hb (by rw [hcl]; exact h4)) (Array.getElem?_eq_some_iff.1 hb).1 (by simp; omega) total
    refine hs.mono ?_
    rintro e w' ⟨rfl, n, os, rfl⟩
    have e1 : sortWorldK enc2 2 w g 0 n (zs.toArray.toList.mergeSort fun x y => !(ltOf cfR) y x).toArray os = grow (putRow id (Sort.ahead w n) g 0 (cs (srt zs)).toArray) os := by
      unfold sortWorldK putRowK
      rw [flat_cs]
      rfl
    rw [e1]
    have hg := grownBy_sortedR (w := w) (g := g) (n := n) (os := os) (cs (srt zs)).toArray
    have hlen : (srt zs).length = zs.length := by unfold srt; simp
    refine ⟨rfl, ownsRow_sortedR (by rw [cs_length, hlen]) hbase hb h1 h2 h3, ⟨hg.os, hg.tape, hg.output, hg.size, fun i hi => hg.block i (Nat.lt_of_lt_of_le hi (Nat.le_trans hbase (Nat.le_of_lt (Array.getElem?_eq_some_iff.1 hb).1))) (fun e => by cases e; omega)⟩⟩
theorem cs_of_own {w : World} {base : Nat} {ok : Nat → Prop} {v : Value} {zs : List R} (h : w.ownsRow base TR 2 v zs.length (cs zs)) (hok : ∀ k, v.ownBlock = some k → ok k) : Kd.R k25 TR w base ok v zs := by
  refine ⟨hok, cs zs, h, by rw [cs_length]; rfl, fun j p hj => ?_⟩
  have hj' := (List.getElem?_eq_some_iff.1 hj).1
  have hk : k25.sz = 2 := rfl
  rw [hk]
  have : ((cs zs).drop (j * 2)).take 2 = enc2 p := by
    apply List.ext_getElem?
    intro i
    by_cases hi : i < 2
    · rw [List.getElem?_take_of_lt hi, List.getElem?_drop, cs_get zs (j * 2 + i) (by omega)]
      have e1 : (j * 2 + i) / 2 = j := by omega
      have e2 : (j * 2 + i) % 2 = i := by omega
      rw [e1, e2]
      have e3 : zs.toArray[j]! = p := by
        rw [getElem!_pos _ j (by simpa using hj')]
        simpa using (List.getElem?_eq_some_iff.1 hj).2
      rw [e3]
      match i, hi with
      | 0, _ => rfl
      | 1, _ => rfl
    · rw [List.getElem?_eq_none (by simp; omega), List.getElem?_eq_none (by simp [enc2]; omega)]
  rw [this]
  exact k25_mkM _ _ _ p
end Go.Proofs.Ytogainbkidgkhaa.O12
end
section
/- The contracts of slices.SortedFunc at records and of data.Order. -/
namespace Go.Proofs.Ytogainbkidgkhaa.O12
set_option linter.unusedSimpArgs false
set_option linter.unusedVariables false
open Go Go.Proofs Go.RowKit Go.Sort Go.Proofs.YtogainbkidgkhaaW.PrintWords Go.Proofs.YtogainbkidgkhaaW.PrintLast Go.Proofs.YtogainbkidgkhaaW.PrintMore Go.Proofs.Ytogainbkidgkhaa.Base Go.Proofs.Ytogainbkidgkhaa.Q12f V12 C12
set_option maxHeartbeats 2000000 in
theorem SortedFunc_c (Bs : Nat) (sv : Value) (zs : List R) (hl : zs.length ≤ 1000000) (w : World) (hBs : Bs < w.heap.size) (hc : w.cell? ⟨Bs, 0, none⟩ = some sv) (hI : Recs w.heap.size w sv zs) :
    Calls Try.prog 40 #[.func (.func fV) #[] #[.pointer (some ⟨Bs, 0, none⟩)], .func (.func 42) #[] #[]] w fun e w' => ∃ v, e = .returned v ∧ w'.ownsRow w.heap.size TR 2 v zs.length (cs (srt zs)) ∧ RowKit.Below w.heap.size w w' := by
  have HC := Aside0.mk (Collect_c Bs sv zs hl w hBs hc hI)
  clear hc hI
  go_enter Try.func40, Try.ntmps40
  go_wp2_with fail
  refine HC.out.mono ?_
  rintro e w1 ⟨v, rfl, hrow, hb⟩
  obtain ⟨A, c, rfl, hs⟩ := sort_recs hrow hl
  have HS := Aside0.mk hs
  clear hs hrow
  go_wp2_with fail
  refine HS.out.mono ?_
  rintro e w2 ⟨rfl, hrow, hb2⟩
  go_wp2
  go_ret
  exact ⟨_, rfl, hrow, hb.trans hb2⟩
end Go.Proofs.Ytogainbkidgkhaa.O12
namespace Go.Proofs.Ytogainbkidgkhaa.Ext
set_option linter.unusedSimpArgs false
set_option linter.unusedVariables false
open Go Go.Proofs Go.RowKit Go.Sort Go.Proofs.YtogainbkidgkhaaW.PrintWords Go.Proofs.YtogainbkidgkhaaW.PrintLast Go.Proofs.YtogainbkidgkhaaW.PrintMore Go.Proofs.Ytogainbkidgkhaa.Base Go.Proofs.Ytogainbkidgkhaa.Q12f V12 C12
def data_Order.f (l : List S25) : Option (List S25) := if l.length ≤ 100000 then some (O12.srt l) else none
set_option maxHeartbeats 2000000 in
theorem data_Order.calls (A0 : Option Addr) (c0 : Nat) (l0 : List S25) (r : List S25) (w : World) (hr0 : Kd.C k25 w A0 l0.length l0) (hc0 : l0.length ≤ c0) (h : data_Order.f l0 = some r) :
    Calls Try.prog 31 #[.slice A0 l0.length c0] w fun e w' => ∃ v0_ : Value, e = .returned v0_ ∧ Kd.R k25 25 w' w.heap.size (fun _ => True) v0_ r ∧ Below w.heap.size w w' := by
  unfold data_Order.f at h
  split at h
  · rename_i hl
    cases h
    have hV := Values_c A0 l0.length c0 w
    have hnew : (w.alloc (.cells #[.slice A0 l0.length c0] 26)).cell? ⟨w.heap.size, 0, none⟩ = some (.slice A0 l0.length c0) := by simp
    have hb0 := below_alloc (Below.refl w.heap.size w) (.cells #[.slice A0 l0.length c0] 26)
    have hI : Recs (w.alloc (.cells #[.slice A0 l0.length c0] 26)).heap.size (w.alloc (.cells #[.slice A0 l0.length c0] 26)) (.slice A0 l0.length c0) l0 := recs_of_C c0 (Kd.C_below hr0 hb0)
    have HS := Aside0.mk (O12.SortedFunc_c w.heap.size (.slice A0 l0.length c0) l0 (by omega) _ (by simp) hnew hI)
    have HV := Aside0.mk hV
    have HB := Aside0.mk hb0
    clear hV hnew hb0 hI hr0 hc0
    go_enter Try.func31, Try.ntmps31
    go_wp2_with fail
    refine HV.out.mono ?_
    rintro e w1 ⟨rfl, rfl⟩
    go_wp2_with fail
    refine HS.out.mono ?_
    rintro e w2 ⟨v, rfl, hrow, hb2⟩
    have hlen : l0.length = (O12.srt l0).length := by unfold O12.srt; simp
    have hrow : w2.ownsRow (w.alloc (.cells #[.slice A0 l0.length c0] 26)).heap.size TR 2 v (O12.srt l0).length (V12.cs (O12.srt l0)) := by
      rw [← hlen]
      exact hrow
    have HR := Aside0.mk (Kd.R_lower (O12.cs_of_own hrow (ok := fun _ => True) (fun _ _ => trivial)) HB.out.size)
    have HB2 := Aside0.mk (below_step HB.out hb2)
    clear hrow hb2
    go_wp2
    go_ret
    exact ⟨v, rfl, HR.out, HB2.out⟩
  · cases h
end Go.Proofs.Ytogainbkidgkhaa.Ext
end
