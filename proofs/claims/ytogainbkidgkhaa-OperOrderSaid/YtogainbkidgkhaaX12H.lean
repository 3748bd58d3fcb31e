import Derived.Test.YtogainbkidgkhaaQ12fx
import Derived.Test.YtogainbkidgkhaaSh2
import Derived.Test.YtogainbkidgkhaaPl
import Derived.Maps.OwnRows
import Derived.Maps.GroupsBeside
import Derived.Maps.RangeWalk
import Derived.Sort.OwnSortedInts
import Derived.Deep.CutBlock
import Derived.Deep.DeepCutAuto
section
/- The contract of oper.Fold, by hand: values by keys in a map of slices, the keys collected and sorted by the library, a record for each. -/
namespace Go.Proofs.Ytogainbkidgkhaa.F12
set_option linter.unusedSimpArgs false
set_option linter.unusedVariables false
open Go.RowKit Go.Maps Go.ChangeShapes Go.Proofs.YtogainbkidgkhaaW.PrintWords Go.Proofs.YtogainbkidgkhaaW.PrintLast Go.Proofs.YtogainbkidgkhaaW.PrintMore Go.Proofs.Ytogainbkidgkhaa.Base Go.Proofs.Ytogainbkidgkhaa.Q12f

abbrev R := S25
abbrev kI (x : Int) : Lit := .int .i64 x
def wfR (r : R) : Bool := (Lit.int .i64 r.f0).wf && (Lit.int .i64 r.f1).wf
def valsOf (x : Int) (l : List R) : List Int := (l.filter fun r => decide (r.f0 = x)).map (·.f1)
def keysOf (l : List R) : List Int := ((l.map (·.f0)).eraseDups).mergeSort fun x y => decide (x ≤ y)
theorem valsOf_snoc (x : Int) (l : List R) (r : R) : valsOf x (l ++ [r]) = valsOf x l ++ if r.f0 = x then [r.f1] else [] := by
  unfold valsOf
  rw [List.filter_append, List.map_append]
  by_cases h : r.f0 = x <;> simp [h]
theorem valsOf_length (x : Int) (l : List R) : (valsOf x l).length ≤ l.length := by
  unfold valsOf
  rw [List.length_map]
  exact List.length_filter_le _ _
section
variable {H : Type}
def grp (zs : List Int) : DataW H := if zs = [] then .nil else .slice (lits .i64 zs) []
theorem lits_inj {a b : List Int} (h : lits (H := H) .i64 a = lits .i64 b) : a = b := by
  unfold lits at h
  exact (List.map_inj_right (fun x y hxy => by injection hxy with h1; injection h1)).1 h
theorem grp_inj {a b : List Int} (h : grp (H := H) a = grp b) : a = b := by
  unfold grp at h
  split at h <;> split at h
  · simp_all
  · cases h
  · cases h
  · injection h with h1
    exact lits_inj h1
/-- What the map holds when the records l have come: at each key its values, and just the keys that have come. -/
def GInv (D : DataW H) (l : List R) : Prop := IsMap D ∧ (∀ x, D.atKey (kI x) .nil = grp (valsOf x l)) ∧ ∀ x, Maps.has D (kI x) = true ↔ x ∈ l.map (·.f0)
theorem GInv.start : GInv (H := H) (.map []) [] := ⟨⟨[], rfl⟩, fun x => rfl, fun x => by simp [Maps.has]⟩
/-- The slice at a key holds the values that have come at it. -/
theorem GInv.vals {D : DataW H} {l : List R} (G : GInv D l) {w : World} {base : Nat} {e : TypeId} {v : Value} {zs : List Int} {x : Int} (hat : D.atKey (kI x) .nil = rowDatum .i64 v zs) (ho : w.ownsInts base e .i64 v zs) : zs = valsOf x l := by
  have h1 := G.2.1 x
  rw [hat] at h1
  unfold grp at h1
  rcases ho.datum (H := H) with ⟨h2, h3⟩ | h2
  · rw [h2] at h1
    split at h1
    · rw [h3]; symm; assumption
    · cases h1
  · rw [h2] at h1
    split at h1
    · cases h1
    · injection h1 with h4
      exact lits_inj h4
theorem GInv.step {D : DataW H} {l : List R} (G : GInv D l) {w1 : World} {base : Nat} {e : TypeId} {v' : Value} {r : R} (ho : w1.ownsInts base e .i64 v' (valsOf r.f0 l ++ [r.f1])) : GInv (D.put (kI r.f0) (rowDatum .i64 v' (valsOf r.f0 l ++ [r.f1]))) (l ++ [r]) := by
  obtain ⟨hm, ha, hh⟩ := G
  rw [ho.datum_pos (by simp)]
  refine ⟨?_, fun x => ?_, fun x => ?_⟩
  · obtain ⟨es, rfl⟩ := hm
    exact ⟨_, rfl⟩
  · rw [valsOf_snoc]
    by_cases hx : r.f0 = x
    · subst hx
      rw [atKey_put_same hm (show WideAt.IsKeyLit (kI r.f0) from trivial), if_pos rfl]
      unfold grp
      rw [if_neg (by simp)]
    · rw [atKey_put_other (fun h => hx (by injection h with _ h2; exact h2.symm)), ha, if_neg hx, List.append_nil]
  · rw [List.map_append, List.mem_append]
    by_cases hx : r.f0 = x
    · subst hx
      rw [has_put_same hm (show WideAt.IsKeyLit (kI r.f0) from trivial)]
      simp
    · rw [has_put_other (fun h => hx (by injection h with _ h2; exact h2.symm)), hh]
      simp
      exact fun h => absurd h.symm hx
variable {P : Program} {k E t e : TypeId} {q : IntKind} {w w' : World} {base b n : Nat} {D : DataW H}
/-- A look-up answers the same where the map's block stands as it was. -/
theorem look_move (h : w.ownsGroups P k base e q b n D) (K : Keyed P k) (ht : P.underlying t = some (.map k E)) (hz : ∀ w : World, (zeroValue E).run P w = .ok (.slice none 0 0) w) {key v : Value} {kl : Lit} (hkey : keyOf P k key = some kl)
    (hb' : w'.heap[b]? = w.heap[b]?) (hr : (Instr.lookup t (.map (some b)) key false).run P w = .ok v w) : (Instr.lookup t (.map (some b)) key false).run P w' = .ok v w' := by
  obtain ⟨es, clock, hb, F, _⟩ := h
  have hst := (MapKept.stamped_iff es clock).1 F.stamped
  rcases Maps.fit_look false K ht (hz w) hb F hkey with ⟨h1, h2, _⟩ | ⟨e0, y, h2, h3, h1, _⟩ <;> rcases Maps.fit_look false K ht (hz w') (hb'.trans hb) F hkey with ⟨h4, h5, _⟩ | ⟨e1, y1, h5, h6, h4, _⟩
  · rw [h1] at hr
    simp only [Bool.false_eq_true, if_false] at hr h4
    rw [h4]
    injection hr with hv
    rw [hv]
  · exact absurd h6 (h2 e1 h5)
  · exact absurd h3 (h5 e0 h2)
  · have := entry_eq_of_key hst.2.2 h2 h5 (h3.trans h6.symm)
    subst this
    rw [h1] at hr
    simp only [Bool.false_eq_true, if_false] at hr h4
    rw [h4]
    injection hr with hv
    rw [hv]
/-- Over whatever leaves the blocks of the world as they are. -/
theorem groups_below (h : w.ownsGroups P k base e q b n D) (hb : Below w.heap.size w w') : w'.ownsGroups P k base e q b n D :=
  h.kept (row := none) ⟨hb.os, hb.tape, hb.output, hb.size, fun i hi _ => hb.block i hi⟩ (by simp) (fun es clock _ x _ => by cases x.val.ownBlock <;> simp)
/-- The keys met so far: no key twice; a key is among them just where the map has it and it is no longer to come. -/
def CollI (D : DataW H) (left : Lit → Bool) (ks : List Int) : Prop := ks.Nodup ∧ ∀ x, x ∈ ks ↔ (Maps.has D (kI x) = true ∧ left (kI x) = false)
theorem CollI.start (D : DataW H) : CollI D (Maps.has D) [] := ⟨List.nodup_nil, fun x => by cases Maps.has D (kI x) <;> simp⟩
theorem CollI.step {left : Lit → Bool} {ks : List Int} (h : CollI D left ks) {x : Int} {y : DataW H} (hlk : left (kI x) = true) (hat : ∀ zd, D.atKey (kI x) zd = y) : CollI D (fun z => left z && !z.sameKey (kI x)) (ks ++ [x]) := by
  have hhas : Maps.has D (kI x) = true := has_true_of_atKey hat
  have hnew : x ∉ ks := fun hx => by have := ((h.2 x).1 hx).2; rw [hlk] at this; cases this
  refine ⟨List.nodup_append.2 ⟨h.1, by simp, fun a ha b hb => by simp at hb; subst hb; exact fun e => hnew (e ▸ ha)⟩, fun y => ?_⟩
  by_cases hy : y = x
  · subst hy; simp [hhas, Lit.sameKey]
  · have : (kI y).sameKey (kI x) = false := by simp [Lit.sameKey, hy]
    simp [h.2 y, hy, this]
theorem nodup_eraseDups : ∀ (n : Nat) (l : List Int), l.length ≤ n → l.eraseDups.Nodup
  | _, [], _ => by simp
  | n + 1, a :: l, h => by
    rw [List.eraseDups_cons, List.nodup_cons]
    refine ⟨?_, nodup_eraseDups n _ (by have := List.length_filter_le (fun b => !b == a) l; simp only [List.length_cons] at h; omega)⟩
    rw [List.mem_eraseDups]
    simp
theorem CollI.sorted {left : Lit → Bool} {ks : List Int} {l : List R} (h : CollI D left ks) (G : GInv D l) (hl : ∀ kl, left kl = false) : (ks.mergeSort fun x y => decide (x ≤ y)) = keysOf l := by
  have hp : ks.Perm (l.map (·.f0)).eraseDups := (List.perm_ext_iff_of_nodup h.1 (nodup_eraseDups _ _ (Nat.le_refl _))).2 fun x => by
    rw [h.2 x, hl, List.mem_eraseDups, ← G.2.2 x]
    simp
  have tr : ∀ a b c : Int, decide (a ≤ b) = true → decide (b ≤ c) = true → decide (a ≤ c) = true := fun a b c h1 h2 => by simp only [decide_eq_true_eq] at *; omega
  have tot : ∀ a b : Int, (decide (a ≤ b) || decide (b ≤ a)) = true := fun a b => by simp only [Bool.or_eq_true, decide_eq_true_eq]; omega
  unfold keysOf
  refine List.Perm.eq_of_pairwise (le := fun a b => decide (a ≤ b) = true) (fun a b _ _ h1 h2 => ?_) (List.pairwise_mergeSort tr tot ks) (List.pairwise_mergeSort tr tot _) (((List.mergeSort_perm ks _).trans hp).trans (List.mergeSort_perm _ _).symm)
  simp only [decide_eq_true_eq] at h1 h2
  omega
end
theorem mem_keysOf (l : List R) (x : Int) : x ∈ keysOf l ↔ x ∈ l.map (·.f0) := by
  unfold keysOf
  rw [(List.mergeSort_perm _ _).mem_iff, List.mem_eraseDups]
theorem keysOf_length (l : List R) : (keysOf l).length ≤ l.length := by
  have h : ∀ (n : Nat) (l : List Int), l.length ≤ n → l.eraseDups.length ≤ l.length := by
    intro n
    induction n with
    | zero => intro l h; cases l <;> simp_all
    | succ n ih =>
      intro l h
      cases l with
      | nil => simp
      | cons a l =>
        rw [List.eraseDups_cons, List.length_cons, List.length_cons]
        have h1 := List.length_filter_le (fun b => !b == a) l
        have h2 := ih (l.filter fun b => !b == a) (by simp only [List.length_cons] at h; omega)
        omega
  unfold keysOf
  rw [List.length_mergeSort]
  exact Nat.le_trans (h _ _ (Nat.le_refl _)) (by simp)
theorem valsOf_ne {l : List R} {x : Int} (h : x ∈ keysOf l) : valsOf x l ≠ [] := by
  rw [mem_keysOf] at h
  obtain ⟨r, hr, rfl⟩ := List.mem_map.1 h
  unfold valsOf
  intro h0
  have : r ∈ l.filter fun y => decide (y.f0 = r.f0) := List.mem_filter.2 ⟨hr, by simp⟩
  rw [List.map_eq_nil_iff] at h0
  rw [h0] at this
  cases this
def sumV (zs : List Int) : Int := zs.foldl (fun a v => wrap64 (a + v)) 0
def foldV (kind : Int) (zs : List Int) : Int := if kind = 12 then zs.length else if kind = 13 then Lib.minOf zs else if kind = 14 then Lib.maxOf zs else sumV zs
theorem fold_l (l : List Int) (hl : l.length ≤ 1000000) : ∀ (xs pre : List Int) (a : Int) (k : Nat), l = pre ++ xs → xs.length < k → oper_fold.l0 k a l (l.length : Int) (pre.length : Int) = some (xs.foldl (fun a v => wrap64 (a + v)) a)
  | [], pre, a, k, h, hk => by
    obtain ⟨k, rfl⟩ : ∃ j, k = j + 1 := ⟨k - 1, by simp only [List.length_nil] at hk; omega⟩
    subst h
    simp [oper_fold.l0]
  | x :: t, pre, a, k, h, hk => by
    have hlen : l.length = pre.length + (t.length + 1) := by rw [h, List.length_append, List.length_cons]
    obtain ⟨k, rfl⟩ : ∃ j, k = j + 1 := ⟨k - 1, by simp only [List.length_cons] at hk; omega⟩
    rw [oper_fold.l0, if_pos (by omega), if_pos (by omega), if_pos (by omega)]
    have hx : rd l (pre.length : Int) = x := by rw [h]; simp [rd]
    have hw : wrap64 ((pre.length : Int) + 1) = ((pre ++ [x]).length : Int) := by rw [Pl.w64 (by omega) (by omega)]; simp
    rw [hx, hw, fold_l l hl t (pre ++ [x]) _ k (by rw [h]; simp) (by simp only [List.length_cons] at hk; omega)]
    rfl
theorem fold_f (kind : Int) (l : List Int) (h0 : l ≠ []) (hl : l.length ≤ 1000000) : oper_fold.f 1000001 kind l = some (foldV kind l) := by
  have h1 : 0 < l.length := by cases l <;> simp_all
  unfold oper_fold.f foldV Ext.slices_Min.f Ext.slices_Max.f
  split
  · rfl
  · split
    · rw [if_pos ⟨h1, hl⟩]; rfl
    · split
      · rw [if_pos ⟨h1, hl⟩]; rfl
      · exact fold_l l hl l [] 0 1000001 rfl (by omega)
def foldsF (kind : Int) (l : List R) : List R := (keysOf l).map fun x => ⟨x, foldV kind (valsOf x l)⟩
end Go.Proofs.Ytogainbkidgkhaa.F12
end
section
/- The walk of oper.Fold. -/
namespace Go.Proofs.Ytogainbkidgkhaa.F12
set_option linter.unusedSimpArgs false
set_option linter.unusedVariables false
open Go.RowKit Go.Maps Go.ChangeShapes Go.Proofs.YtogainbkidgkhaaW.PrintWords Go.Proofs.YtogainbkidgkhaaW.PrintLast Go.Proofs.YtogainbkidgkhaaW.PrintMore Go.Proofs.Ytogainbkidgkhaa.Base Go.Proofs.Ytogainbkidgkhaa.Q12f
abbrev TM := 52
theorem infoI : (Try.prog.info? 2).map (fun i => (i.zero, i.size, i.bytes)) = some (some (.int .i64 0), 1, 8) := by kernel_rfl
theorem infoR : (Try.prog.info? 25).map (fun i => (i.zero, i.size, i.bytes)) = some (some (.agg #[.int .i64 0, .int .i64 0]), 2, 16) := by kernel_rfl
theorem zeroS (w : World) : (zeroValue 53).run Try.prog w = .ok (.slice none 0 0) w := by kernel_rfl
theorem lawK : Keyed Try.prog 2 := int_keyed Try.underlying2
theorem own_of_groups {H : Type} {P : Program} {k e : TypeId} {q : IntKind} {w : World} {base b n : Nat} {D : DataW H} (h : w.ownsGroups P k base e q b n D) : w.ownsMap P k (rowElem w base e q) b n D := by
  obtain ⟨es, clock, hb, F, hs, hD, _⟩ := h
  exact ⟨es, clock, hb, F, hs, hD⟩
theorem encs_int (xs : List Int) : encs (Value.int .i64) xs = xs.map (Value.int .i64) := by
  induction xs with
  | nil => rfl
  | cons x xs ih => simp_all [encs]
theorem R_of_ints {w : World} {base : Nat} {v : Value} {zs : List Int} (h : w.ownsInts base 2 .i64 v zs) : (Kd.int .i64).R 2 w base (fun _ => True) v zs :=
  Kd.R_of_own (by rw [encs_int]; exact h.1) (fun _ _ => trivial)
theorem ints_of_R {w : World} {base : Nat} {ok : Nat → Prop} {v : Value} {zs : List Int} (h : (Kd.int .i64).R 2 w base ok v zs) : w.ownsRow base 2 1 v zs.length (zs.map (Value.int .i64)) := by
  have := Kd.own_of_R (enc := Value.int .i64) (h1 := fun _ => rfl) h
  rwa [encs_int] at this
theorem sort_keys {w : World} {base : Nat} {v : Value} {ks : List Int} (h : (Kd.int .i64).R 2 w base (fun _ => True) v ks) (hl : ks.length ≤ 1000000) :
    ∃ A c, v = .slice A ks.length c ∧ Calls Try.prog 26 #[.slice A ks.length c] w fun e w' => e = .returned (.tuple #[]) ∧ (Kd.int .i64).R 2 w' base (fun _ => True) (.slice A ks.length c) (ks.mergeSort fun x y => decide (x ≤ y)) ∧ Below base w w' := by
  have hrow := ints_of_R h
  rcases hrow.2 with ⟨rfl, hn⟩ | ⟨g, cap, cur, rfl, hbase, hb, h1, h2, h3, h4⟩
  · obtain rfl : ks = [] := List.eq_nil_of_length_eq_zero hn
    refine ⟨none, 0, rfl, (AnyG.slices_Sort_int_none Sh.sort none 0 w).mono ?_⟩
    rintro e w' ⟨rfl, rfl⟩
    exact ⟨rfl, by simpa using h, Below.refl _ _⟩
  · refine ⟨some ⟨g, 0, none⟩, cap, rfl, (AnyG.slices_Sort_int Sh.sort g 0 cap ks w (holds_of_blockI hb (by simpa using h4)) (Array.getElem?_eq_some_iff.1 hb).1 (by omega)).mono ?_⟩
    rintro e w' ⟨rfl, n, os, rfl⟩
    have hg := grownBy_sortedI (w := w) (g := g) (n := n) (os := os) (ks.mergeSort fun x y => decide (x ≤ y)).toArray
    refine ⟨rfl, Kd.R_of_own ?_ (fun _ _ => trivial), ⟨hg.os, hg.tape, hg.output, hg.size, fun i hi => hg.block i (Nat.lt_of_lt_of_le hi (Nat.le_trans hbase (Nat.le_of_lt (Array.getElem?_eq_some_iff.1 hb).1))) (fun e => by cases e; omega)⟩⟩
    have := ownsRow_sortedI (n := n) (os := os) (ts := ks.mergeSort fun x y => decide (x ≤ y)) (by simp) hbase hb h1 h2 h3
    rw [encs_int]
    simpa using this
set_option maxRecDepth 100000 in
set_option maxHeartbeats 4000000 in
theorem Fold_walk (kind : Int) (A : Option Addr) (c : Nat) (l : List R) (w : World) (hr : Kd.C k25 w A l.length l) (hc : l.length ≤ c) (hl : l.length ≤ 100000) (hwf : ∀ r ∈ l, wfR r = true) (hk : 11 ≤ kind ∧ kind ≤ 14) :
    Calls Try.prog 17 #[.int .i64 kind, .slice A l.length c] w fun e w' => ∃ v0_ : Value, e = .returned (.tuple #[v0_, .int .i64 0]) ∧ Kd.R k25 25 w' w.heap.size (fun _ => True) v0_ (foldsF kind l) ∧ Below w.heap.size w w' := by
  have hmm := @run_makeMap Try.prog
  have HR := Aside0.mk hr
  have HL : Aside0 (l.length ≤ c ∧ l.length ≤ 100000) := ⟨hc, hl⟩
  have HWF := Aside0.mk hwf
  have HK := Aside0.mk hk
  clear hr hc hl hwf hk
  go_enter Try.func17, Try.ntmps17
  go_wp2_with fail
  refine (oper_Keeps.calls kind true _ (by unfold oper_Keeps.f; have := HK.out; by_cases q : kind = 11 ∨ kind = 12 ∨ kind = 13 ∨ kind = 14 <;> first | (rcases q with rfl | rfl | rfl | rfl <;> simp; done) | omega)).mono ?_
  rintro e w1 ⟨rfl, nd, rfl⟩
  have HB : Aside0 (Below w.heap.size w (w.drewN nd)) := ⟨pw_below_drewN (Below.refl _ _) nd⟩
  have HW1 : Aside0 (w.heap.size ≤ (w.drewN nd).heap.size) := ⟨HB.out.size⟩
  generalize w.drewN nd = w1 at HB HW1 ⊢
  go_upto_block 0 with (fail)
  have HG0 := Aside0.mk (World.ownsGroups_made (H := Unit) w1 Try.prog 2 2 .i64)
  have HB2 := Aside0.mk (HB.out.alloc HW1.out (.map #[] 0))
  have HS0 : Aside0 (w1.heap.size + 1 ≤ (w1.alloc (.map #[] 0)).heap.size) := ⟨by simp⟩
  have HBB := Aside0.mk HW1.out
  clear HB HW1 hmm
  generalize w1.alloc (.map #[] 0) = w2 at HG0 HB2 HS0 ⊢
  generalize w1.heap.size = B at HG0 HS0 HBB ⊢
  go_wp2
  go_loopg [20] (l.length + 1) (fun kq v20 W' => ∃ (k : Nat) (D : DataW Unit), v20 = .int .i64 k ∧ Aside0 (k ≤ l.length ∧ k + kq = l.length + 1) ∧ Aside0 (W'.ownsGroups Try.prog 2 (B + 1) 2 .i64 B k D) ∧ Aside0 (GInv D (l.take k)) ∧ Aside0 (Below w.heap.size w W') ∧ Aside0 (B + 1 ≤ W'.heap.size))
  case atStart => exact ⟨0, _, rfl, ⟨by omega, by omega⟩, HG0, ⟨GInv.start⟩, HB2, HS0⟩
  case round =>
    clear HG0 HB2 HS0
    obtain ⟨k, D, rfl, HKQ, HG, HI, HB, HS⟩ := hrel
    by_cases c1 : k < l.length
    · have e1 : decide ((k : Int) < (l.length : Int)) = true := decide_eq_true (by omega)
      have p1 : (k < l.length) = True := eq_true c1
      have p2 : ((k : Int) < (l.length : Int)) = True := eq_true (by omega)
      have HLT := Aside0.mk c1
      obtain ⟨ad, hA, q0, q1⟩ := at_T25 (Kd.C_below HR.out HB.out) (k : Int) (by omega) (by omega)
      subst hA
      rw [Int.toNat_natCast] at q0 q1
      have hx : rd_T25 l (k : Int) = l[k] := by simp [rd_T25, List.getD_eq_getElem?_getD, c1]
      have hmem : l[k] ∈ l := List.getElem_mem c1
      have htake : l.take (k + 1) = l.take k ++ [l[k]] := by rw [List.take_succ_eq_append_getElem c1]
      rw [hx] at q0 q1
      have hxw := HWF.out _ hmem
      have HTK := Aside0.mk htake
      clear hx hmem htake
      generalize l[k] = x at q0 q1 hxw HTK
      have HXW := Aside0.mk hxw
      clear hxw c1
      go_upto_region 7 with (fail)
      have hb8 := below_alloc (Below.refl wr.heap.size wr) (.cells #[.int .i64 x.f0, .int .i64 x.f1] 25)
      have HG8 := Aside0.mk (blk_new wr (.cells #[.int .i64 x.f0, .int .i64 x.f1] 25))
      have HGa := Aside0.mk (groups_below HG.out hb8)
      have HBa := Aside0.mk (below_step HB.out hb8)
      have HSa : Aside0 (B + 1 ≤ (wr.alloc (.cells #[.int .i64 x.f0, .int .i64 x.f1] 25)).heap.size) := ⟨Nat.le_trans HS.out hb8.size⟩
      clear hb8 q0 q1 HG HB HS
      generalize wr.alloc _ = wa at HG8 HGa HBa HSa ⊢
      generalize wr.heap.size = g8 at HG8 ⊢
      have hkey : keyOf Try.prog 2 (.int .i64 x.f0) = some (kI x.f0) := keyOf_int_mk Try.underlying2 (by have := HXW.out; unfold wfR at this; simp only [Bool.and_eq_true] at this; exact this.1)
      obtain ⟨v0, zs, hrun, hat, hoi, hzl, hback⟩ := World.ownsGroups.at (w := wa.drew) HGa.out lawK Try.underlying52 (zeroS _) (by have := HLT.out; have := HL.out; unfold maxLen; omega) hkey
      have hzs := HI.out.vals hat hoi
      have hz1 : (Lit.int .i64 x.f1).wf = true := by have := HXW.out; unfold wfR at this; simp only [Bool.and_eq_true] at this; exact this.2
      have r0 := blk_at (i := 0) HG8.out rfl
      have r1 := blk_at (i := 1) HG8.out rfl
      have HOI := Aside0.mk hoi
      have HBK := Aside0.mk hback
      have HZL := Aside0.mk hzl
      have HZS := Aside0.mk hzs
      have HZ1 := Aside0.mk hz1
      have HKY := Aside0.mk hkey
      clear hat hoi hzl hback hzs hz1 hkey
      have hc8 : ∀ (w2 : World), wa.drew.grownBy w2 v0.ownBlock → w2.cell? ⟨g8, 0, none⟩ = some (.int .i64 x.f0) ∧ w2.cell? ⟨g8, 1, none⟩ = some (.int .i64 x.f1) := fun w2 hg => by
        have hlt := (Array.getElem?_eq_some_iff.1 HG8.out).1
        have := hg.block g8 hlt (own_ne HOI.out.1 HG8.out (by decide))
        have h8 : w2.heap[g8]? = some (.cells #[.int .i64 x.f0, .int .i64 x.f1] 25 (0, 0)) := this.trans HG8.out
        exact ⟨blk_at (i := 0) h8 rfl, blk_at (i := 1) h8 rfl⟩
      have HC8 := Aside0.mk hc8
      have hlB : ∀ (w2 : World), w2.heap[B]? = wa.drew.heap[B]? → (Instr.lookup 52 (.map (some B)) (.int .i64 x.f0) false).run Try.prog w2 = .ok v0 w2 := fun w2 hb => look_move (w := wa.drew) HGa.out lawK Try.underlying52 zeroS HKY.out hb hrun
      have HLB := Aside0.mk hlB
      have hB : B < wa.drew.heap.size := HSa.out
      have hBv : some B ≠ v0.ownBlock := fun h => by have := own_base HOI.out.1 B h.symm; omega
      have HBl : Aside0 (B < wa.drew.heap.size ∧ some B ≠ v0.ownBlock) := ⟨hB, hBv⟩
      clear hc8 hlB hB hBv
      refine start_ (n := 12) (S := fun w' => w'.cell? ⟨g8, 0, none⟩ = some (.int .i64 x.f0) ∧ w'.cell? ⟨g8, 1, none⟩ = some (.int .i64 x.f1) ∧ (Instr.lookup 52 (.map (some B)) (.int .i64 x.f0) false).run Try.prog w' = .ok v0 w') (ds := [11]) #[false, false, false, false, false, false, false, false, false, false, false, false] (by kernel_rfl) rfl rfl ⟨r0, r1, hrun⟩ (fun hHeld => ?_)
      refine pure_ (i := 0) (N := some 24) (v := ?_) (a' := ?_) #[true, false, false, false, false, false, false, false, false, false, false, false] rfl rfl (by kernel_rfl) (fun _ _ _ h => h) (Or.inl ⟨by rfl, ?_⟩) ?_ ?_
      rotate_left
      · intro w'
        go_simp
        with_reducible rfl
      rotate_left
      · simp only [Act.put, List.setIfInBounds_toArray, List.set_cons_zero, List.set_cons_succ, i64_w, i32_w]
        rfl
      refine pure_ (i := 1) (N := some 25) (v := ?_) (a' := ?_) #[true, true, false, false, false, false, false, false, false, false, false, false] rfl rfl (by kernel_rfl) (fun _ _ _ h => h) (Or.inl ⟨by rfl, ?_⟩) ?_ ?_
      rotate_left
      · intro w'
        go_simp
        with_reducible rfl
      rotate_left
      · simp only [Act.put, List.setIfInBounds_toArray, List.set_cons_zero, List.set_cons_succ, i64_w, i32_w]
        rfl
      refine pure_ (i := 3) (N := some 27) (v := ?_) (a' := ?_) #[true, true, false, true, false, false, false, false, false, false, false, false] rfl rfl (by kernel_rfl) (fun _ _ _ h => h) (Or.inl ⟨by rfl, ?_⟩) ?_ ?_
      rotate_left
      · intro w'
        go_simp
        with_reducible rfl
      rotate_left
      · simp only [Act.put, List.setIfInBounds_toArray, List.set_cons_zero, List.set_cons_succ, i64_w, i32_w]
        rfl
      refine pure_ (i := 4) (N := some 28) (v := ?_) (a' := ?_) #[true, true, false, true, true, false, false, false, false, false, false, false] rfl rfl (by kernel_rfl) (fun _ _ _ h => h) (Or.inl ⟨by rfl, ?_⟩) ?_ ?_
      rotate_left
      · intro w'
        go_simp
        with_reducible rfl
      rotate_left
      · simp only [Act.put, List.setIfInBounds_toArray, List.set_cons_zero, List.set_cons_succ, i64_w, i32_w]
        rfl
      refine pure_ (i := 7) (N := some 31) (v := ?_) (a' := ?_) #[true, true, false, true, true, false, false, true, false, false, false, false] rfl rfl (by kernel_rfl) (fun _ _ _ h => h) (Or.inl ⟨by rfl, ?_⟩) ?_ ?_
      rotate_left
      · intro w'
        go_simp
        with_reducible rfl
      rotate_left
      · simp only [Act.put, List.setIfInBounds_toArray, List.set_cons_zero, List.set_cons_succ, i64_w, i32_w]
        rfl
      refine take_ (i := 2) (N := some 26) (v := ?_) (a' := ?_) #[true, true, true, true, true, false, false, true, false, false, false, false] rfl rfl (by kernel_rfl) (fun _ _ _ h => h) (Or.inl ⟨by rfl, ?_⟩) hHeld ?_ ?_
      rotate_left
      · rintro w' ⟨s0, s1, s2⟩
        go_simp
        with_reducible rfl
      rotate_left
      · simp only [Act.put, List.setIfInBounds_toArray, List.set_cons_zero, List.set_cons_succ, i64_w, i32_w]
        rfl
      refine take_ (i := 5) (N := some 29) (v := ?_) (a' := ?_) #[true, true, true, true, true, true, false, true, false, false, false, false] rfl rfl (by kernel_rfl) (fun _ _ _ h => h) (Or.inl ⟨by rfl, ?_⟩) hHeld ?_ ?_
      rotate_left
      · rintro w' ⟨s0, s1, s2⟩
        go_simp
        with_reducible rfl
      rotate_left
      · simp only [Act.put, List.setIfInBounds_toArray, List.set_cons_zero, List.set_cons_succ, i64_w, i32_w]
        rfl
      refine take_ (i := 6) (N := some 30) (v := ?_) (a' := ?_) #[true, true, true, true, true, true, true, true, false, false, false, false] rfl rfl (by kernel_rfl) (fun _ _ _ h => h) (Or.inl ⟨by rfl, ?_⟩) hHeld ?_ ?_
      rotate_left
      · rintro w' ⟨s0, s1, s2⟩
        go_simp
        with_reducible rfl
      rotate_left
      · simp only [Act.put, List.setIfInBounds_toArray, List.set_cons_zero, List.set_cons_succ, i64_w, i32_w]
        rfl
      refine take_ (i := 8) (N := some 32) (v := ?_) (a' := ?_) #[true, true, true, true, true, true, true, true, true, false, false, false] rfl rfl (by kernel_rfl) (fun _ _ _ h => h) (Or.inl ⟨by rfl, ?_⟩) hHeld ?_ ?_
      rotate_left
      · rintro w' ⟨s0, s1, s2⟩
        go_simp
        with_reducible rfl
      rotate_left
      · simp only [Act.put, List.setIfInBounds_toArray, List.set_cons_zero, List.set_cons_succ, i64_w, i32_w]
        rfl
      refine one_ (i := 9) (N := some 33) #[true, true, true, true, true, true, true, true, true, true, false, false] rfl rfl (by kernel_rfl) (by decide) (fun K hK => ?_)
      refine value_ (w1 := wa.drew.alloc (.cells #[.int .i64 x.f1] 2)) (v := .slice (some ⟨wa.drew.heap.size, 0, none⟩) 1 1) (by rfl) rfl ?_ ?_
      · (go_simp; try rfl)
      refine hK.out _ _ ⟨(World.cell?_alloc_lt _ _ _ (World.block_lt_of_cell? _ _ r0)).trans r0, (World.cell?_alloc_lt _ _ _ (World.block_lt_of_cell? _ _ r1)).trans r1, HLB.out _ ((below_alloc (Below.refl wa.drew.heap.size wa.drew) _).block B HBl.out.1)⟩ (fun hHeld => ?_)
      clear hK K
      refine norm_ (a' := ?_) ?_ ?_
      rotate_left
      · show Act.put _ (some 33) _ = _
        simp only [Act.put, List.setIfInBounds_toArray, List.set_cons_zero, List.set_cons_succ, i64_w, i32_w]
        rfl
      refine one_ (i := 10) (N := some 34) #[true, true, true, true, true, true, true, true, true, true, true, false] rfl rfl (by kernel_rfl) (by decide) (fun K hK => ?_)
      refine Kd.R_append_step (Kd.int .i64) (w0 := wa.drew) (B + 1) (by rfl) (.tmp 30) (.tmp 33) 53 2 (.int .i64 0) 8 rfl Try.underlying53 infoI rfl (by decide) (by omega) v0 zs x.f1 [.int .i64 x.f1] (fun _ => True) (fun _ => False) rfl rfl rfl (fun _ h => h.elim) (fun _ _ => trivial) (R_of_ints HOI.out) (Below.refl _ _) HSa.out (by have := HZL.out; have := HLT.out; have := HL.out; omega) ?_
      intro v1 w3 ho hb hg hat
      have HO := Aside0.mk (HOI.out.appended (x := x.f1) (by have := ints_of_R ho; rw [List.length_append, List.map_append] at this; exact this) HZ1.out)
      have HG3 := Aside0.mk hg
      have HAT := Aside0.mk hat
      clear ho hb hg hat
      refine hK.out _ _ ⟨(HC8.out _ HG3.out).1, (HC8.out _ HG3.out).2, HLB.out _ (HG3.out.block B HBl.out.1 HBl.out.2)⟩ (fun hHeld => ?_)
      clear hK K
      refine norm_ (a' := ?_) ?_ ?_
      rotate_left
      · show Act.put _ (some 34) _ = _
        simp only [Act.put, List.setIfInBounds_toArray, List.set_cons_zero, List.set_cons_succ, i64_w, i32_w]
        rfl
      refine last_ (i := 11) (N := none) #[true, true, true, true, true, true, true, true, true, true, true, true] rfl rfl (by kernel_rfl) (by decide) (fun K hK => ?_)
      obtain ⟨w4, hrun4, hg4, hgr4⟩ := HBK.out w3 v1 (zs ++ [x.f1]) HG3.out HO.out (by have := HZL.out; simp; omega) HAT.out
      refine skip_ (w1 := w4) (by rfl) rfl ?_ ?_
      · go_simp
      refine hK.out _ _ ?_
      clear hK K
      refine done_ (by kernel_rfl) ?_
      have HG4 := Aside0.mk hg4
      have HI4 : Aside0 (GInv (D.put (kI x.f0) (rowDatum .i64 v1 (zs ++ [x.f1]))) (l.take (k + 1))) := ⟨by
        rw [HTK.out]
        have := HI.out.step (r := x) (v' := v1) (w1 := w3) (base := B + 1) (e := 2) (by rw [← HZS.out]; exact HO.out)
        rwa [← HZS.out] at this⟩
      have HB4 : Aside0 (Below w.heap.size w w4) := ⟨((below_drew HBa.out).grown HG3.out (Nat.le_trans HBB.out (Nat.le_of_lt HBl.out.1)) (fun j hj => Nat.le_trans HBB.out (Nat.le_trans (Nat.le_succ _) (own_base HOI.out.1 j hj)))).grown hgr4 (Nat.le_trans HBB.out (Nat.le_trans (Nat.le_of_lt HBl.out.1) HG3.out.size)) (fun j hj => by cases hj; exact HBB.out)⟩
      have HS4 : Aside0 (B + 1 ≤ w4.heap.size) := ⟨Nat.le_trans HSa.out (Nat.le_trans HG3.out.size hgr4.size)⟩
      clear hg4 hgr4 hrun4 HG3 HO HAT HBK HOI HZL HZS HZ1 HC8 HLB HBl HSa HBa HGa HG8 HI hrun r0 r1 HTK HXW HKY
      go_wp2
      go_roundg (gk - 1)
      case measure => have := HKQ.out; omega
      case rel => exact ⟨k + 1, _, by first | rfl | (rw [Pl.w64 (by omega) (by have := HLT.out; have := HL.out; omega)]; rfl), ⟨by have := HKQ.out; have := HLT.out; omega⟩, HG4, HI4, HB4, HS4⟩
    · have e1 : decide ((k : Int) < (l.length : Int)) = false := decide_eq_false (by omega)
      have p1 : (k < l.length) = False := eq_false c1
      have p2 : ((k : Int) < (l.length : Int)) = False := eq_false (by omega)
      obtain rfl : k = l.length := by have := HKQ.out; omega
      have hI := HI.out
      rw [List.take_length] at hI
      have HI2 := Aside0.mk hI
      clear hI HI c1 HKQ
      have HI := HI2
      clear HI2
      go_upto_block 2 with ((at_range; refine wpList_range_own _ rfl _ _ rfl 2 53 lawK Try.underlying52 (rowElem wr (B + 1) 2 .i64) B l.length D rfl (own_of_groups HG.out) ?_; intro w5 hrg hgr hsz; go_frame))
      have HSZ : Aside0 (Maps.size D ≤ l.length) := ⟨World.ownsMap.size_le (own_of_groups HG.out)⟩
      have HBm : Aside0 (Below wr.heap.size wr w5) := ⟨⟨hgr.os, hgr.tape, hgr.output, hgr.size, fun i hi => hgr.block i hi (by simp)⟩⟩
      have HS5 : Aside0 (wr.heap.size + 1 ≤ w5.heap.size) := ⟨by omega⟩
      have HRG := Aside0.mk hrg
      clear hrg hgr hsz HBB
      generalize wr = wm at HG HB HS HSZ HBm HS5 HRG ⊢
      generalize hrE : wm.heap.size = r at HBm HS5 HRG ⊢
      have HRE := Aside0.mk hrE
      clear hrE
      go_wp2
      go_loopg [9] (l.length + 2) (fun kq v9 W' => ∃ (left : Lit → Bool) (cnt : Nat) (ks : List Int), Aside0 (cnt + 1 ≤ kq ∧ ks.length + cnt ≤ l.length) ∧ Aside0 (W'.ranges Try.prog 2 (rowElem wm (B + 1) 2 .i64) B r l.length D left cnt) ∧ Aside0 (CollI D left ks) ∧ Aside0 ((Kd.int .i64).R 2 W' (r + 1) (fun _ => True) v9 ks) ∧ Aside0 (Below r wm W') ∧ Aside0 (r + 1 ≤ W'.heap.size))
      case atStart => exact ⟨_, _, [], ⟨by have := HSZ.out; omega, by have := HSZ.out; simp; omega⟩, HRG, ⟨CollI.start D⟩, ⟨Kd.R_nil _ _ _ _ _⟩, HBm, HS5⟩
      case round =>
        clear HRG HBm HS5
        obtain ⟨left, cnt, ks, HKQ, HRG, HCO, HRK, HBm, HS5⟩ := hrel
        go_wp2_with (first
          | (at_next; refine wpList_next_ranges _ rfl _ rfl 2 lawK (rowElem wm (B + 1) 2 .i64) (Value.int .i64) (id : Value → Value) (fun key kl hk => by obtain ⟨x, rfl, _⟩ := Maps.keyOf_int_inv Try.underlying2 hk; exact ⟨x, rfl⟩) (fun v y _ => ⟨v, rfl⟩) B r l.length D left cnt rfl HRG.out ?_ ?_)
          | go_in)
        · intro hc0 hl0
          have hsrt := HCO.out.sorted HI.out hl0
          obtain ⟨A9, c9, hv9, hcall⟩ := sort_keys HRK.out (by have := HKQ.out; have := HL.out; omega)
          have hlen : ks.length = (keysOf l).length := by rw [← hsrt, List.length_mergeSort]
          rw [hsrt] at hcall
          rw [hlen] at hcall hv9
          have HKL : Aside0 ((keysOf l).length ≤ l.length) := ⟨keysOf_length l⟩
          have HKW : Aside0 (∀ x ∈ keysOf l, valsOf x l ≠ [] ∧ (Lit.int .i64 x).wf = true) := ⟨fun x hx => ⟨valsOf_ne hx, by
            obtain ⟨y, hy, rfl⟩ := List.mem_map.1 ((mem_keysOf l x).1 hx)
            have := HWF.out y hy
            unfold wfR at this
            simp only [Bool.and_eq_true] at this
            exact this.1⟩⟩
          have hF : foldsF kind l = (keysOf l).map fun x => (⟨x, foldV kind (valsOf x l)⟩ : R) := rfl
          have HF := Aside0.mk hF
          have HCALL := Aside0.mk hcall
          clear hsrt hlen hF hcall HCO HRK HKQ hl0 hc0 HRG
          subst hv9
          obtain ⟨FS, hFS⟩ : ∃ FS, FS = foldsF kind l := ⟨_, rfl⟩
          rw [← hFS] at HF
          have HFS := Aside0.mk hFS
          clear hFS
          generalize keysOf l = KS at HF HKL HKW HCALL ⊢
          go_wp2_with fail
          refine HCALL.out.mono ?_
          rintro e w6 ⟨rfl, hr9, hb6⟩
          have HC9 := Aside0.mk (Kd.R_reads' hr9).2.2
          have hbm6 : Below wm.heap.size wm w6 := by
            rw [HRE.out]
            exact HBm.out.trans ⟨hb6.os, hb6.tape, hb6.output, hb6.size, fun i hi => hb6.block i (by omega)⟩
          have HG6 := Aside0.mk (groups_below HG.out hbm6)
          have HB6 := Aside0.mk (below_step HB.out hbm6)
          clear hr9 hb6 hbm6 HCALL HG HB HBm HS5 HRE HS HSZ
          go_upto_block 4 with (fail)
          go_wp2
          go_loopg [11, 50] (KS.length + 1) (fun kq v11 v50 W' => ∃ (j : Nat), v50 = .int .i64 j ∧ Aside0 (j ≤ KS.length ∧ j + kq = KS.length + 1) ∧ Aside0 (Kd.R k25 25 W' w6.heap.size (fun _ => True) v11 (FS.take j)) ∧ Aside0 (Below w6.heap.size w6 W'))
          case atStart => exact ⟨0, rfl, ⟨by omega, by omega⟩, ⟨by rw [List.take_zero]; exact Kd.R_nil _ _ _ _ _⟩, ⟨Below.refl _ _⟩⟩
          case round =>
            obtain ⟨j, rfl, HJ, HO, HBo⟩ := hrel
            by_cases c1 : j < KS.length
            · have e1 : decide ((j : Int) < (KS.length : Int)) = true := decide_eq_true (by omega)
              have p1 : (j < KS.length) = True := eq_true c1
              have p2 : ((j : Int) < (KS.length : Int)) = True := eq_true (by omega)
              have HLT := Aside0.mk c1
              obtain ⟨ad9, hA, q0⟩ := Kd.at_int (Kd.C_below HC9.out HBo.out) (j : Int) (by omega) (by omega)
              rw [Int.toNat_natCast] at q0
              have hx : rd KS (j : Int) = KS[j] := by simp [rd, c1]
              have hKx := HKW.out KS[j] (List.getElem_mem c1)
              have hFj : FS.take (j + 1) = FS.take j ++ [⟨KS[j], foldV kind (valsOf KS[j] l)⟩] := by
                rw [HF.out, ← List.map_take, ← List.map_take, List.take_succ_eq_append_getElem c1, List.map_append]
                rfl
              have HFJ := Aside0.mk hFj
              rw [hx] at q0
              subst hA
              clear hx hFj
              generalize KS[j] = x at q0 hKx HFJ
              clear c1
              have HKX := Aside0.mk hKx
              clear hKx
              have HGr := Aside0.mk (groups_below HG6.out HBo.out)
              have hkey : keyOf Try.prog 2 (.int .i64 x) = some (kI x) := keyOf_int_mk Try.underlying2 HKX.out.2
              go_wp2_with (first
                | (at_lookup; refine wpList_lookup_groups _ rfl _ _ 52 rfl 2 53 2 .i64 lawK Try.underlying52 (zeroS _) (B + 1) B l.length D rfl HGr.out (by have := HL.out; unfold maxLen; omega) _ _ rfl hkey ?_; intro vv zs hat hoi hzl hback; obtain ⟨Av, cv, rfl⟩ := Kd.R_slice (R_of_ints hoi); go_frame)
                | fail)
              have hzs := HI.out.vals hat hoi
              have hzne : zs ≠ [] := by rw [hzs]; exact HKX.out.1
              have hC := Kd.R_reads' (R_of_ints hoi)
              refine (oper_fold.calls 1000001 kind Av cv zs (foldV kind zs) _ hC.2.2 hC.2.1 (fold_f kind zs hzne (by have := HL.out; omega))).mono ?_
              rintro e w7 ⟨rfl, nd2, rfl⟩
              have HO7 : Aside0 (Kd.R k25 25 (wr.drewN nd2) w6.heap.size (fun _ => True) u11 (FS.take j)) := ⟨Kd.R_below HO.out (pw_below_drewN (Below.refl _ _) nd2)⟩
              have HB7 : Aside0 (Below w6.heap.size w6 (wr.drewN nd2)) := ⟨pw_below_drewN HBo.out nd2⟩
              rw [← hzs] at HFJ
              clear hzs hzne hC hat hoi hzl hback q0 hkey HGr HO HBo HKX
              generalize wr.drewN nd2 = w7 at HO7 HB7 ⊢
              have hs7 := HB7.out.size
              have HS7 := Aside0.mk hs7
              clear hs7
              go_wp2_with (first
                | ((with_reducible refine gate_builtin (b := .append) (xs := #[.tmp 54, .tmp 62]) rfl ?_); at_builtin; refine Kd.R_append k25 (w0 := w6) w6.heap.size rfl (.tmp 54) (.tmp 62) 26 25 (.agg #[.int .i64 0, .int .i64 0]) 16 rfl Try.underlying26 infoR rfl (by decide) (by omega) u11 (FS.take j) ⟨x, foldV kind zs⟩ [.int .i64 x, .int .i64 (foldV kind zs)] (fun _ => True) (fun _ => False) rfl rfl ?aP (fun _ hk => hk.elim) ?aF ?aO ?aB ?aS ?aL ?_; (case aP => exact k25_mkM _ _ _ _); (case aB => exact HB7.out); (case aF => exact (fun _ _ => trivial)); (case aO => exact HO7.out); (case aS => exact HS7.out); (case aL => (have := HLT.out; have := HKL.out; have := HL.out; simp only [List.length_take]; omega)); intro va w8 hq hb hg hat7)
                | go_in)
              have HO8 : Aside0 (Kd.R k25 25 w8 w6.heap.size (fun _ => True) va (FS.take (j + 1))) := ⟨by rw [HFJ.out]; exact hq⟩
              have HB8 := Aside0.mk hb
              clear hq hb hg hat7 HO7 HB7 HS7 HFJ
              go_wp2
              go_roundg (gk - 1)
              case measure => have := HJ.out; omega
              case rel => exact ⟨j + 1, by first | rfl | (rw [Pl.w64 (by omega) (by have := HLT.out; have := HKL.out; have := HL.out; omega)]; rfl), ⟨by have := HJ.out; have := HLT.out; omega⟩, HO8, HB8⟩
            · have e1 : decide ((j : Int) < (KS.length : Int)) = false := decide_eq_false (by omega)
              have p1 : (j < KS.length) = False := eq_false c1
              have p2 : ((j : Int) < (KS.length : Int)) = False := eq_false (by omega)
              have hT : FS.take j = FS := List.take_of_length_le (by rw [HF.out, List.length_map]; omega)
              have hO := HO.out
              rw [hT] at hO
              have HO2 := Aside0.mk hO
              clear hO HO hT c1 HF
              go_wp2
              go_ret2
              exact ⟨u11, rfl, by rw [← HFS.out]; exact Kd.R_lower HO2.out HB6.out.size, below_step HB6.out HBo.out⟩
        · intro x cv kl yd yp w6 cnt2 hkey hlk hv hat hrg2 hlt hg2 hs2 hen
          obtain ⟨x', ex, rfl, _⟩ := Maps.keyOf_int_inv Try.underlying2 hkey
          obtain rfl : x = x' := by injection ex
          have HRK2 : Aside0 ((Kd.int .i64).R 2 w6 (r + 1) (fun _ => True) u9 ks) := ⟨Kd.R_of_own (by
            rw [encs_int]
            exact (ints_of_R HRK.out).kept hg2 (by
              cases hv9 : u9.ownBlock with
              | none => exact .inl rfl
              | some q => exact .inr (fun e => by have := own_base (ints_of_R HRK.out) q hv9; injection e with e; omega))) (fun _ _ => trivial)⟩
          have HCO2 := Aside0.mk (HCO.out.step hlk hat)
          have HRG2 := Aside0.mk hrg2
          have HB6 : Aside0 (Below r wm w6) := ⟨HBm.out.grown hg2 (by have := HS5.out; omega) (fun j hj => by cases hj; exact Nat.le_refl _)⟩
          have HS6 : Aside0 (r + 1 ≤ w6.heap.size) := ⟨Nat.le_trans HS5.out hg2.size⟩
          have HCN := Aside0.mk hlt
          clear hrg2 hlt hg2 hs2 HRG HRK HCO HBm HS5 hkey hlk hv hat ex
          go_wp2_with (first
            | ((with_reducible refine gate_builtin (b := .append) (xs := #[.tmp 42, .tmp 44]) rfl ?_); at_builtin; refine Kd.R_append (Kd.int .i64) (w0 := w6) (r + 1) rfl (.tmp 42) (.tmp 44) 53 2 (.int .i64 0) 8 rfl Try.underlying53 infoI rfl (by decide) (by omega) u9 ks x [.int .i64 x] (fun _ => True) (fun _ => False) rfl rfl ?aP (fun _ hk => hk.elim) ?aF ?aO ?aB ?aS ?aL ?_; (case aP => rfl); (case aB => exact Below.refl _ _); (case aF => exact (fun _ _ => trivial)); (case aO => exact HRK2.out); (case aS => exact HS6.out); (case aL => (have := HKQ.out; have := HCN.out; have := HL.out; omega)); intro va w7 hq hb hg hat7)
            | go_in)
          have HBr : Aside0 (B < r) := ⟨by have := HS.out; have := HRE.out; omega⟩
          have hown9 := own_base (ints_of_R HRK2.out)
          have HRG7 := Aside0.mk (HRG2.out.kept hg (fun e => by have := hown9 B e.symm; have := HBr.out; omega) (fun e => by have := hown9 r e.symm; omega))
          have HB7 : Aside0 (Below r wm w7) := ⟨HB6.out.trans ⟨hb.os, hb.tape, hb.output, hb.size, fun i hi => hb.block i (by omega)⟩⟩
          have HS7 : Aside0 (r + 1 ≤ w7.heap.size) := ⟨Nat.le_trans HS6.out hb.size⟩
          have HRK7 := Aside0.mk hq
          clear hb hg hat7 hq hown9 HRG2 HRK2 HB6 HS6 hen
          go_wp2
          go_roundg (cnt2 + 1)
          case measure => have := HKQ.out; have := HCN.out; omega
          case rel => exact ⟨_, cnt2, ks ++ [x], ⟨Nat.le_refl _, by have := HKQ.out; have := HCN.out; simp; omega⟩, HRG7, HCO2, HRK7, HB7, HS7⟩
theorem Fold_not (kind : Int) (A : Option Addr) (c : Nat) (n : Nat) (w : World) (hk : ¬ (11 ≤ kind ∧ kind ≤ 14)) :
    Calls Try.prog 17 #[.int .i64 kind, .slice A n c] w fun e w' => e = .returned (.tuple #[.slice none 0 0, .int .i64 70]) ∧ Below w.heap.size w w' := by
  go_enter Try.func17, Try.ntmps17
  go_wp2_with fail
  refine (oper_Keeps.calls kind false _ (by unfold oper_Keeps.f; rw [if_neg (by omega), if_neg (by omega), if_neg (by omega), if_neg (by omega)])).mono ?_
  rintro e w1 ⟨rfl, nd, rfl⟩
  go_wp2
  go_ret2
  exact ⟨rfl, pw_below_drewN (Below.refl _ _) nd⟩
end Go.Proofs.Ytogainbkidgkhaa.F12
namespace Go.Proofs.Ytogainbkidgkhaa.Ext
open Go.RowKit Go.Proofs.YtogainbkidgkhaaW.PrintWords Go.Proofs.YtogainbkidgkhaaW.PrintLast Go.Proofs.YtogainbkidgkhaaW.PrintMore Go.Proofs.Ytogainbkidgkhaa.Base Go.Proofs.Ytogainbkidgkhaa.Q12f F12
def oper_Fold.f (kind : Int) (l : List F12.R) : Option (List F12.R × Int) :=
  if l.length ≤ 100000 ∧ l.all wfR = true then (if 11 ≤ kind ∧ kind ≤ 14 then some (foldsF kind l, 0) else some ([], 70)) else none
theorem oper_Fold.calls (a0 : Int) (A1 : Option Addr) (c1 : Nat) (l1 : List F12.R) (r1 : List F12.R) (r2 : Int) (w : World) (hr1 : Kd.C k25 w A1 l1.length l1) (hc1 : l1.length ≤ c1) (h : oper_Fold.f a0 l1 = some (r1, r2)) :
    Calls Try.prog 17 #[.int .i64 a0, .slice A1 l1.length c1] w fun e w' => ∃ v0_ : Value, e = .returned (.tuple #[v0_, .int .i64 r2]) ∧ Kd.R k25 25 w' w.heap.size (fun _ => True) v0_ r1 ∧ Below w.heap.size w w' := by
  unfold oper_Fold.f at h
  split at h
  · rename_i hc
    split at h
    · rename_i hk
      injection h with h
      injection h with h1 h2
      subst h1 h2
      exact Fold_walk a0 A1 c1 l1 w hr1 hc1 hc.1 (fun r hr => List.all_eq_true.1 hc.2 r hr) hk
    · rename_i hk
      injection h with h
      injection h with h1 h2
      subst h1 h2
      refine (Fold_not a0 A1 c1 l1.length w hk).mono ?_
      rintro e w' ⟨rfl, hb⟩
      exact ⟨_, rfl, Kd.R_nil _ _ _ _ _, hb⟩
  · cases h
end Go.Proofs.Ytogainbkidgkhaa.Ext
end
section
/- The contract of watershedref12.Fold, by hand: records in their order, gathered key by key through a pointer to the last one. -/
namespace Go.Proofs.Ytogainbkidgkhaa.H12
set_option linter.unusedSimpArgs false
set_option linter.unusedVariables false
open Go.RowKit Go.Proofs.YtogainbkidgkhaaW.PrintWords Go.Proofs.YtogainbkidgkhaaW.PrintLast Go.Proofs.YtogainbkidgkhaaW.PrintMore Go.Proofs.Ytogainbkidgkhaa.Base Go.Proofs.Ytogainbkidgkhaa.Q12f
open Go.Proofs.Ytogainbkidgkhaa.F12 (infoR)
abbrev R := S25
def rdN (s : List R) (i : Nat) : R := s.getD i z25
def firstAt (s : List R) (i : Nat) : Bool := i == 0 || (rdN s i).f0 != (rdN s (i - 1)).f0
def upd (kind : Int) (first : Bool) (a v : Int) : Int := if kind = 11 then wrap64 (a + v) else if kind = 12 then wrap64 (a + 1) else if first = true ∨ kind = 14 then v else a
def putL (o : List R) (a : Int) : List R := o.set (o.length - 1) ⟨(rdN o (o.length - 1)).f0, a⟩
def grownR (first : Bool) (o : List R) (r : R) : List R := if first = true then o ++ [⟨r.f0, 0⟩] else o
def stepR (kind : Int) (first : Bool) (o : List R) (r : R) : List R := putL (grownR first o r) (upd kind first (rdN (grownR first o r) ((grownR first o r).length - 1)).f1 r.f1)
def outR (kind : Int) (s : List R) : Nat → List R
  | 0 => []
  | i + 1 => stepR kind (firstAt s i) (outR kind s i) (rdN s i)
theorem grownR_length (f : Bool) (o : List R) (r : R) : (grownR f o r).length = o.length + if f = true then 1 else 0 := by unfold grownR; split <;> simp
theorem outR_length (kind : Int) (s : List R) : ∀ i, (outR kind s i).length ≤ i ∧ (0 < i → 0 < (outR kind s i).length)
  | 0 => ⟨Nat.le_refl _, fun h => absurd h (by omega)⟩
  | i + 1 => by
    have ih := outR_length kind s i
    have h1 : (outR kind s (i + 1)).length = (outR kind s i).length + if firstAt s i = true then 1 else 0 := by
      show (stepR _ _ _ _).length = _
      unfold stepR putL
      rw [List.length_set, grownR_length]
    rw [h1]
    refine ⟨by split <;> omega, fun _ => ?_⟩
    by_cases hi : i = 0
    · subst hi
      simp [firstAt]
    · have := ih.2 (by omega)
      split <;> omega
theorem last_at {w : World} {base : Nat} {v : Value} {O : List R} {m : Nat} (h : Kd.R k25 25 w base (fun _ => True) v O) (hm : O.length = m + 1) :
    ∃ g cap, v = .slice (some ⟨g, 0, none⟩) (m + 1) cap ∧ base ≤ g ∧ w.cell? ⟨g, m * 2, none⟩ = some (.int .i64 (rdN O m).f0) ∧ w.cell? ⟨g, m * 2 + 1, none⟩ = some (.int .i64 (rdN O m).f1) ∧ w.frozen? ⟨g, m * 2 + 1, none⟩ = false := by
  obtain ⟨inner, hown⟩ := Kd.R_own h
  rcases hown.2 with ⟨_, h0⟩ | ⟨g, cap, cur, rfl, hbase, hh, _⟩
  · omega
  · obtain ⟨ad, hA, q0, q1⟩ := at_T25 (Kd.R_reads' h).2.2 (m : Int) (by omega) (by omega)
    cases hA
    rw [Int.toNat_natCast] at q0 q1
    rw [show rd_T25 O (m : Int) = rdN O m from by simp [rd_T25, rdN]] at q0 q1
    rw [add_plain] at q0 q1
    exact ⟨g, cap, by rw [hm], hbase, q0, q1, blk_frozen hh _⟩
theorem R_putL {w : World} {base g cap m : Nat} {O : List R} (h : Kd.R k25 25 w base (fun _ => True) (.slice (some ⟨g, 0, none⟩) (m + 1) cap) O) (a : Int) :
    Kd.R k25 25 (w.setCell ⟨g, m * 2 + 1, none⟩ (.int .i64 a)) base (fun _ => True) (.slice (some ⟨g, 0, none⟩) (m + 1) cap) (putL O a) := by
  have hn := (Kd.R_reads' h).1
  obtain ⟨g', cap', hv, _, q0, q1, _⟩ := last_at h hn.symm
  cases hv
  have := (Kd.R_seg (okp := fun _ => False) h (m : Int) (by omega) (by omega) (c := [.int .i64 (rdN O m).f0, .int .i64 (rdN O m).f1]) (seg := [.int .i64 a]) (j := 1) (x' := ⟨(rdN O m).f0, a⟩) rfl
    (fun j u hu => by
      rw [Int.toNat_natCast]
      match j, hu with
      | 0, hu => cases hu; exact q0
      | 1, hu => cases hu; exact q1) (show 1 + 1 ≤ 2 by omega) (k25_mkM _ _ _ _) (fun _ h => h.elim)).1
  rw [Int.toNat_natCast] at this
  unfold putL
  rw [← hn]
  exact this
set_option maxRecDepth 100000 in
set_option maxHeartbeats 4000000 in
theorem refFold_walk (kind : Int) (A : Option Addr) (c : Nat) (l s : List R) (w : World) (hr : Kd.C k25 w A l.length l) (hc : l.length ≤ c) (hs : watershedref11_Order.f 1000000 l = some s) (hl : s.length ≤ 1000) (hk : 11 ≤ kind ∧ kind ≤ 14) :
    Calls Try.prog 18 #[.int .i64 kind, .slice A l.length c] w fun e w' => ∃ v0_ : Value, e = .returned (.tuple #[v0_, .int .i64 0]) ∧ Kd.R k25 25 w' w.heap.size (fun _ => True) v0_ (outR kind s s.length) ∧ Below w.heap.size w w' := by
  have HR := Aside0.mk hr
  have HL : Aside0 (l.length ≤ c ∧ s.length ≤ 1000) := ⟨hc, hl⟩
  have HS := Aside0.mk hs
  have HK := Aside0.mk hk
  clear hr hc hl hs hk
  go_enter Try.func18, Try.ntmps18
  go_wp2_with fail
  refine (watershedref12_Keeps.calls kind true _ (by unfold watershedref12_Keeps.f; have := HK.out; rw [if_pos (by omega)]; simp; omega)).mono ?_
  rintro e w1 ⟨rfl, nd, rfl⟩
  have HB : Aside0 (Below w.heap.size w (w.drewN nd)) := ⟨pw_below_drewN (Below.refl _ _) nd⟩
  generalize w.drewN nd = w1 at HB ⊢
  go_wp2_with fail
  refine (watershedref11_Order.calls 1000000 A c l s _ (Kd.C_below HR.out HB.out) HL.out.1 HS.out).mono ?_
  rintro e w2 ⟨vs, rfl, hq, hb⟩
  obtain ⟨As, cs, rfl⟩ := Kd.R_slice hq
  have HC := Aside0.mk (Kd.R_reads' hq).2.2
  have HB2 := Aside0.mk (below_step HB.out hb)
  clear hq hb HB HR HS
  go_upto_block 0 with (fail)
  go_wp2
  go_loopg [6, 7] (s.length + 1) (fun kq v6 v7 W' => ∃ (i : Nat), v7 = .int .i64 i ∧ Aside0 (i ≤ s.length ∧ i + kq = s.length + 1) ∧ Aside0 (Kd.R k25 25 W' w2.heap.size (fun _ => True) v6 (outR kind s i)) ∧ Aside0 (Below w2.heap.size w2 W'))
  case atStart => exact ⟨0, rfl, ⟨by omega, by omega⟩, ⟨Kd.R_nil _ _ _ _ _⟩, ⟨Below.refl _ _⟩⟩
  case round =>
    obtain ⟨i, rfl, HI, HO, HBo⟩ := hrel
    by_cases c1 : i < s.length
    · have e1 : decide ((i : Int) < (s.length : Int)) = true := decide_eq_true (by omega)
      have p1 : (i < s.length) = True := eq_true c1
      have p2 : ((i : Int) < (s.length : Int)) = True := eq_true (by omega)
      have HLT := Aside0.mk c1
      obtain ⟨fb, hfb⟩ : ∃ fb, fb = firstAt s i := ⟨_, rfl⟩
      obtain ⟨x, hx⟩ : ∃ x, x = rdN s i := ⟨_, rfl⟩
      have HX : Aside0 (fb = firstAt s i ∧ x = rdN s i) := ⟨hfb, hx⟩
      obtain ⟨ad, hA, q0, q1⟩ := at_T25 (Kd.C_below HC.out HBo.out) (i : Int) (by omega) (by omega)
      rw [Int.toNat_natCast] at q0 q1
      rw [show rd_T25 s (i : Int) = x from by rw [hx]; simp [rd_T25, rdN]] at q0 q1
      have HQ : Aside0 (As = some ad) := ⟨hA⟩
      clear c1 hx
      go_upto_region 8 with (fail)
      go_cut [8] from 21 to 36 (fun v8 wc => v8 = .bool fb ∧ Aside0 (Below wr.heap.size wr wc))
      case first =>
        subst hA
        by_cases c2 : i = 0
        · have e2 : ((i : Int) == 0) = true := beq_iff_eq.mpr (by omega)
          have hf : fb = true := by rw [hfb, c2]; rfl
          subst hf
          clear hfb c2
          refine start_ (n := 17) (S := fun w' => True) (ds := []) #[false, false, false, false, false, false, false, false, false, false, false, false, false, false, false, false, false] (by kernel_rfl) rfl rfl trivial (fun hHeld => ?_)
          refine pure_ (i := 0) (N := some 21) (v := ?_) (a' := ?_) #[true, false, false, false, false, false, false, false, false, false, false, false, false, false, false, false, false] rfl rfl (by kernel_rfl) (fun _ _ _ h => h) (Or.inl ⟨by rfl, ?_⟩) ?_ ?_
          rotate_left
          · intro w'
            go_simp
            with_reducible rfl
          rotate_left
          · simp only [Act.put, List.setIfInBounds_toArray, List.set_cons_zero, List.set_cons_succ, i64_w, i32_w]
            rfl
          refine pure_ (i := 1) (N := some 22) (v := ?_) (a' := ?_) #[true, true, false, false, false, false, false, false, false, false, false, false, false, false, false, false, false] rfl rfl (by kernel_rfl) (fun _ _ _ h => h) (Or.inl ⟨by rfl, ?_⟩) ?_ ?_
          rotate_left
          · intro w'
            go_simp
            with_reducible rfl
          rotate_left
          · simp only [Act.put, List.setIfInBounds_toArray, List.set_cons_zero, List.set_cons_succ, i64_w, i32_w]
            rfl
          refine pure_ (i := 2) (N := some 23) (v := ?_) (a' := ?_) #[true, true, true, false, false, false, false, false, false, false, false, false, false, false, false, false, false] rfl rfl (by kernel_rfl) (fun _ _ _ h => h) (Or.inl ⟨by rfl, ?_⟩) ?_ ?_
          rotate_left
          · intro w'
            go_simp
            with_reducible rfl
          rotate_left
          · simp only [Act.put, List.setIfInBounds_toArray, List.set_cons_zero, List.set_cons_succ, i64_w, i32_w]
            rfl
          refine pure_ (i := 3) (N := some 24) (v := undef) (a' := ?_) #[true, true, true, true, false, false, false, false, false, false, false, false, false, false, false, false, false] rfl rfl (by kernel_rfl) (fun _ _ _ h => h) (Or.inr ⟨by rfl, rfl⟩) ?_ ?_
          rotate_left
          · simp only [Act.put, List.setIfInBounds_toArray, List.set_cons_zero, List.set_cons_succ, i64_w, i32_w]
            rfl
          refine pure_ (i := 4) (N := some 25) (v := undef) (a' := ?_) #[true, true, true, true, true, false, false, false, false, false, false, false, false, false, false, false, false] rfl rfl (by kernel_rfl) (fun _ _ _ h => h) (Or.inr ⟨by rfl, rfl⟩) ?_ ?_
          rotate_left
          · simp only [Act.put, List.setIfInBounds_toArray, List.set_cons_zero, List.set_cons_succ, i64_w, i32_w]
            rfl
          refine pure_ (i := 5) (N := some 26) (v := undef) (a' := ?_) #[true, true, true, true, true, true, false, false, false, false, false, false, false, false, false, false, false] rfl rfl (by kernel_rfl) (fun _ _ _ h => h) (Or.inr ⟨by rfl, rfl⟩) ?_ ?_
          rotate_left
          · simp only [Act.put, List.setIfInBounds_toArray, List.set_cons_zero, List.set_cons_succ, i64_w, i32_w]
            rfl
          refine pure_ (i := 6) (N := some 27) (v := undef) (a' := ?_) #[true, true, true, true, true, true, true, false, false, false, false, false, false, false, false, false, false] rfl rfl (by kernel_rfl) (fun _ _ _ h => h) (Or.inr ⟨by rfl, rfl⟩) ?_ ?_
          rotate_left
          · simp only [Act.put, List.setIfInBounds_toArray, List.set_cons_zero, List.set_cons_succ, i64_w, i32_w]
            rfl
          refine pure_ (i := 7) (N := some 28) (v := undef) (a' := ?_) #[true, true, true, true, true, true, true, true, false, false, false, false, false, false, false, false, false] rfl rfl (by kernel_rfl) (fun _ _ _ h => h) (Or.inr ⟨by rfl, rfl⟩) ?_ ?_
          rotate_left
          · simp only [Act.put, List.setIfInBounds_toArray, List.set_cons_zero, List.set_cons_succ, i64_w, i32_w]
            rfl
          refine pure_ (i := 8) (N := some 29) (v := undef) (a' := ?_) #[true, true, true, true, true, true, true, true, true, false, false, false, false, false, false, false, false] rfl rfl (by kernel_rfl) (fun _ _ _ h => h) (Or.inr ⟨by rfl, rfl⟩) ?_ ?_
          rotate_left
          · simp only [Act.put, List.setIfInBounds_toArray, List.set_cons_zero, List.set_cons_succ, i64_w, i32_w]
            rfl
          refine pure_ (i := 9) (N := some 30) (v := undef) (a' := ?_) #[true, true, true, true, true, true, true, true, true, true, false, false, false, false, false, false, false] rfl rfl (by kernel_rfl) (fun _ _ _ h => h) (Or.inr ⟨by rfl, rfl⟩) ?_ ?_
          rotate_left
          · simp only [Act.put, List.setIfInBounds_toArray, List.set_cons_zero, List.set_cons_succ, i64_w, i32_w]
            rfl
          refine pure_ (i := 10) (N := some 31) (v := undef) (a' := ?_) #[true, true, true, true, true, true, true, true, true, true, true, false, false, false, false, false, false] rfl rfl (by kernel_rfl) (fun _ _ _ h => h) (Or.inr ⟨by rfl, rfl⟩) ?_ ?_
          rotate_left
          · simp only [Act.put, List.setIfInBounds_toArray, List.set_cons_zero, List.set_cons_succ, i64_w, i32_w]
            rfl
          refine pure_ (i := 11) (N := some 32) (v := undef) (a' := ?_) #[true, true, true, true, true, true, true, true, true, true, true, true, false, false, false, false, false] rfl rfl (by kernel_rfl) (fun _ _ _ h => h) (Or.inr ⟨by rfl, rfl⟩) ?_ ?_
          rotate_left
          · simp only [Act.put, List.setIfInBounds_toArray, List.set_cons_zero, List.set_cons_succ, i64_w, i32_w]
            rfl
          refine pure_ (i := 12) (N := some 33) (v := undef) (a' := ?_) #[true, true, true, true, true, true, true, true, true, true, true, true, true, false, false, false, false] rfl rfl (by kernel_rfl) (fun _ _ _ h => h) (Or.inr ⟨by rfl, rfl⟩) ?_ ?_
          rotate_left
          · simp only [Act.put, List.setIfInBounds_toArray, List.set_cons_zero, List.set_cons_succ, i64_w, i32_w]
            rfl
          refine pure_ (i := 13) (N := some 34) (v := undef) (a' := ?_) #[true, true, true, true, true, true, true, true, true, true, true, true, true, true, false, false, false] rfl rfl (by kernel_rfl) (fun _ _ _ h => h) (Or.inr ⟨by rfl, rfl⟩) ?_ ?_
          rotate_left
          · simp only [Act.put, List.setIfInBounds_toArray, List.set_cons_zero, List.set_cons_succ, i64_w, i32_w]
            rfl
          refine pure_ (i := 14) (N := some 35) (v := undef) (a' := ?_) #[true, true, true, true, true, true, true, true, true, true, true, true, true, true, true, false, false] rfl rfl (by kernel_rfl) (fun _ _ _ h => h) (Or.inr ⟨by rfl, rfl⟩) ?_ ?_
          rotate_left
          · simp only [Act.put, List.setIfInBounds_toArray, List.set_cons_zero, List.set_cons_succ, i64_w, i32_w]
            rfl
          refine pure_ (i := 15) (N := some 36) (v := ?_) (a' := ?_) #[true, true, true, true, true, true, true, true, true, true, true, true, true, true, true, true, false] rfl rfl (by kernel_rfl) (fun _ _ _ h => h) (Or.inl ⟨by rfl, ?_⟩) ?_ ?_
          rotate_left
          · intro w'
            go_simp
            with_reducible rfl
          rotate_left
          · simp only [Act.put, List.setIfInBounds_toArray, List.set_cons_zero, List.set_cons_succ, i64_w, i32_w]
            rfl
          refine pure_ (i := 16) (N := some 8) (v := ?_) (a' := ?_) #[true, true, true, true, true, true, true, true, true, true, true, true, true, true, true, true, true] rfl rfl (by kernel_rfl) (fun _ _ _ h => h) (Or.inl ⟨by rfl, ?_⟩) ?_ ?_
          rotate_left
          · intro w'
            go_simp
            with_reducible rfl
          rotate_left
          · simp only [Act.put, List.setIfInBounds_toArray, List.set_cons_zero, List.set_cons_succ, i64_w, i32_w]
            rfl
          refine done_ (by kernel_rfl) ?_
          go_wp2
          go_meet
          case rel => exact ⟨rfl, ⟨below_drew (Below.refl _ _)⟩⟩
        · have e2 : ((i : Int) == 0) = false := beq_eq_false_iff_ne.mpr (by omega)
          obtain ⟨ad2, hA2, q2, q3⟩ := at_T25 (Kd.C_below HC.out HBo.out) ((i - 1 : Nat) : Int) (by omega) (by have := HLT.out; omega)
          rw [Int.toNat_natCast] at q2 q3
          obtain ⟨j, hj⟩ : ∃ j, j = i - 1 := ⟨_, rfl⟩
          have hf : fb = (x.f0 != (rdN s j).f0) := by rw [hfb, HX.out.2, hj]; unfold firstAt; rw [beq_eq_false_iff_ne.mpr c2, Bool.false_or]
          rw [← hj] at q2
          rw [show rd_T25 s (j : Int) = rdN s j from by simp [rd_T25, rdN]] at q2
          have w0 : wrap64 ((i : Int) - 1) = (j : Int) := by rw [Pl.w64 (by omega) (by have := HLT.out; have := HL.out; omega)]; omega
          have p3 : (j < s.length) = True := eq_true (by have := HLT.out; omega)
          have p4 : ((j : Int) < (s.length : Int)) = True := eq_true (by have := HLT.out; omega)
          generalize (rdN s j).f0 = y at q2 hf
          cases hA2
          subst hf
          clear hfb hj q1 q3 c2
          refine start_ (n := 17) (S := fun w' => w'.cell? (ad.add (i * 2)) = some (.int .i64 x.f0) ∧ w'.cell? (ad.add (j * 2)) = some (.int .i64 y)) (ds := []) #[false, false, false, false, false, false, false, false, false, false, false, false, false, false, false, false, false] (by kernel_rfl) rfl rfl ⟨q0, q2⟩ (fun hHeld => ?_)
          refine pure_ (i := 0) (N := some 21) (v := ?_) (a' := ?_) #[true, false, false, false, false, false, false, false, false, false, false, false, false, false, false, false, false] rfl rfl (by kernel_rfl) (fun _ _ _ h => h) (Or.inl ⟨by rfl, ?_⟩) ?_ ?_
          rotate_left
          · intro w'
            go_simp
            with_reducible rfl
          rotate_left
          · simp only [Act.put, List.setIfInBounds_toArray, List.set_cons_zero, List.set_cons_succ, i64_w, i32_w]
            rfl
          refine pure_ (i := 1) (N := some 22) (v := ?_) (a' := ?_) #[true, true, false, false, false, false, false, false, false, false, false, false, false, false, false, false, false] rfl rfl (by kernel_rfl) (fun _ _ _ h => h) (Or.inl ⟨by rfl, ?_⟩) ?_ ?_
          rotate_left
          · intro w'
            go_simp
            with_reducible rfl
          rotate_left
          · simp only [Act.put, List.setIfInBounds_toArray, List.set_cons_zero, List.set_cons_succ, i64_w, i32_w]
            rfl
          refine pure_ (i := 2) (N := some 23) (v := ?_) (a' := ?_) #[true, true, true, false, false, false, false, false, false, false, false, false, false, false, false, false, false] rfl rfl (by kernel_rfl) (fun _ _ _ h => h) (Or.inl ⟨by rfl, ?_⟩) ?_ ?_
          rotate_left
          · intro w'
            go_simp
            with_reducible rfl
          rotate_left
          · simp only [Act.put, List.setIfInBounds_toArray, List.set_cons_zero, List.set_cons_succ, i64_w, i32_w]
            rfl
          refine pure_ (i := 3) (N := some 24) (v := ?_) (a' := ?_) #[true, true, true, true, false, false, false, false, false, false, false, false, false, false, false, false, false] rfl rfl (by kernel_rfl) (fun _ _ _ h => h) (Or.inl ⟨by rfl, ?_⟩) ?_ ?_
          rotate_left
          · intro w'
            go_simp
            with_reducible rfl
          rotate_left
          · simp only [Act.put, List.setIfInBounds_toArray, List.set_cons_zero, List.set_cons_succ, i64_w, i32_w]
            rfl
          refine pure_ (i := 4) (N := some 25) (v := ?_) (a' := ?_) #[true, true, true, true, true, false, false, false, false, false, false, false, false, false, false, false, false] rfl rfl (by kernel_rfl) (fun _ _ _ h => h) (Or.inl ⟨by rfl, ?_⟩) ?_ ?_
          rotate_left
          · intro w'
            go_simp
            with_reducible rfl
          rotate_left
          · simp only [Act.put, List.setIfInBounds_toArray, List.set_cons_zero, List.set_cons_succ, i64_w, i32_w]
            rfl
          refine pure_ (i := 5) (N := some 26) (v := ?_) (a' := ?_) #[true, true, true, true, true, true, false, false, false, false, false, false, false, false, false, false, false] rfl rfl (by kernel_rfl) (fun _ _ _ h => h) (Or.inl ⟨by rfl, ?_⟩) ?_ ?_
          rotate_left
          · intro w'
            go_simp
            with_reducible rfl
          rotate_left
          · simp only [Act.put, List.setIfInBounds_toArray, List.set_cons_zero, List.set_cons_succ, i64_w, i32_w]
            rfl
          refine pure_ (i := 6) (N := some 27) (v := ?_) (a' := ?_) #[true, true, true, true, true, true, true, false, false, false, false, false, false, false, false, false, false] rfl rfl (by kernel_rfl) (fun _ _ _ h => h) (Or.inl ⟨by rfl, ?_⟩) ?_ ?_
          rotate_left
          · intro w'
            go_simp
            with_reducible rfl
          rotate_left
          · simp only [Act.put, List.setIfInBounds_toArray, List.set_cons_zero, List.set_cons_succ, i64_w, i32_w]
            rfl
          refine pure_ (i := 8) (N := some 29) (v := ?_) (a' := ?_) #[true, true, true, true, true, true, true, false, true, false, false, false, false, false, false, false, false] rfl rfl (by kernel_rfl) (fun _ _ _ h => h) (Or.inl ⟨by rfl, ?_⟩) ?_ ?_
          rotate_left
          · intro w'
            go_simp
            with_reducible rfl
          rotate_left
          · simp only [Act.put, List.setIfInBounds_toArray, List.set_cons_zero, List.set_cons_succ, i64_w, i32_w]
            rfl
          refine pure_ (i := 9) (N := some 30) (v := ?_) (a' := ?_) #[true, true, true, true, true, true, true, false, true, true, false, false, false, false, false, false, false] rfl rfl (by kernel_rfl) (fun _ _ _ h => h) (Or.inl ⟨by rfl, ?_⟩) ?_ ?_
          rotate_left
          · intro w'
            go_simp
            with_reducible rfl
          rotate_left
          · simp only [Act.put, List.setIfInBounds_toArray, List.set_cons_zero, List.set_cons_succ, i64_w, i32_w]
            rfl
          refine pure_ (i := 10) (N := some 31) (v := ?_) (a' := ?_) #[true, true, true, true, true, true, true, false, true, true, true, false, false, false, false, false, false] rfl rfl (by kernel_rfl) (fun _ _ _ h => h) (Or.inl ⟨by rfl, ?_⟩) ?_ ?_
          rotate_left
          · intro w'
            go_simp
            with_reducible rfl
          rotate_left
          · simp only [Act.put, List.setIfInBounds_toArray, List.set_cons_zero, List.set_cons_succ, i64_w, i32_w]
            rfl
          refine pure_ (i := 11) (N := some 32) (v := ?_) (a' := ?_) #[true, true, true, true, true, true, true, false, true, true, true, true, false, false, false, false, false] rfl rfl (by kernel_rfl) (fun _ _ _ h => h) (Or.inl ⟨by rfl, ?_⟩) ?_ ?_
          rotate_left
          · intro w'
            go_simp
            with_reducible rfl
          rotate_left
          · simp only [Act.put, List.setIfInBounds_toArray, List.set_cons_zero, List.set_cons_succ, i64_w, i32_w]
            rfl
          refine pure_ (i := 12) (N := some 33) (v := ?_) (a' := ?_) #[true, true, true, true, true, true, true, false, true, true, true, true, true, false, false, false, false] rfl rfl (by kernel_rfl) (fun _ _ _ h => h) (Or.inl ⟨by rfl, ?_⟩) ?_ ?_
          rotate_left
          · intro w'
            go_simp
            with_reducible rfl
          rotate_left
          · simp only [Act.put, List.setIfInBounds_toArray, List.set_cons_zero, List.set_cons_succ, i64_w, i32_w]
            rfl
          refine take_ (i := 7) (N := some 28) (v := ?_) (a' := ?_) #[true, true, true, true, true, true, true, true, true, true, true, true, true, false, false, false, false] rfl rfl (by kernel_rfl) (fun _ _ _ h => h) (Or.inl ⟨by rfl, ?_⟩) hHeld ?_ ?_
          rotate_left
          · rintro w' ⟨s0, s1⟩
            go_simp
            with_reducible rfl
          rotate_left
          · simp only [Act.put, List.setIfInBounds_toArray, List.set_cons_zero, List.set_cons_succ, i64_w, i32_w]
            rfl
          refine take_ (i := 13) (N := some 34) (v := ?_) (a' := ?_) #[true, true, true, true, true, true, true, true, true, true, true, true, true, true, false, false, false] rfl rfl (by kernel_rfl) (fun _ _ _ h => h) (Or.inl ⟨by rfl, ?_⟩) hHeld ?_ ?_
          rotate_left
          · rintro w' ⟨s0, s1⟩
            go_simp
            with_reducible rfl
          rotate_left
          · simp only [Act.put, List.setIfInBounds_toArray, List.set_cons_zero, List.set_cons_succ, i64_w, i32_w]
            rfl
          refine pure_ (i := 14) (N := some 35) (v := ?_) (a' := ?_) #[true, true, true, true, true, true, true, true, true, true, true, true, true, true, true, false, false] rfl rfl (by kernel_rfl) (fun _ _ _ h => h) (Or.inl ⟨by rfl, ?_⟩) ?_ ?_
          rotate_left
          · intro w'
            go_simp
            with_reducible rfl
          rotate_left
          · simp only [Act.put, List.setIfInBounds_toArray, List.set_cons_zero, List.set_cons_succ, i64_w, i32_w]
            rfl
          refine pure_ (i := 15) (N := some 36) (v := ?_) (a' := ?_) #[true, true, true, true, true, true, true, true, true, true, true, true, true, true, true, true, false] rfl rfl (by kernel_rfl) (fun _ _ _ h => h) (Or.inl ⟨by rfl, ?_⟩) ?_ ?_
          rotate_left
          · intro w'
            go_simp
            with_reducible rfl
          rotate_left
          · simp only [Act.put, List.setIfInBounds_toArray, List.set_cons_zero, List.set_cons_succ, i64_w, i32_w]
            rfl
          refine pure_ (i := 16) (N := some 8) (v := ?_) (a' := ?_) #[true, true, true, true, true, true, true, true, true, true, true, true, true, true, true, true, true] rfl rfl (by kernel_rfl) (fun _ _ _ h => h) (Or.inl ⟨by rfl, ?_⟩) ?_ ?_
          rotate_left
          · intro w'
            go_simp
            with_reducible rfl
          rotate_left
          · simp only [Act.put, List.setIfInBounds_toArray, List.set_cons_zero, List.set_cons_succ, i64_w, i32_w]
            rfl
          refine done_ (by kernel_rfl) ?_
          go_wp2
          go_meet
          case rel => exact ⟨rfl, ⟨below_drew (Below.refl _ _)⟩⟩
      case rest =>
        obtain ⟨rfl, HBc⟩ := hcut
        have hO1 := Kd.R_below HO.out HBc.out
        have hB1 := HBo.out.trans ⟨HBc.out.os, HBc.out.tape, HBc.out.output, HBc.out.size, fun i hi => HBc.out.block i (Nat.lt_of_lt_of_le hi HBo.out.size)⟩
        have HO1 := Aside0.mk hO1
        have HB1 := Aside0.mk hB1
        clear hO1 hB1 HO HBo HBc q0 q1 hfb
        subst hA
        obtain ⟨ad1, hA1, q0, q1⟩ := at_T25 (Kd.C_below HC.out HB1.out) (i : Int) (by omega) (by have := HLT.out; omega)
        cases hA1
        rw [Int.toNat_natCast] at q0 q1
        rw [show rd_T25 s (i : Int) = x from by rw [HX.out.2]; simp [rd_T25, rdN]] at q0 q1
        have hs1 := HB1.out.size
        have HS1 := Aside0.mk hs1
        clear hs1
        go_upto_if 37 with (fail)
        go_cut [6] (fun v6 wd => Aside0 (Kd.R k25 25 wd w2.heap.size (fun _ => True) v6 (grownR fb (outR kind s i) x)) ∧ Aside0 (Below w2.heap.size w2 wd))
        case first =>
          cases fb with
          | true =>
            go_wp2_with (first
              | ((with_reducible refine gate_builtin (b := .append) (xs := #[.tmp 38, .tmp 45]) rfl ?_); at_builtin; refine Kd.R_append k25 (w0 := w2) w2.heap.size rfl (.tmp 38) (.tmp 45) 26 25 (.agg #[.int .i64 0, .int .i64 0]) 16 rfl Try.underlying26 infoR rfl (by decide) (by omega) u6 (outR kind s i) ⟨x.f0, 0⟩ [.int .i64 x.f0, .int .i64 0] (fun _ => True) (fun _ => False) rfl rfl ?aP (fun _ hk => hk.elim) ?aF ?aO ?aB ?aS ?aL ?_; (case aP => exact k25_mkM _ _ _ _); (case aB => exact HB1.out); (case aF => exact (fun _ _ => trivial)); (case aO => exact HO1.out); (case aS => exact HS1.out); (case aL => (have := HLT.out; have := (outR_length kind s i).1; have := HL.out; omega)); intro va w8 hq hb hg hat7)
              | go_in)
            have HQ8 := Aside0.mk hq
            have HB8 := Aside0.mk hb
            clear hq hb hg hat7
            go_wp2
            go_meet
            case rel => exact ⟨HQ8, HB8⟩
          | false =>
            go_wp2
            go_meet
            case rel => exact ⟨HO1, HB1⟩
        case rest =>
          obtain ⟨HO2, HB2'⟩ := hcut
          clear HO1 HB1 HS1 q0 q1
          obtain ⟨O, hO⟩ : ∃ O, O = grownR fb (outR kind s i) x := ⟨_, rfl⟩
          rw [← hO] at HO2
          have hn : 0 < O.length ∧ O.length ≤ 1000 := by
            have h1 := outR_length kind s i
            have := HLT.out
            have := HL.out
            rw [hO, grownR_length]
            by_cases q : i = 0
            · subst q
              have : fb = true := by rw [HX.out.1]; rfl
              rw [this]
              simp
              omega
            · have := h1.2 (by omega)
              constructor
              · split <;> omega
              · split <;> omega
          obtain ⟨m, hm⟩ : ∃ m, O.length = m + 1 := ⟨O.length - 1, by omega⟩
          obtain ⟨g, cap, rfl, hbg, r0, r1, rz⟩ := last_at HO2.out hm
          have HN : Aside0 (O.length = m + 1 ∧ m < 1000 ∧ w2.heap.size ≤ g) := ⟨hm, by omega, hbg⟩
          have HGO := Aside0.mk hO
          have w0 : wrap64 (((m + 1 : Nat) : Int) - 1) = (m : Int) := by rw [Pl.w64 (by omega) (by omega)]; omega
          have w1_ : wrap64 ((m : Int) + 1 - 1) = (m : Int) := by rw [Pl.w64 (by omega) (by omega)]; omega
          have w2_ : wrap64 (m : Int) = (m : Int) := Pl.w64 (by omega) (by omega)
          have p5 : (m < m + 1) = True := eq_true (by omega)
          have p6 : ((m : Int) < (m : Int) + 1) = True := eq_true (by omega)
          have hpa : (⟨g, 0, none⟩ : Addr).add (m * 2) = ⟨g, m * 2, none⟩ := add_plain _ _
          obtain ⟨ad1, hA1, q0, q1⟩ := at_T25 (Kd.C_below HC.out HB2'.out) (i : Int) (by omega) (by have := HLT.out; omega)
          cases hA1
          rw [Int.toNat_natCast] at q0 q1
          rw [show rd_T25 s (i : Int) = x from by rw [HX.out.2]; simp [rd_T25, rdN]] at q0 q1
          clear hm hn hbg hO q0
          go_upto_block 2 with (fail)
          clear w0 w1_ w2_ p5 p6 hpa
          have hG : ∀ v : Int, v = upd kind fb (rdN O m).f1 x.f1 → outR kind s (i + 1) = putL O v := fun v hv => by
            show stepR kind (firstAt s i) (outR kind s i) (rdN s i) = _
            rw [← HX.out.1, ← HX.out.2, hv]
            unfold stepR
            rw [← HGO.out, HN.out.1]
            rfl
          have HGv := Aside0.mk hG
          have HP0 : Aside0 (putL O (rdN O m).f1 = O) := ⟨by
            unfold putL
            rw [HN.out.1]
            have hm := HN.out.1
            have : m < O.length := by omega
            show O.set m ⟨(rdN O m).f0, (rdN O m).f1⟩ = O
            have e : (⟨(rdN O m).f0, (rdN O m).f1⟩ : R) = O[m] := by
              unfold rdN
              rw [List.getD_eq_getElem?_getD, List.getElem?_eq_getElem this]
              rfl
            rw [e, List.set_getElem_self]⟩
          clear hG
          by_cases k11 : kind = 11
          · have e11 : (kind == 11) = true := beq_iff_eq.mpr k11
            have K11 := Aside0.mk k11
            clear k11
            go_upto_region 13 with (fail)
            refine start_ (n := 14) (S := fun w' => w'.cell? ⟨g, m * 2 + 1, none⟩ = some (.int .i64 (rdN O m).f1) ∧ w'.cell? ⟨(ad.add (i * 2)).block, (ad.add (i * 2)).off + 1, none⟩ = some (.int .i64 x.f1)) (ds := [13]) #[false, false, false, false, false, false, false, false, false, false, false, false, false, false] (by kernel_rfl) rfl rfl ⟨r1, q1⟩ (fun hHeld => ?_)
            refine pure_ (i := 0) (N := some 55) (v := ?_) (a' := ?_) #[true, false, false, false, false, false, false, false, false, false, false, false, false, false] rfl rfl (by kernel_rfl) (fun _ _ _ h => h) (Or.inl ⟨by rfl, ?_⟩) ?_ ?_
            rotate_left
            · intro w'
              go_simp
              with_reducible rfl
            rotate_left
            · simp only [Act.put, List.setIfInBounds_toArray, List.set_cons_zero, List.set_cons_succ, i64_w, i32_w]
              rfl
            refine pure_ (i := 1) (N := some 56) (v := ?_) (a' := ?_) #[true, true, false, false, false, false, false, false, false, false, false, false, false, false] rfl rfl (by kernel_rfl) (fun _ _ _ h => h) (Or.inl ⟨by rfl, ?_⟩) ?_ ?_
            rotate_left
            · intro w'
              go_simp
              with_reducible rfl
            rotate_left
            · simp only [Act.put, List.setIfInBounds_toArray, List.set_cons_zero, List.set_cons_succ, i64_w, i32_w]
              rfl
            refine pure_ (i := 2) (N := some 57) (v := ?_) (a' := ?_) #[true, true, true, false, false, false, false, false, false, false, false, false, false, false] rfl rfl (by kernel_rfl) (fun _ _ _ h => h) (Or.inl ⟨by rfl, ?_⟩) ?_ ?_
            rotate_left
            · intro w'
              go_simp
              with_reducible rfl
            rotate_left
            · simp only [Act.put, List.setIfInBounds_toArray, List.set_cons_zero, List.set_cons_succ, i64_w, i32_w]
              rfl
            refine pure_ (i := 3) (N := some 58) (v := ?_) (a' := ?_) #[true, true, true, true, false, false, false, false, false, false, false, false, false, false] rfl rfl (by kernel_rfl) (fun _ _ _ h => h) (Or.inl ⟨by rfl, ?_⟩) ?_ ?_
            rotate_left
            · intro w'
              go_simp
              with_reducible rfl
            rotate_left
            · simp only [Act.put, List.setIfInBounds_toArray, List.set_cons_zero, List.set_cons_succ, i64_w, i32_w]
              rfl
            refine pure_ (i := 5) (N := some 60) (v := ?_) (a' := ?_) #[true, true, true, true, false, true, false, false, false, false, false, false, false, false] rfl rfl (by kernel_rfl) (fun _ _ _ h => h) (Or.inl ⟨by rfl, ?_⟩) ?_ ?_
            rotate_left
            · intro w'
              go_simp
              with_reducible rfl
            rotate_left
            · simp only [Act.put, List.setIfInBounds_toArray, List.set_cons_zero, List.set_cons_succ, i64_w, i32_w]
              rfl
            refine pure_ (i := 6) (N := some 61) (v := ?_) (a' := ?_) #[true, true, true, true, false, true, true, false, false, false, false, false, false, false] rfl rfl (by kernel_rfl) (fun _ _ _ h => h) (Or.inl ⟨by rfl, ?_⟩) ?_ ?_
            rotate_left
            · intro w'
              go_simp
              with_reducible rfl
            rotate_left
            · simp only [Act.put, List.setIfInBounds_toArray, List.set_cons_zero, List.set_cons_succ, i64_w, i32_w]
              rfl
            refine pure_ (i := 7) (N := some 62) (v := ?_) (a' := ?_) #[true, true, true, true, false, true, true, true, false, false, false, false, false, false] rfl rfl (by kernel_rfl) (fun _ _ _ h => h) (Or.inl ⟨by rfl, ?_⟩) ?_ ?_
            rotate_left
            · intro w'
              go_simp
              with_reducible rfl
            rotate_left
            · simp only [Act.put, List.setIfInBounds_toArray, List.set_cons_zero, List.set_cons_succ, i64_w, i32_w]
              rfl
            refine pure_ (i := 8) (N := some 63) (v := ?_) (a' := ?_) #[true, true, true, true, false, true, true, true, true, false, false, false, false, false] rfl rfl (by kernel_rfl) (fun _ _ _ h => h) (Or.inl ⟨by rfl, ?_⟩) ?_ ?_
            rotate_left
            · intro w'
              go_simp
              with_reducible rfl
            rotate_left
            · simp only [Act.put, List.setIfInBounds_toArray, List.set_cons_zero, List.set_cons_succ, i64_w, i32_w]
              rfl
            refine take_ (i := 4) (N := some 59) (v := ?_) (a' := ?_) #[true, true, true, true, true, true, true, true, true, false, false, false, false, false] rfl rfl (by kernel_rfl) (fun _ _ _ h => h) (Or.inl ⟨by rfl, ?_⟩) hHeld ?_ ?_
            rotate_left
            · rintro w' ⟨s0, s1⟩
              go_simp
              with_reducible rfl
            rotate_left
            · simp only [Act.put, List.setIfInBounds_toArray, List.set_cons_zero, List.set_cons_succ, i64_w, i32_w]
              rfl
            refine take_ (i := 9) (N := some 64) (v := ?_) (a' := ?_) #[true, true, true, true, true, true, true, true, true, true, false, false, false, false] rfl rfl (by kernel_rfl) (fun _ _ _ h => h) (Or.inl ⟨by rfl, ?_⟩) hHeld ?_ ?_
            rotate_left
            · rintro w' ⟨s0, s1⟩
              go_simp
              with_reducible rfl
            rotate_left
            · simp only [Act.put, List.setIfInBounds_toArray, List.set_cons_zero, List.set_cons_succ, i64_w, i32_w]
              rfl
            refine pure_ (i := 10) (N := some 65) (v := ?_) (a' := ?_) #[true, true, true, true, true, true, true, true, true, true, true, false, false, false] rfl rfl (by kernel_rfl) (fun _ _ _ h => h) (Or.inl ⟨by rfl, ?_⟩) ?_ ?_
            rotate_left
            · intro w'
              go_simp
              with_reducible rfl
            rotate_left
            · simp only [Act.put, List.setIfInBounds_toArray, List.set_cons_zero, List.set_cons_succ, i64_w, i32_w]
              rfl
            refine pure_ (i := 11) (N := some 66) (v := ?_) (a' := ?_) #[true, true, true, true, true, true, true, true, true, true, true, true, false, false] rfl rfl (by kernel_rfl) (fun _ _ _ h => h) (Or.inl ⟨by rfl, ?_⟩) ?_ ?_
            rotate_left
            · intro w'
              go_simp
              with_reducible rfl
            rotate_left
            · simp only [Act.put, List.setIfInBounds_toArray, List.set_cons_zero, List.set_cons_succ, i64_w, i32_w]
              rfl
            refine pure_ (i := 12) (N := some 67) (v := ?_) (a' := ?_) #[true, true, true, true, true, true, true, true, true, true, true, true, true, false] rfl rfl (by kernel_rfl) (fun _ _ _ h => h) (Or.inl ⟨by rfl, ?_⟩) ?_ ?_
            rotate_left
            · intro w'
              go_simp
              with_reducible rfl
            rotate_left
            · simp only [Act.put, List.setIfInBounds_toArray, List.set_cons_zero, List.set_cons_succ, i64_w, i32_w]
              rfl
            refine last_ (i := 13) (N := none) #[true, true, true, true, true, true, true, true, true, true, true, true, true, true] rfl rfl (by kernel_rfl) (by decide) (fun K hK => ?_)
            refine skip_ (w1 := ?_) (by rfl) rfl ?_ ?_
            rotate_left
            · go_simp
              rfl
            refine hK.out _ _ ?_
            clear hK K
            refine done_ (by kernel_rfl) ?_
            have HO3 : Aside0 (Kd.R k25 25 (wc.setCell ⟨g, m * 2 + 1, none⟩ (.int .i64 (wrap64 ((rdN O m).f1 + x.f1)))).drew w2.heap.size (fun _ => True) (.slice (some ⟨g, 0, none⟩) (m + 1) cap) (outR kind s (i + 1))) := ⟨by
              rw [HGv.out (wrap64 ((rdN O m).f1 + x.f1)) (by unfold upd; rw [if_pos K11.out])]
              exact Kd.R_below (R_putL HO2.out _) (below_drew (Below.refl _ _))⟩
            have HB3 : Aside0 (Below w2.heap.size w2 (wc.setCell ⟨g, m * 2 + 1, none⟩ (.int .i64 (wrap64 ((rdN O m).f1 + x.f1)))).drew) := ⟨below_drew (HB2'.out.setCell HN.out.2.2 _)⟩
            clear HO2 HB2' HGv HP0 r0 r1 q1 rz
            generalize World.drew _ = wz at HO3 HB3 ⊢
            go_wp2
            go_roundg (gk - 1)
            case measure => have := HI.out; omega
            case rel => exact ⟨i + 1, by first | rfl | (rw [Pl.w64 (by omega) (by have := HLT.out; have := HL.out; omega)]; rfl), ⟨by have := HI.out; have := HLT.out; omega⟩, HO3, HB3⟩
          · have e11 : (kind == 11) = false := beq_eq_false_iff_ne.mpr k11
            have K11 := Aside0.mk k11
            clear k11
            by_cases k12 : kind = 12
            · have e12 : (kind == 12) = true := beq_iff_eq.mpr k12
              have K12 := Aside0.mk k12
              clear k12
              go_wp2
              have HO3 : Aside0 (Kd.R k25 25 (wc.setCell ⟨g, m * 2 + 1, none⟩ (.int .i64 (wrap64 ((rdN O m).f1 + 1)))) w2.heap.size (fun _ => True) (.slice (some ⟨g, 0, none⟩) (m + 1) cap) (outR kind s (i + 1))) := ⟨by
                rw [HGv.out (wrap64 ((rdN O m).f1 + 1)) (by unfold upd; rw [if_neg K11.out, if_pos K12.out])]
                exact R_putL HO2.out _⟩
              have HB3 : Aside0 (Below w2.heap.size w2 (wc.setCell ⟨g, m * 2 + 1, none⟩ (.int .i64 (wrap64 ((rdN O m).f1 + 1))))) := ⟨HB2'.out.setCell HN.out.2.2 _⟩
              clear HO2 HB2' HGv HP0 r0 r1 q1 rz
              generalize World.setCell _ _ _ = wz at HO3 HB3 ⊢
              go_roundg (gk - 1)
              case measure => have := HI.out; omega
              case rel => exact ⟨i + 1, by first | rfl | (rw [Pl.w64 (by omega) (by have := HLT.out; have := HL.out; omega)]; rfl), ⟨by have := HI.out; have := HLT.out; omega⟩, HO3, HB3⟩
            · have e12 : (kind == 12) = false := beq_eq_false_iff_ne.mpr k12
              have K12 := Aside0.mk k12
              clear k12
              cases fb with
              | true =>
                go_wp2
                have HO3 : Aside0 (Kd.R k25 25 (wc.setCell ⟨g, m * 2 + 1, none⟩ (.int .i64 x.f1)) w2.heap.size (fun _ => True) (.slice (some ⟨g, 0, none⟩) (m + 1) cap) (outR kind s (i + 1))) := ⟨by
                  rw [HGv.out x.f1 (by unfold upd; rw [if_neg K11.out, if_neg K12.out, if_pos (.inl rfl)])]
                  exact R_putL HO2.out _⟩
                have HB3 : Aside0 (Below w2.heap.size w2 (wc.setCell ⟨g, m * 2 + 1, none⟩ (.int .i64 x.f1))) := ⟨HB2'.out.setCell HN.out.2.2 _⟩
                clear HO2 HB2' HGv HP0 r0 r1 q1 rz
                generalize World.setCell _ _ _ = wz at HO3 HB3 ⊢
                go_roundg (gk - 1)
                case measure => have := HI.out; omega
                case rel => exact ⟨i + 1, by first | rfl | (rw [Pl.w64 (by omega) (by have := HLT.out; have := HL.out; omega)]; rfl), ⟨by have := HI.out; have := HLT.out; omega⟩, HO3, HB3⟩
              | false =>
                by_cases k14 : kind = 14
                · have e14 : (kind == 14) = true := beq_iff_eq.mpr k14
                  have K14 := Aside0.mk k14
                  clear k14
                  go_wp2
                  have HO3 : Aside0 (Kd.R k25 25 (wc.setCell ⟨g, m * 2 + 1, none⟩ (.int .i64 x.f1)) w2.heap.size (fun _ => True) (.slice (some ⟨g, 0, none⟩) (m + 1) cap) (outR kind s (i + 1))) := ⟨by
                    rw [HGv.out x.f1 (by unfold upd; rw [if_neg K11.out, if_neg K12.out, if_pos (.inr K14.out)])]
                    exact R_putL HO2.out _⟩
                  have HB3 : Aside0 (Below w2.heap.size w2 (wc.setCell ⟨g, m * 2 + 1, none⟩ (.int .i64 x.f1))) := ⟨HB2'.out.setCell HN.out.2.2 _⟩
                  clear HO2 HB2' HGv HP0 r0 r1 q1 rz
                  generalize World.setCell _ _ _ = wz at HO3 HB3 ⊢
                  go_roundg (gk - 1)
                  case measure => have := HI.out; omega
                  case rel => exact ⟨i + 1, by first | rfl | (rw [Pl.w64 (by omega) (by have := HLT.out; have := HL.out; omega)]; rfl), ⟨by have := HI.out; have := HLT.out; omega⟩, HO3, HB3⟩
                · have e14 : (kind == 14) = false := beq_eq_false_iff_ne.mpr k14
                  have K14 := Aside0.mk k14
                  clear k14
                  go_wp2
                  have HO3 : Aside0 (Kd.R k25 25 (wc) w2.heap.size (fun _ => True) (.slice (some ⟨g, 0, none⟩) (m + 1) cap) (outR kind s (i + 1))) := ⟨by
                    rw [HGv.out (rdN O m).f1 (by unfold upd; rw [if_neg K11.out, if_neg K12.out, if_neg (by have := K14.out; simp [this])])]
                    rw [HP0.out]; exact HO2.out⟩
                  have HB3 : Aside0 (Below w2.heap.size w2 (wc)) := ⟨HB2'.out⟩
                  clear HO2 HB2' HGv HP0 r0 r1 q1 rz
                  go_roundg (gk - 1)
                  case measure => have := HI.out; omega
                  case rel => exact ⟨i + 1, by first | rfl | (rw [Pl.w64 (by omega) (by have := HLT.out; have := HL.out; omega)]; rfl), ⟨by have := HI.out; have := HLT.out; omega⟩, HO3, HB3⟩
    · have e1 : decide ((i : Int) < (s.length : Int)) = false := decide_eq_false (by omega)
      have p1 : (i < s.length) = False := eq_false c1
      have p2 : ((i : Int) < (s.length : Int)) = False := eq_false (by omega)
      obtain rfl : i = s.length := by have := HI.out; omega
      clear c1 HI
      go_wp2
      go_ret2
      exact ⟨u6, rfl, Kd.R_lower HO.out HB2.out.size, below_step HB2.out HBo.out⟩
theorem refFold_not (kind : Int) (A : Option Addr) (c n : Nat) (w : World) (hk : ¬ (11 ≤ kind ∧ kind ≤ 14)) :
    Calls Try.prog 18 #[.int .i64 kind, .slice A n c] w fun e w' => e = .returned (.tuple #[.slice none 0 0, .int .i64 70]) ∧ Below w.heap.size w w' := by
  go_enter Try.func18, Try.ntmps18
  go_wp2_with fail
  refine (watershedref12_Keeps.calls kind false _ (by unfold watershedref12_Keeps.f; by_cases q : kind ≥ 11 <;> simp [q] <;> omega)).mono ?_
  rintro e w1 ⟨rfl, nd, rfl⟩
  go_wp2
  go_ret2
  exact ⟨rfl, pw_below_drewN (Below.refl _ _) nd⟩
end Go.Proofs.Ytogainbkidgkhaa.H12
namespace Go.Proofs.Ytogainbkidgkhaa.Ext
open Go.RowKit Go.Proofs.YtogainbkidgkhaaW.PrintWords Go.Proofs.YtogainbkidgkhaaW.PrintLast Go.Proofs.YtogainbkidgkhaaW.PrintMore Go.Proofs.Ytogainbkidgkhaa.Base Go.Proofs.Ytogainbkidgkhaa.Q12f H12
def watershedref12_Fold.f (kind : Int) (l : List H12.R) : Option (List H12.R × Int) :=
  if 11 ≤ kind ∧ kind ≤ 14 then (watershedref11_Order.f 1000000 l).bind fun s => if s.length ≤ 1000 then some (outR kind s s.length, 0) else none else some ([], 70)
theorem watershedref12_Fold.calls (a0 : Int) (A1 : Option Addr) (c1 : Nat) (l1 : List H12.R) (r1 : List H12.R) (r2 : Int) (w : World) (hr1 : Kd.C k25 w A1 l1.length l1) (hc1 : l1.length ≤ c1) (h : watershedref12_Fold.f a0 l1 = some (r1, r2)) :
    Calls Try.prog 18 #[.int .i64 a0, .slice A1 l1.length c1] w fun e w' => ∃ v0_ : Value, e = .returned (.tuple #[v0_, .int .i64 r2]) ∧ Kd.R k25 25 w' w.heap.size (fun _ => True) v0_ r1 ∧ Below w.heap.size w w' := by
  unfold watershedref12_Fold.f at h
  split at h
  · rename_i hk
    obtain ⟨s, hs, h⟩ := Option.bind_eq_some_iff.1 h
    split at h
    · rename_i hl
      injection h with h
      injection h with h1 h2
      subst h1 h2
      exact refFold_walk a0 A1 c1 l1 s w hr1 hc1 hs hl hk
    · cases h
  · rename_i hk
    injection h with h
    injection h with h1 h2
    subst h1 h2
    refine (refFold_not a0 A1 c1 l1.length w hk).mono ?_
    rintro e w' ⟨rfl, hb⟩
    exact ⟨_, rfl, Kd.R_nil _ _ _ _ _, hb⟩
end Go.Proofs.Ytogainbkidgkhaa.Ext
end
