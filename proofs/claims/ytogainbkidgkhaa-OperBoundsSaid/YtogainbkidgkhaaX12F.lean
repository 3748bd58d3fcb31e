import Derived.Test.YtogainbkidgkhaaQ12fx
import Derived.Test.YtogainbkidgkhaaSh3
import Derived.Test.YtogainbkidgkhaaBase
import Derived.Test.YtogainbkidgkhaaPl
import Derived.Maps.OwnRows
import Derived.Maps.GroupsBeside
import Derived.Maps.RangeWalk
import Derived.Sort.OwnSortedInts
/- The contract of oper.Fold, by hand: values by keys in a map of slices, the keys collected and sorted by the library, a record for each. -/
namespace Go.Proofs.Ytogainbkidgkhaa.F12
set_option linter.unusedSimpArgs false
set_option linter.unusedVariables false
open Go.RowKit Go.Maps Go.ChangeShapes Go.Proofs.YtogainbkidgkhaaW.PrintWords Go.Proofs.YtogainbkidgkhaaW.PrintLast Go.Proofs.YtogainbkidgkhaaW.PrintMore Go.Proofs.Ytogainbkidgkhaa.Base Go.Proofs.Ytogainbkidgkhaa.Q12f

abbrev R := S25
abbrev kI (x : Int) : Lit := .int .i64 x
def wfR (r : R) : Bool := (Lit.int .i64 r.f0).wf && (Lit.int .i64 r.f1).wf
def valsOf (x : Int) (l : List R) : List Int := (l.filter fun r => decide (r.f0 = x)).map (·.f1)
def keysOf (l : List R) : List Int := ((l.map (·.f0)).eraseDups).mergeSort fun x y => decide (x ≤ y)
theorem valsOf_snoc (x : Int) (l : List R) (r : R) : valsOf x (l ++ [r]) = valsOf x l ++ if r.f0 = x then [r.f1] else [] := by
  unfold valsOf
  rw [List.filter_append, List.map_append]
  by_cases h : r.f0 = x <;> simp [h]
theorem valsOf_length (x : Int) (l : List R) : (valsOf x l).length ≤ l.length := by
  unfold valsOf
  rw [List.length_map]
  exact List.length_filter_le _ _
section
variable {H : Type}
def grp (zs : List Int) : DataW H := if zs = [] then .nil else .slice (lits .i64 zs) []
theorem lits_inj {a b : List Int} (h : lits (H := H) .i64 a = lits .i64 b) : a = b := by
  unfold lits at h
  exact (List.map_inj_right (fun x y hxy => by injection hxy with h1; injection h1)).1 h
theorem grp_inj {a b : List Int} (h : grp (H := H) a = grp b) : a = b := by
  unfold grp at h
  split at h <;> split at h
  · simp_all
  · cases h
  · cases h
  · injection h with h1
    exact lits_inj h1
/-- What the map holds when the records l have come: at each key its values, and just the keys that have come. -/
def GInv (D : DataW H) (l : List R) : Prop := IsMap D ∧ (∀ x, D.atKey (kI x) .nil = grp (valsOf x l)) ∧ ∀ x, Maps.has D (kI x) = true ↔ x ∈ l.map (·.f0)
theorem GInv.start : GInv (H := H) (.map []) [] := ⟨⟨[], rfl⟩, fun x => rfl, fun x => by simp [Maps.has]⟩
/-- The slice at a key holds the values that have come at it. -/
theorem GInv.vals {D : DataW H} {l : List R} (G : GInv D l) {w : World} {base : Nat} {e : TypeId} {v : Value} {zs : List Int} {x : Int} (hat : D.atKey (kI x) .nil = rowDatum .i64 v zs) (ho : w.ownsInts base e .i64 v zs) : zs = valsOf x l := by
  have h1 := G.2.1 x
  rw [hat] at h1
  unfold grp at h1
  rcases ho.datum (H := H) with ⟨h2, h3⟩ | h2
  · rw [h2] at h1
    split at h1
    · rw [h3]; symm; assumption
    · cases h1
  · rw [h2] at h1
    split at h1
    · cases h1
    · injection h1 with h4
      exact lits_inj h4
theorem GInv.step {D : DataW H} {l : List R} (G : GInv D l) {w1 : World} {base : Nat} {e : TypeId} {v' : Value} {r : R} (ho : w1.ownsInts base e .i64 v' (valsOf r.f0 l ++ [r.f1])) : GInv (D.put (kI r.f0) (rowDatum .i64 v' (valsOf r.f0 l ++ [r.f1]))) (l ++ [r]) := by
  obtain ⟨hm, ha, hh⟩ := G
  rw [ho.datum_pos (by simp)]
  refine ⟨?_, fun x => ?_, fun x => ?_⟩
  · obtain ⟨es, rfl⟩ := hm
    exact ⟨_, rfl⟩
  · rw [valsOf_snoc]
    by_cases hx : r.f0 = x
    · subst hx
      rw [atKey_put_same hm (show WideAt.IsKeyLit (kI r.f0) from trivial), if_pos rfl]
      unfold grp
      rw [if_neg (by simp)]
    · rw [atKey_put_other (fun h => hx (by injection h with _ h2; exact h2.symm)), ha, if_neg hx, List.append_nil]
  · rw [List.map_append, List.mem_append]
    by_cases hx : r.f0 = x
    · subst hx
      rw [has_put_same hm (show WideAt.IsKeyLit (kI r.f0) from trivial)]
      simp
    · rw [has_put_other (fun h => hx (by injection h with _ h2; exact h2.symm)), hh]
      simp
      exact fun h => absurd h.symm hx
variable {P : Program} {k E t e : TypeId} {q : IntKind} {w w' : World} {base b n : Nat} {D : DataW H}
/-- A look-up answers the same where the map's block stands as it was. -/
theorem look_move (h : w.ownsGroups P k base e q b n D) (K : Keyed P k) (ht : P.underlying t = some (.map k E)) (hz : ∀ w : World, (zeroValue E).run P w = .ok (.slice none 0 0) w) {key v : Value} {kl : Lit} (hkey : keyOf P k key = some kl)
    (hb' : w'.heap[b]? = w.heap[b]?) (hr : (Instr.lookup t (.map (some b)) key false).run P w = .ok v w) : (Instr.lookup t (.map (some b)) key false).run P w' = .ok v w' := by
  obtain ⟨es, clock, hb, F, _⟩ := h
  have hst := (MapKept.stamped_iff es clock).1 F.stamped
  rcases Maps.fit_look false K ht (hz w) hb F hkey with ⟨h1, h2, _⟩ | ⟨e0, y, h2, h3, h1, _⟩ <;> rcases Maps.fit_look false K ht (hz w') (hb'.trans hb) F hkey with ⟨h4, h5, _⟩ | ⟨e1, y1, h5, h6, h4, _⟩
  · rw [h1] at hr
    simp only [Bool.false_eq_true, if_false] at hr h4
    rw [h4]
    injection hr with hv
    rw [hv]
  · exact absurd h6 (h2 e1 h5)
  · exact absurd h3 (h5 e0 h2)
  · have := entry_eq_of_key hst.2.2 h2 h5 (h3.trans h6.symm)
    subst this
    rw [h1] at hr
    simp only [Bool.false_eq_true, if_false] at hr h4
    rw [h4]
    injection hr with hv
    rw [hv]
/-- Over whatever leaves the blocks of the world as they are. -/
theorem groups_below (h : w.ownsGroups P k base e q b n D) (hb : Below w.heap.size w w') : w'.ownsGroups P k base e q b n D :=
  h.kept (row := none) ⟨hb.os, hb.tape, hb.output, hb.size, fun i hi _ => hb.block i hi⟩ (by simp) (fun es clock _ x _ => by cases x.val.ownBlock <;> simp)
/-- The keys met so far: no key twice; a key is among them just where the map has it and it is no longer to come. -/
def CollI (D : DataW H) (left : Lit → Bool) (ks : List Int) : Prop := ks.Nodup ∧ ∀ x, x ∈ ks ↔ (Maps.has D (kI x) = true ∧ left (kI x) = false)
theorem CollI.start (D : DataW H) : CollI D (Maps.has D) [] := ⟨List.nodup_nil, fun x => by cases Maps.has D (kI x) <;> simp⟩
theorem CollI.step {left : Lit → Bool} {ks : List Int} (h : CollI D left ks) {x : Int} {y : DataW H} (hlk : left (kI x) = true) (hat : ∀ zd, D.atKey (kI x) zd = y) : CollI D (fun z => left z && !z.sameKey (kI x)) (ks ++ [x]) := by
  have hhas : Maps.has D (kI x) = true := has_true_of_atKey hat
  have hnew : x ∉ ks := fun hx => by have := ((h.2 x).1 hx).2; rw [hlk] at this; cases this
  refine ⟨List.nodup_append.2 ⟨h.1, by simp, fun a ha b hb => by simp at hb; subst hb; exact fun e => hnew (e ▸ ha)⟩, fun y => ?_⟩
  by_cases hy : y = x
  · subst hy; simp [hhas, Lit.sameKey]
  · have : (kI y).sameKey (kI x) = false := by simp [Lit.sameKey, hy]
    simp [h.2 y, hy, this]
theorem nodup_eraseDups : ∀ (n : Nat) (l : List Int), l.length ≤ n → l.eraseDups.Nodup
  | _, [], _ => by simp
  | n + 1, a :: l, h => by
    rw [List.eraseDups_cons, List.nodup_cons]
    refine ⟨?_, nodup_eraseDups n _ (by have := List.length_filter_le (fun b => !b == a) l; simp only [List.length_cons] at h; omega)⟩
    rw [List.mem_eraseDups]
    simp
theorem CollI.sorted {left : Lit → Bool} {ks : List Int} {l : List R} (h : CollI D left ks) (G : GInv D l) (hl : ∀ kl, left kl = false) : (ks.mergeSort fun x y => decide (x ≤ y)) = keysOf l := by
  have hp : ks.Perm (l.map (·.f0)).eraseDups := (List.perm_ext_iff_of_nodup h.1 (nodup_eraseDups _ _ (Nat.le_refl _))).2 fun x => by
    rw [h.2 x, hl, List.mem_eraseDups, ← G.2.2 x]
    simp
  have tr : ∀ a b c : Int, decide (a ≤ b) = true → decide (b ≤ c) = true → decide (a ≤ c) = true := fun a b c h1 h2 => by simp only [decide_eq_true_eq] at *; omega
  have tot : ∀ a b : Int, (decide (a ≤ b) || decide (b ≤ a)) = true := fun a b => by simp only [Bool.or_eq_true, decide_eq_true_eq]; omega
  unfold keysOf
  refine List.Perm.eq_of_pairwise (le := fun a b => decide (a ≤ b) = true) (fun a b _ _ h1 h2 => ?_) (List.pairwise_mergeSort tr tot ks) (List.pairwise_mergeSort tr tot _) (((List.mergeSort_perm ks _).trans hp).trans (List.mergeSort_perm _ _).symm)
  simp only [decide_eq_true_eq] at h1 h2
  omega
end
theorem mem_keysOf (l : List R) (x : Int) : x ∈ keysOf l ↔ x ∈ l.map (·.f0) := by
  unfold keysOf
  rw [(List.mergeSort_perm _ _).mem_iff, List.mem_eraseDups]
theorem keysOf_length (l : List R) : (keysOf l).length ≤ l.length := by
  have h : ∀ (n : Nat) (l : List Int), l.length ≤ n → l.eraseDups.length ≤ l.length := by
    intro n
    induction n with
    | zero => intro l h; cases l <;> simp_all
    | succ n ih =>
      intro l h
      cases l with
      | nil => simp
      | cons a l =>
        rw [List.eraseDups_cons, List.length_cons, List.length_cons]
        have h1 := List.length_filter_le (fun b => !b == a) l
        have h2 := ih (l.filter fun b => !b == a) (by simp only [List.length_cons] at h; omega)
        omega
  unfold keysOf
  rw [List.length_mergeSort]
  exact Nat.le_trans (h _ _ (Nat.le_refl _)) (by simp)
theorem valsOf_ne {l : List R} {x : Int} (h : x ∈ keysOf l) : valsOf x l ≠ [] := by
  rw [mem_keysOf] at h
  obtain ⟨r, hr, rfl⟩ := List.mem_map.1 h
  unfold valsOf
  intro h0
  have : r ∈ l.filter fun y => decide (y.f0 = r.f0) := List.mem_filter.2 ⟨hr, by simp⟩
  rw [List.map_eq_nil_iff] at h0
  rw [h0] at this
  cases this
def sumV (zs : List Int) : Int := zs.foldl (fun a v => wrap64 (a + v)) 0
def foldV (kind : Int) (zs : List Int) : Int := if kind = 12 then zs.length else if kind = 13 then Lib.minOf zs else if kind = 14 then Lib.maxOf zs else sumV zs
theorem fold_l (l : List Int) (hl : l.length ≤ 1000000) : ∀ (xs pre : List Int) (a : Int) (k : Nat), l = pre ++ xs → xs.length < k → oper_fold.l0 k a l (l.length : Int) (pre.length : Int) = some (xs.foldl (fun a v => wrap64 (a + v)) a)
  | [], pre, a, k, h, hk => by
    obtain ⟨k, rfl⟩ : ∃ j, k = j + 1 := ⟨k - 1, by simp only [List.length_nil] at hk; omega⟩
    subst h
    simp [oper_fold.l0]
  | x :: t, pre, a, k, h, hk => by
    have hlen : l.length = pre.length + (t.length + 1) := by rw [h, List.length_append, List.length_cons]
    obtain ⟨k, rfl⟩ : ∃ j, k = j + 1 := ⟨k - 1, by simp only [List.length_cons] at hk; omega⟩
    rw [oper_fold.l0, if_pos (by omega), if_pos (by omega), if_pos (by omega)]
    have hx : rd l (pre.length : Int) = x := by rw [h]; simp [rd]
    have hw : wrap64 ((pre.length : Int) + 1) = ((pre ++ [x]).length : Int) := by rw [Pl.w64 (by omega) (by omega)]; simp
    rw [hx, hw, fold_l l hl t (pre ++ [x]) _ k (by rw [h]; simp) (by simp only [List.length_cons] at hk; omega)]
    rfl
theorem fold_f (kind : Int) (l : List Int) (h0 : l ≠ []) (hl : l.length ≤ 1000000) : oper_fold.f 1000001 kind l = some (foldV kind l) := by
  have h1 : 0 < l.length := by cases l <;> simp_all
  unfold oper_fold.f foldV Ext.slices_Min.f Ext.slices_Max.f
  split
  · rfl
  · split
    · rw [if_pos ⟨h1, hl⟩]; rfl
    · split
      · rw [if_pos ⟨h1, hl⟩]; rfl
      · exact fold_l l hl l [] 0 1000001 rfl (by omega)
def foldsF (kind : Int) (l : List R) : List R := (keysOf l).map fun x => ⟨x, foldV kind (valsOf x l)⟩
end Go.Proofs.Ytogainbkidgkhaa.F12
