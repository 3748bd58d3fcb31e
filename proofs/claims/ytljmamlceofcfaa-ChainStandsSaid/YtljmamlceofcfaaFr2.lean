import Derived.Test.YtljmamlceofcfaaProg
section
/- Plain: what is least of a list, in order (the frontier of times), over any order. No program in sight. -/
namespace Go.Proofs.Ytljmamlceofcfaa.Fr
set_option linter.unusedVariables false
/-- le: is not behind; lt: the order of writing; ok: such as may stand in a frontier. -/
structure Th {R : Type} (le lt : R → R → Bool) (ok : R → Prop) : Prop where
  refl : ∀ x, ok x → le x x = true
  trans : ∀ x y z, le x y = true → le y z = true → le x z = true
  irrefl : ∀ x, lt x x = false
  ltrans : ∀ x y z, lt x y = true → lt y z = true → lt x z = true
  total : ∀ x y, lt x y = false → lt y x = false → x = y
  lelt : ∀ x y, ok x → ok y → le x y = true → x = y ∨ lt x y = true
variable {R : Type} {le lt : R → R → Bool} {ok : R → Prop}
def srt (lt : R → R → Bool) (l : List R) : List R := l.mergeSort fun a b => !lt b a
def least (le : R → R → Bool) : List R → List R → List R
  | out, [] => out
  | out, t :: r => if out.any (fun x => le x t) then least le out r else least le (out ++ [t]) r
def front (le lt : R → R → Bool) (l : List R) : List R := least le [] (srt lt l)
abbrev Srt (lt : R → R → Bool) (l : List R) : Prop := l.Pairwise fun a b => lt a b = true
def IsFront (le lt : R → R → Bool) (l f : List R) : Prop := Srt lt f ∧ ∀ t, t ∈ f ↔ (t ∈ l ∧ ∀ x, x ∈ l → le x t = true → x = t)
theorem Th.asymm (T : Th le lt ok) {x y : R} (h : lt x y = true) : lt y x = false := by
  cases e : lt y x with
  | false => rfl
  | true =>
    have := T.ltrans _ _ _ h e
    rw [T.irrefl] at this
    cases this
theorem srt_perm (l : List R) : (srt lt l).Perm l := List.mergeSort_perm _ _
theorem mem_srt {l : List R} {x : R} : x ∈ srt lt l ↔ x ∈ l := (srt_perm l).mem_iff
theorem Th.srt_le (T : Th le lt ok) (l : List R) : (srt lt l).Pairwise fun a b => lt b a = false := by
  have tr : ∀ a b c : R, (!lt b a) = true → (!lt c b) = true → (!lt c a) = true := fun a b c h1 h2 => by
    simp only [Bool.not_eq_true'] at *
    cases e : lt c a with
    | false => rfl
    | true =>
      cases e2 : lt a b with
      | true => have := T.ltrans _ _ _ e e2; rw [h2] at this; cases this
      | false =>
        obtain rfl := T.total _ _ e2 h1
        rw [h2] at e; cases e
  have tot : ∀ a b : R, ((!lt b a) || (!lt a b)) = true := fun a b => by
    cases e : lt b a with
    | false => rfl
    | true => rw [T.asymm e]; rfl
  refine List.Pairwise.imp (fun h => ?_) (List.pairwise_mergeSort tr tot l)
  simpa using h
theorem Th.srt_of_perm (T : Th le lt ok) {x y : List R} (h : x.Perm y) : srt lt x = srt lt y :=
  List.Perm.eq_of_pairwise (le := fun a b => lt b a = false) (fun a b _ _ h1 h2 => T.total a b h2 h1) (T.srt_le x) (T.srt_le y) (((srt_perm x).trans h).trans (srt_perm y).symm)
theorem Th.front_perm (T : Th le lt ok) {x y : List R} (h : x.Perm y) : front le lt x = front le lt y := by
  unfold front
  rw [T.srt_of_perm h]
/-- The one list in order with these members. -/
theorem Th.srt_ext (T : Th le lt ok) : ∀ {f g : List R}, Srt lt f → Srt lt g → (∀ t, t ∈ f ↔ t ∈ g) → f = g
  | [], [], _, _, _ => rfl
  | [], b :: g, _, _, h => by have := (h b).2 (by simp); cases this
  | a :: f, [], _, _, h => by have := (h a).1 (by simp); cases this
  | a :: f, b :: g, hf, hg, h => by
    rw [Srt, List.pairwise_cons] at hf hg
    have hab : a = b := by
      rcases List.mem_cons.1 ((h a).1 (by simp)) with e | e
      · exact e
      · rcases List.mem_cons.1 ((h b).2 (by simp)) with e2 | e2
        · exact e2.symm
        · have h1 := hg.1 _ e
          have h2 := hf.1 _ e2
          rw [T.asymm h1] at h2
          cases h2
    subst hab
    have hn1 : a ∉ f := fun e => by have := hf.1 _ e; rw [T.irrefl] at this; cases this
    have hn2 : a ∉ g := fun e => by have := hg.1 _ e; rw [T.irrefl] at this; cases this
    rw [T.srt_ext hf.2 hg.2 fun t => ?_]
    constructor
    · intro ht
      rcases List.mem_cons.1 ((h t).1 (List.mem_cons_of_mem _ ht)) with e | e
      · subst e; exact absurd ht hn1
      · exact e
    · intro ht
      rcases List.mem_cons.1 ((h t).2 (List.mem_cons_of_mem _ ht)) with e | e
      · subst e; exact absurd ht hn2
      · exact e
theorem Th.front_unique (T : Th le lt ok) {l f g : List R} (hf : IsFront le lt l f) (hg : IsFront le lt l g) : f = g := T.srt_ext hf.1 hg.1 fun t => (hf.2 t).trans (hg.2 t).symm
theorem Th.anti (T : Th le lt ok) {x y : R} (hx : ok x) (hy : ok y) (h1 : le x y = true) (h2 : le y x = true) : x = y := by
  rcases T.lelt _ _ hx hy h1 with e | e
  · exact e
  · rcases T.lelt _ _ hy hx h2 with e2 | e2
    · exact e2.symm
    · rw [T.asymm e] at e2; cases e2
/-- least: what it holds, and that it is sound; p is what was seen. -/
theorem Th.least_spec (T : Th le lt ok) : ∀ (r p out : List R), (∀ x, x ∈ p ++ r → ok x) → (p ++ r).Pairwise (fun a b => lt b a = false) → Srt lt out → (∀ t, t ∈ out ↔ (t ∈ p ∧ ∀ x, x ∈ p → le x t = true → x = t)) → (∀ x, x ∈ p → ∃ y, y ∈ out ∧ le y x = true) →
    IsFront le lt (p ++ r) (least le out r)
  | [], p, out, hok, hs, ho, hm, _ => by
    rw [List.append_nil]
    exact ⟨ho, hm⟩
  | t :: r, p, out, hok, hs, ho, hm, hc => by
    have hpt : ∀ x, x ∈ p → lt t x = false := fun x hx => (List.pairwise_append.1 hs).2.2 x hx t (by simp)
    have hokt : ok t := hok t (by simp)
    have e : p ++ t :: r = (p ++ [t]) ++ r := by simp
    rw [least]
    split
    · rename_i h
      obtain ⟨y, hy, hyt⟩ := List.any_eq_true.1 h
      rw [e]
      refine T.least_spec r (p ++ [t]) out (by rw [← e]; exact hok) (by rw [← e]; exact hs) ho (fun x => ?_) (fun x hx => ?_)
      · rw [hm]
        constructor
        · rintro ⟨hx, hx2⟩
          refine ⟨by simp [hx], fun z hz hzx => ?_⟩
          rcases List.mem_append.1 hz with hz | hz
          · exact hx2 z hz hzx
          · obtain rfl : z = t := by simpa using hz
            rcases T.lelt _ _ hokt (hok x (by simp [hx])) hzx with e2 | e2
            · exact e2
            · rw [hpt x hx] at e2; cases e2
        · rintro ⟨hx, hx2⟩
          rcases List.mem_append.1 hx with hx | hx
          · exact ⟨hx, fun z hz => hx2 z (by simp [hz])⟩
          · obtain rfl : x = t := by simpa using hx
            have := hx2 y (by simp [((hm y).1 hy).1]) hyt
            subst this
            exact (hm _).1 hy
      · rcases List.mem_append.1 hx with hx | hx
        · exact hc x hx
        · obtain rfl : x = t := by simpa using hx
          exact ⟨y, hy, hyt⟩
    · rename_i h
      have hn : ∀ y, y ∈ out → le y t = false := fun y hy => by
        cases e2 : le y t with
        | false => rfl
        | true => exact absurd (List.any_eq_true.2 ⟨y, hy, e2⟩) h
      have hnp : ∀ y, y ∈ p → le y t = false := fun y hy => by
        cases e2 : le y t with
        | false => rfl
        | true =>
          obtain ⟨z, hz, hzy⟩ := hc y hy
          have := hn z hz
          rw [T.trans _ _ _ hzy e2] at this
          cases this
      rw [e]
      refine T.least_spec r (p ++ [t]) (out ++ [t]) (by rw [← e]; exact hok) (by rw [← e]; exact hs) ?_ (fun x => ?_) (fun x hx => ?_)
      · rw [Srt, List.pairwise_append]
        refine ⟨ho, List.pairwise_singleton _ _, fun a ha b hb => ?_⟩
        obtain rfl : b = t := by simpa using hb
        have ha' := ((hm a).1 ha).1
        cases e2 : lt a b with
        | true => rfl
        | false =>
          have := T.total _ _ e2 (hpt a ha')
          subst this
          have := hn a ha
          rw [T.refl _ hokt] at this
          cases this
      · rw [List.mem_append, hm]
        constructor
        · rintro (⟨hx, hx2⟩ | hx)
          · refine ⟨by simp [hx], fun z hz hzx => ?_⟩
            rcases List.mem_append.1 hz with hz | hz
            · exact hx2 z hz hzx
            · obtain rfl : z = t := by simpa using hz
              rcases T.lelt _ _ hokt (hok x (by simp [hx])) hzx with e2 | e2
              · exact e2
              · rw [hpt x hx] at e2; cases e2
          · obtain rfl : x = t := by simpa using hx
            refine ⟨by simp, fun z hz hzx => ?_⟩
            rcases List.mem_append.1 hz with hz | hz
            · rw [hnp z hz] at hzx; cases hzx
            · simpa using hz
        · rintro ⟨hx, hx2⟩
          rcases List.mem_append.1 hx with hx | hx
          · exact .inl ⟨hx, fun z hz => hx2 z (by simp [hz])⟩
          · exact .inr hx
      · rcases List.mem_append.1 hx with hx | hx
        · obtain ⟨y, hy, hyx⟩ := hc x hx
          exact ⟨y, by simp [hy], hyx⟩
        · obtain rfl : x = t := by simpa using hx
          exact ⟨x, by simp, T.refl _ hokt⟩
theorem Th.front_spec (T : Th le lt ok) (l : List R) (h : ∀ x, x ∈ l → ok x) : IsFront le lt l (front le lt l) := by
  have := T.least_spec (srt lt l) [] [] (fun x hx => h x (mem_srt.1 (by simpa using hx))) (by simpa using T.srt_le l) .nil (by simp) (by simp)
  rw [List.nil_append] at this
  exact ⟨this.1, fun t => (this.2 t).trans (by simp only [mem_srt])⟩
theorem least_sub : ∀ (r out : List R) (x : R), x ∈ least le out r → x ∈ out ∨ x ∈ r
  | [], out, x, h => .inl h
  | t :: r, out, x, h => by
    rw [least] at h
    split at h
    · exact (least_sub r out x h).imp id (List.mem_cons_of_mem _)
    · rcases least_sub r _ x h with h | h
      · rcases List.mem_append.1 h with h | h
        · exact .inl h
        · exact .inr (by simp at h; simp [h])
      · exact .inr (List.mem_cons_of_mem _ h)
theorem front_sub {l : List R} {x : R} (h : x ∈ front le lt l) : x ∈ l := by
  rcases least_sub _ _ _ h with h | h
  · cases h
  · exact mem_srt.1 h
theorem least_length : ∀ (r out : List R), (least le out r).length ≤ out.length + r.length
  | [], out => by simp [least]
  | t :: r, out => by
    rw [least]
    split
    · have := least_length r out; simp; omega
    · have := least_length r (out ++ [t]); simp at this ⊢; omega
theorem front_length (l : List R) : (front le lt l).length ≤ l.length := by
  have := least_length (le := le) (srt lt l) []
  unfold front
  have h2 := (srt_perm (lt := lt) l).length_eq
  simp at this
  omega
def holds (le : R → R → Bool) (l : List R) (t : R) : Bool := l.any fun x => le x t
def leF (le : R → R → Bool) (a b : List R) : Bool := b.all fun t => holds le a t
theorem holds_iff {l : List R} {t : R} : holds le l t = true ↔ ∃ x, x ∈ l ∧ le x t = true := by
  unfold holds
  rw [List.any_eq_true]
theorem leF_iff {a b : List R} : leF le a b = true ↔ ∀ t, t ∈ b → holds le a t = true := by
  unfold leF
  rw [List.all_eq_true]
/-- Below each member stands one of the frontier. -/
theorem Th.below (T : Th le lt ok) {l f : List R} (hok : ∀ x, x ∈ l → ok x) (hf : IsFront le lt l f) : ∀ x, x ∈ l → ∃ y, y ∈ f ∧ le y x = true := by
  intro x hx
  have h2 := T.front_unique hf (T.front_spec l hok)
  rw [h2]
  -- by the run of least
  have gen : ∀ (r p out : List R), (∀ x, x ∈ p ++ r → ok x) → (∀ x, x ∈ p → ∃ y, y ∈ out ∧ le y x = true) → ∀ x, x ∈ p ++ r → ∃ y, y ∈ least le out r ∧ le y x = true := by
    intro r
    induction r with
    | nil => intro p out _ hc x hx; rw [List.append_nil] at hx; exact hc x hx
    | cons t r ih =>
      intro p out hok hc x hx
      have e : p ++ t :: r = (p ++ [t]) ++ r := by simp
      rw [e] at hx hok
      rw [least]
      split
      · rename_i h
        obtain ⟨y, hy, hyt⟩ := List.any_eq_true.1 h
        refine ih (p ++ [t]) out hok (fun z hz => ?_) x hx
        rcases List.mem_append.1 hz with hz | hz
        · exact hc z hz
        · obtain rfl : z = t := by simpa using hz
          exact ⟨y, hy, hyt⟩
      · refine ih (p ++ [t]) (out ++ [t]) hok (fun z hz => ?_) x hx
        rcases List.mem_append.1 hz with hz | hz
        · obtain ⟨y, hy, hyz⟩ := hc z hz
          exact ⟨y, by simp [hy], hyz⟩
        · obtain rfl : z = t := by simpa using hz
          exact ⟨z, by simp, T.refl _ (hok z (by simp))⟩
  exact gen (srt lt l) [] [] (fun z hz => hok z (mem_srt.1 (by simpa using hz))) (by simp) x (by simpa using mem_srt.2 hx)
theorem Th.holds_front (T : Th le lt ok) {l : List R} (hok : ∀ x, x ∈ l → ok x) (t : R) : holds le (front le lt l) t = holds le l t := by
  apply Bool.eq_iff_iff.2
  rw [holds_iff, holds_iff]
  constructor
  · rintro ⟨x, hx, h⟩
    exact ⟨x, front_sub hx, h⟩
  · rintro ⟨x, hx, h⟩
    obtain ⟨y, hy, hyx⟩ := T.below hok (T.front_spec l hok) x hx
    exact ⟨y, hy, T.trans _ _ _ hyx h⟩
/-- A frontier is its own frontier. -/
theorem Th.front_self (T : Th le lt ok) {l f : List R} (hok : ∀ x, x ∈ l → ok x) (hf : IsFront le lt l f) : IsFront le lt f f :=
  ⟨hf.1, fun t => ⟨fun ht => ⟨ht, fun x hx hxt => ((hf.2 t).1 ht).2 x ((hf.2 x).1 hx).1 hxt⟩, fun h => h.1⟩⟩
theorem Th.front_front (T : Th le lt ok) {l : List R} (hok : ∀ x, x ∈ l → ok x) : front le lt (front le lt l) = front le lt l :=
  T.front_unique (T.front_spec _ fun x hx => hok x (front_sub hx)) (T.front_self hok (T.front_spec l hok))
theorem Th.leF_refl (T : Th le lt ok) {a : List R} (h : ∀ x, x ∈ a → ok x) : leF le a a = true := leF_iff.2 fun t ht => holds_iff.2 ⟨t, ht, T.refl _ (h t ht)⟩
theorem Th.holds_leF (T : Th le lt ok) {a b : List R} (h : leF le a b = true) {t : R} (ht : holds le b t = true) : holds le a t = true := by
  obtain ⟨x, hx, hxt⟩ := holds_iff.1 ht
  obtain ⟨y, hy, hyx⟩ := holds_iff.1 (leF_iff.1 h x hx)
  exact holds_iff.2 ⟨y, hy, T.trans _ _ _ hyx hxt⟩
theorem Th.leF_trans (T : Th le lt ok) {a b c : List R} (h1 : leF le a b = true) (h2 : leF le b c = true) : leF le a c = true := leF_iff.2 fun t ht => T.holds_leF h1 (leF_iff.1 h2 t ht)
theorem Th.leF_anti (T : Th le lt ok) {a b : List R} (ha : ∀ x, x ∈ a → ok x) (hb : ∀ x, x ∈ b → ok x) (fa : IsFront le lt a a) (fb : IsFront le lt b b) (h1 : leF le a b = true) (h2 : leF le b a = true) : a = b := by
  have one : ∀ {a b : List R}, (∀ x, x ∈ a → ok x) → (∀ x, x ∈ b → ok x) → IsFront le lt a a → leF le a b = true → leF le b a = true → ∀ t, t ∈ a → t ∈ b := by
    intro a b ha hb fa h1 h2 t ht
    obtain ⟨y, hy, hyt⟩ := holds_iff.1 (leF_iff.1 h2 t ht)
    obtain ⟨z, hz, hzy⟩ := holds_iff.1 (leF_iff.1 h1 y hy)
    have := ((fa.2 t).1 ht).2 z hz (T.trans _ _ _ hzy hyt)
    subst this
    have := T.anti (ha _ ht) (hb _ hy) hzy hyt
    subst this
    exact hy
  exact T.srt_ext fa.1 fb.1 fun t => ⟨one ha hb fa h1 h2 t, one hb ha fb h2 h1 t⟩
end Go.Proofs.Ytljmamlceofcfaa.Fr
end
section
/- Plain: the frontier made by putting each least item where it belongs: the same. -/
namespace Go.Proofs.Ytljmamlceofcfaa.Fr
set_option linter.unusedVariables false
variable {R : Type} {le lt : R → R → Bool} {ok : R → Prop}
/-- From a place downward: where an item belongs in a list in order. -/
def pos (lt : R → R → Bool) (z : R) (out : List R) (t : R) : Nat → Nat
  | 0 => 0
  | a + 1 => if lt t (out.getD a z) = true then pos lt z out t a else a + 1
theorem pos_le (z : R) (out : List R) (t : R) : ∀ n, pos lt z out t n ≤ n
  | 0 => Nat.le_refl _
  | a + 1 => by
    rw [pos]
    split
    · exact Nat.le_succ_of_le (pos_le z out t a)
    · exact Nat.le_refl _
theorem pos_above (z : R) (out : List R) (t : R) : ∀ n j, pos lt z out t n ≤ j → j < n → lt t (out.getD j z) = true
  | 0, j, _, h => absurd h (by omega)
  | a + 1, j, h, hj => by
    rw [pos] at h
    split at h
    · rename_i hc
      by_cases e : j = a
      · subst e; exact hc
      · exact pos_above z out t a j h (by omega)
    · omega
theorem pos_below (z : R) (out : List R) (t : R) : ∀ n, 0 < pos lt z out t n → lt t (out.getD (pos lt z out t n - 1) z) = false
  | 0, h => by simp [pos] at h
  | a + 1, h => by
    rw [pos] at h ⊢
    split at h
    · rename_i hc
      rw [if_pos hc]
      exact pos_below z out t a h
    · rename_i hc
      rw [if_neg hc]
      simpa using hc
def ins (lt : R → R → Bool) (z : R) (out : List R) (t : R) : List R := out.take (pos lt z out t out.length) ++ t :: out.drop (pos lt z out t out.length)
theorem mem_ins {z : R} {out : List R} {t x : R} : x ∈ ins lt z out t ↔ x = t ∨ x ∈ out := by
  unfold ins
  have h := List.take_append_drop (pos lt z out t out.length) out
  conv => rhs; rw [← h]
  simp only [List.mem_append, List.mem_cons]
  constructor
  · rintro (h | h | h)
    · exact .inr (.inl h)
    · exact .inl h
    · exact .inr (.inr h)
  · rintro (h | h | h)
    · exact .inr (.inl h)
    · exact .inl h
    · exact .inr (.inr h)
theorem Th.ins_srt (T : Th le lt ok) {z : R} {out : List R} {t : R} (ho : Srt lt out) (hn : t ∉ out) : Srt lt (ins lt z out t) := by
  unfold ins
  have hp := pos_le (lt := lt) z out t out.length
  have ha := pos_above (lt := lt) z out t out.length
  have hb := pos_below (lt := lt) z out t out.length
  generalize pos lt z out t out.length = p at hp ha hb
  have hS := ho
  rw [Srt, List.pairwise_iff_getElem] at hS
  have below : ∀ x, x ∈ out.take p → lt x t = true := fun x hx => by
    obtain ⟨i, hi, rfl⟩ := List.mem_iff_getElem.1 hx
    have hip : i < p := by rw [List.length_take] at hi; omega
    rw [List.getElem_take]
    have h1 := hb (by omega)
    rw [List.getD_eq_getElem?_getD, List.getElem?_eq_getElem (by omega), Option.getD_some] at h1
    have h2 : lt out[p - 1] t = true := by
      cases e : lt out[p - 1] t with
      | true => rfl
      | false => exact absurd (by rw [T.total _ _ h1 e]; exact List.getElem_mem _) hn
    by_cases e : i = p - 1
    · subst e; exact h2
    · exact T.ltrans _ _ _ (hS i (p - 1) (by omega) (by omega) (by omega)) h2
  have above : ∀ x, x ∈ out.drop p → lt t x = true := fun x hx => by
    obtain ⟨i, hi, rfl⟩ := List.mem_iff_getElem.1 hx
    rw [List.getElem_drop]
    have := ha (p + i) (by omega) (by rw [List.length_drop] at hi; omega)
    rwa [List.getD_eq_getElem?_getD, List.getElem?_eq_getElem (by rw [List.length_drop] at hi; omega), Option.getD_some] at this
  rw [Srt, List.pairwise_append, List.pairwise_cons]
  refine ⟨ho.sublist (List.take_sublist _ _), ⟨above, ho.sublist (List.drop_sublist _ _)⟩, fun a ha' b hb' => ?_⟩
  rcases List.mem_cons.1 hb' with rfl | hb'
  · exact below a ha'
  · exact T.ltrans _ _ _ (below a ha') (above b hb')
section
variable [DecidableEq R]
/-- Is item i the first of its like, and none else behind it? -/
def firstLeast (le : R → R → Bool) (z : R) (l : List R) (i : Nat) : Bool := (List.range l.length).all fun k => if l.getD k z = l.getD i z then decide (i ≤ k) else !le (l.getD k z) (l.getD i z)
def made (le lt : R → R → Bool) (z : R) (l : List R) : Nat → List R
  | 0 => []
  | i + 1 => if firstLeast le z l i then ins lt z (made le lt z l i) (l.getD i z) else made le lt z l i
omit [DecidableEq R] in
theorem getD_lt {z : R} {l : List R} {i : Nat} (h : i < l.length) : l.getD i z = l[i] := by
  rw [List.getD_eq_getElem?_getD, List.getElem?_eq_getElem h, Option.getD_some]
theorem firstLeast_iff {z : R} {l : List R} {i : Nat} (hi : i < l.length) : firstLeast le z l i = true ↔ (∀ k (h : k < l.length), l[k] = l[i] → i ≤ k) ∧ ∀ x, x ∈ l → le x l[i] = true → x = l[i] := by
  unfold firstLeast
  rw [List.all_eq_true, getD_lt hi]
  constructor
  · intro h
    refine ⟨fun k hk e => ?_, fun x hx hle => ?_⟩
    · have := h k (List.mem_range.2 hk)
      rw [getD_lt hk, if_pos e] at this
      simpa using this
    · obtain ⟨k, hk, rfl⟩ := List.mem_iff_getElem.1 hx
      have := h k (List.mem_range.2 hk)
      rw [getD_lt hk] at this
      by_cases e : l[k] = l[i]
      · exact e
      · rw [if_neg e, hle] at this
        cases this
  · rintro ⟨h1, h2⟩ k hk
    have hk := List.mem_range.1 hk
    rw [getD_lt hk]
    by_cases e : l[k] = l[i]
    · rw [if_pos e]
      simpa using h1 k hk e
    · rw [if_neg e]
      cases hle : le l[k] l[i] with
      | false => rfl
      | true => exact absurd (h2 _ (List.getElem_mem _) hle) e
theorem Th.made_spec (T : Th le lt ok) (z : R) (l : List R) : ∀ n, n ≤ l.length → Srt lt (made le lt z l n) ∧ ∀ t, t ∈ made le lt z l n ↔ ((∃ i, ∃ h : i < l.length, i < n ∧ l[i] = t) ∧ ∀ x, x ∈ l → le x t = true → x = t)
  | 0, _ => ⟨.nil, fun t => ⟨(fun h => by cases h), (by rintro ⟨⟨i, _, h, _⟩, _⟩; omega)⟩⟩
  | n + 1, hn => by
    obtain ⟨h1, h2⟩ := T.made_spec z l n (by omega)
    have hnl : n < l.length := by omega
    have hg := getD_lt (z := z) hnl
    rw [made]
    by_cases hf : firstLeast le z l n = true
    · rw [if_pos hf, hg]
      obtain ⟨f1, f2⟩ := (firstLeast_iff hnl).1 hf
      have hnm : l[n] ∉ made le lt z l n := fun h => by
        obtain ⟨⟨i, hi, hin, e⟩, _⟩ := (h2 _).1 h
        have := f1 i hi e
        omega
      refine ⟨T.ins_srt h1 hnm, fun t => ?_⟩
      rw [mem_ins, h2]
      constructor
      · rintro (rfl | ⟨⟨i, hi, hin, e⟩, h4⟩)
        · exact ⟨⟨n, hnl, by omega, rfl⟩, f2⟩
        · exact ⟨⟨i, hi, by omega, e⟩, h4⟩
      · rintro ⟨⟨i, hi, hin, e⟩, h4⟩
        by_cases hin' : i = n
        · subst hin'; exact .inl e.symm
        · exact .inr ⟨⟨i, hi, by omega, e⟩, h4⟩
    · rw [if_neg hf]
      refine ⟨h1, fun t => ?_⟩
      rw [h2]
      constructor
      · rintro ⟨⟨i, hi, hin, e⟩, h4⟩
        exact ⟨⟨i, hi, by omega, e⟩, h4⟩
      · rintro ⟨⟨i, hi, hin, e⟩, h4⟩
        by_cases hin' : i = n
        · subst hin'
          subst e
          -- not the first of its like
          have : ¬ ∀ k (h : k < l.length), l[k] = l[i] → i ≤ k := fun q => hf ((firstLeast_iff hi).2 ⟨q, h4⟩)
          refine ⟨Classical.byContradiction fun q => this fun k hk e => ?_, h4⟩
          exact Nat.le_of_not_lt fun hki => q ⟨k, hk, hki, e⟩
        · exact ⟨⟨i, hi, by omega, e⟩, h4⟩
theorem Th.made_front (T : Th le lt ok) (z : R) (l : List R) (hok : ∀ x, x ∈ l → ok x) : made le lt z l l.length = front le lt l := by
  obtain ⟨h1, h2⟩ := T.made_spec z l l.length (Nat.le_refl _)
  refine T.front_unique (l := l) ⟨h1, fun t => (h2 t).trans ?_⟩ (T.front_spec l hok)
  constructor
  · rintro ⟨⟨i, hi, _, e⟩, h4⟩
    exact ⟨e ▸ List.getElem_mem _, h4⟩
  · rintro ⟨ht, h4⟩
    obtain ⟨i, hi, e⟩ := List.mem_iff_getElem.1 ht
    exact ⟨⟨i, hi, hi, e⟩, h4⟩
theorem made_length (le lt : R → R → Bool) (z : R) (l : List R) : ∀ n, (made le lt z l n).length ≤ n
  | 0 => Nat.le_refl _
  | n + 1 => by
    have := made_length le lt z l n
    rw [made]
    split
    · unfold ins
      have hp := pos_le (lt := lt) z (made le lt z l n) (l.getD n z) (made le lt z l n).length
      simp only [List.length_append, List.length_cons, List.length_take, List.length_drop]
      omega
    · omega
end
end Go.Proofs.Ytljmamlceofcfaa.Fr
end
