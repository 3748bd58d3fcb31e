import Derived.Test.YtljmamlceofcfaaVMore
import Derived.WideShapes
import Derived.ChangeArms
import Derived.OpenShut
import Derived.DataReads
import Derived.Carry
/- How an argument that reads as data lies in memory: kind by kind, over whatever program. -/
namespace Go.Proofs.Ytljmamlceofcfaa.Open
open Go.RowKit Go.WideShapes Go.Proofs.YtljmamlceofcfaaW.PrintWords Go.Proofs.YtljmamlceofcfaaW.PrintLast Go.Proofs.YtljmamlceofcfaaW.PrintMore

/-- What reads as data of type t is of kind d, and ok. -/
def Opens {α : Type} (P : Program) (t : TypeId) (d : Kd α) (ok : α → Prop) : Prop :=
  ∀ {H : Type} (enc : TypeId × Value → H) (w : World) (fuel : Nat) (cs : List Value) (x : DataW H × List MemPlace), DataW.trod enc P w 0 (fun _ => true) true fuel t cs = some x → ∃ y, d.K w y cs ∧ ok y

theorem Opens.imp {α : Type} {P : Program} {t : TypeId} {d : Kd α} {ok ok' : α → Prop} (h : Opens P t d ok) (hi : ∀ x, ok x → ok' x) : Opens P t d ok' := by
  intro H enc w fuel cs x hx
  obtain ⟨y, hk, ho⟩ := h enc w fuel cs x hx
  exact ⟨y, hk, hi y ho⟩
theorem Opens.iso {α β : Type} {P : Program} {t : TypeId} {d : Kd α} {ok : α → Prop} (h : Opens P t d ok) (f : β → α) (g : α → β) (hfg : ∀ x, f (g x) = x) : Opens P t (Kd.iso d f) (fun b => ok (f b)) := by
  intro H enc w fuel cs x hx
  obtain ⟨y, hk, ho⟩ := h enc w fuel cs x hx
  exact ⟨g y, by show d.K w (f (g y)) cs; rw [hfg]; exact hk, by show ok (f (g y)); rw [hfg]; exact ho⟩
theorem opens_int {P : Program} {t : TypeId} {k : IntKind} (hu : P.underlying t = some (.int k)) : Opens P t (Kd.int k) (fun n => (Lit.int k n).wf = true) := by
  intro H enc w fuel cs x h
  obtain ⟨n, rfl, _, hw⟩ := DataW.trod_int hu h
  exact ⟨n, rfl, hw⟩
theorem opens_bool {P : Program} {t : TypeId} (hu : P.underlying t = some .bool) : Opens P t Kd.bool (fun _ => True) := by
  intro H enc w fuel cs x h
  obtain ⟨n, rfl, _⟩ := DataW.trod_bool hu h
  exact ⟨n, rfl, trivial⟩
theorem opens_string {P : Program} {t : TypeId} (hu : P.underlying t = some .string) : Opens P t Kd.string (fun s => s.size ≤ 9223372036854775807) := by
  intro H enc w fuel cs x h
  obtain ⟨n, rfl, _, hw⟩ := DataW.trod_string hu h
  exact ⟨n, rfl, hw⟩

theorem choose_list {α : Type} (p : Nat → α → Prop) : ∀ n : Nat, (∀ i, i < n → ∃ x, p i x) → ∃ xs : List α, xs.length = n ∧ ∀ (j : Nat) (x : α), xs[j]? = some x → p j x
  | 0, _ => ⟨[], rfl, fun j x h => by simp at h⟩
  | n + 1, h => by
    obtain ⟨xs, hl, hx⟩ := choose_list p n (fun i hi => h i (by omega))
    obtain ⟨y, hy⟩ := h n (by omega)
    refine ⟨xs ++ [y], by simp [hl], fun j x hj => ?_⟩
    rcases Nat.lt_or_ge j n with hlt | hge
    · rw [List.getElem?_append_left (by omega)] at hj
      exact hx j x hj
    · have : j = n := by
        have := (List.getElem?_eq_some_iff.1 hj).1
        simp at this
        omega
      subst this
      rw [List.getElem?_append_right (by omega), hl] at hj
      simp at hj
      subst hj
      exact hy

theorem opens_slice {α : Type} {P : Program} {t e : TypeId} {d : Kd α} {ok : α → Prop} (hu : P.underlying t = some (.slice e)) (hs : P.cellsOf e = d.sz) (h : Opens P e d ok) :
    Opens P t (Kd.slice e d) (fun xs => xs.length ≤ 9223372036854775807 ∧ ∀ x ∈ xs, ok x) := by
  intro H enc w fuel cs x hx
  rcases DataW.trod_slice hu hx with ⟨rfl, _⟩ | ⟨a, len, cap, elems, rest, n, _, rfl, _, hb, hlc, hcm, hel, helem, _⟩
  · refine ⟨[], ⟨none, 0, rfl, Nat.le_refl _, ?_⟩, by simp⟩
    exact ⟨rfl, by simp, fun h0 => absurd h0 (by simp)⟩
  · simp only [maxLen] at hcm
    obtain ⟨xs, hl, hxs⟩ := choose_list (fun i x => ok x ∧ ∃ c : List Value, c.length = d.sz ∧ d.K w x c ∧ ∀ (j : Nat) (u : Value), c[j]? = some u → w.cell? (a.add (i * d.sz + j)) = some u) len (by
      intro i hi
      have h1 := helem i hi
      rw [List.getElem?_eq_getElem (by omega)] at h1
      obtain ⟨c, hc, hc2⟩ := Option.bind_eq_some_iff.1 h1
      obtain ⟨y, hk, ho⟩ := h enc w n c _ hc2
      refine ⟨y, ho, c, d.K_len hk, hk, fun j u hj => ?_⟩
      have h3 := World.cells?_some hc
      rw [hs] at h3
      have hjl := (List.getElem?_eq_some_iff.1 hj).1
      rw [d.K_len hk] at hjl
      rw [← Addr.add_add, h3.2.2 j hjl]
      exact hj)
    subst hl
    refine ⟨xs, ⟨some a, cap, rfl, hlc, rfl, by omega, fun _ => ⟨a, rfl, fun j p hj => ?_⟩⟩, by omega, fun x hx => ?_⟩
    · obtain ⟨_, c, hcl, hk, hcell⟩ := hxs j p hj
      exact ⟨c, hcl, hk, hcell⟩
    · obtain ⟨j, hj, rfl⟩ := List.getElem_of_mem hx
      exact (hxs j _ (List.getElem?_eq_getElem hj)).1

/-- The fields from offset off on. -/
def OpensF {α : Type} (P : Program) (fl : List (Nat × TypeId)) (off : Nat) (d : Kd α) (ok : α → Prop) : Prop :=
  ∀ {H : Type} (enc : TypeId × Value → H) (w : World) (fuel : Nat) (cs : List Value), (∀ p ∈ fl, ∃ x, DataW.trod enc P w 0 (fun _ => true) true fuel p.2 ((cs.drop p.1).take (P.cellsOf p.2)) = some x) → cs.length = off + d.sz → ∃ y, d.K w y (cs.drop off) ∧ ok y
theorem opensF_last {α : Type} {P : Program} {off : Nat} {t : TypeId} {d : Kd α} {ok : α → Prop} (hs : P.cellsOf t = d.sz) (h : Opens P t d ok) : OpensF P [(off, t)] off d ok := by
  intro H enc w fuel cs hf hl
  obtain ⟨x, hx⟩ := hf (off, t) (by simp)
  rw [List.take_of_length_le (by rw [List.length_drop]; simp only; omega)] at hx
  exact h enc w fuel _ _ hx
theorem opensF_cons {α β : Type} {P : Program} {off off' : Nat} {t : TypeId} {fl : List (Nat × TypeId)} {d : Kd α} {ok : α → Prop} {d' : Kd β} {ok' : β → Prop} (hs : P.cellsOf t = d.sz) (ho : off' = off + d.sz)
    (h : Opens P t d ok) (h' : OpensF P fl off' d' ok') : OpensF P ((off, t) :: fl) off (Kd.pair d d') (fun x => ok x.1 ∧ ok' x.2) := by
  subst ho
  intro H enc w fuel cs hf hl
  have hl' : cs.length = off + (d.sz + d'.sz) := hl
  obtain ⟨x, hx⟩ := hf (off, t) (by simp)
  simp only at hx
  rw [hs] at hx
  obtain ⟨y, hk, hy⟩ := h enc w fuel _ _ hx
  obtain ⟨z, hk2, hz⟩ := h' enc w fuel cs (fun p hp => hf p (List.mem_cons_of_mem _ hp)) (by omega)
  refine ⟨(y, z), ⟨(cs.drop off).take d.sz, cs.drop (off + d.sz), ?_, hk, hk2⟩, hy, hz⟩
  rw [← List.drop_drop, List.take_append_drop]
theorem opens_struct {α : Type} {P : Program} {t : TypeId} {fs : Array Field} {d : Kd α} {ok : α → Prop} (hu : P.underlying t = some (.struct fs)) (hs : P.cellsOf t = d.sz)
    (h : OpensF P (fs.toList.map fun f => (f.offset, f.type)) 0 d ok) : Opens P t d ok := by
  intro H enc w fuel cs x hx
  obtain ⟨xs, n, _, _, hl, hxl, hf⟩ := DataW.trod_struct hu hx
  have := h enc w n cs (by
    intro p hp
    obtain ⟨f, hfm, rfl⟩ := List.mem_map.1 hp
    obtain ⟨i, hi, rfl⟩ := List.getElem_of_mem hfm
    have h1 := hf i fs[i] (by simp at hi; simp [hi])
    simp at hi
    rw [List.getElem?_eq_getElem (by omega)] at h1
    exact ⟨_, h1⟩) (by omega)
  simpa using this
theorem opens_array {α : Type} {P : Program} {t e : TypeId} {n : Nat} {d : Kd α} {ok : α → Prop} (hu : P.underlying t = some (.array n e)) (hs : P.cellsOf t = d.sz)
    (h : OpensF P ((List.range n).map fun i => (i * P.cellsOf e, e)) 0 d ok) : Opens P t d ok := by
  intro H enc w fuel cs x hx
  obtain ⟨xs, m, _, _, hl, hxl, hf⟩ := DataW.trod_array hu hx
  have := h enc w m cs (by
    intro p hp
    obtain ⟨i, hi, rfl⟩ := List.mem_map.1 hp
    rw [List.mem_range] at hi
    have h1 := hf i hi
    rw [List.getElem?_eq_getElem (by omega)] at h1
    exact ⟨_, h1⟩) (by omega)
  simpa using this

/-- An argument that is a slice. -/
theorem open_slice {α : Type} {H : Type} {enc : TypeId × Value → H} {P : Program} {W : World} {t e : TypeId} {d : Kd α} {ok : List α → Prop} {v : Value} {x : DataW H} {p : List MemPlace} (hu : P.underlying t = some (.slice e))
    (h : Opens P t (Kd.slice e d) ok) {r : Reach} {b0 : Nat} (hv : Value.okWide P W r b0 t v) (hx : DataW.Trod enc P W 0 (fun _ => true) true t v x p) :
    ∃ (xs : List α) (A : Option Addr) (c : Nat), v = .slice A xs.length c ∧ xs.length ≤ c ∧ d.C W A xs.length xs ∧ ok xs := by
  obtain ⟨a, len, cap, rfl⟩ := okWide_slice hu hv
  obtain ⟨fuel, hf⟩ := hx
  obtain ⟨xs, ⟨A, c, hcs, hl, hC⟩, hok⟩ := h enc W fuel _ _ hf
  simp [Value.cells] at hcs
  obtain ⟨rfl, rfl, rfl⟩ := hcs
  exact ⟨xs, a, cap, rfl, hl, hC, hok⟩
/-- An argument that is a struct. -/
theorem open_struct {α : Type} {H : Type} {enc : TypeId × Value → H} {P : Program} {W : World} {t : TypeId} {fs : Array Field} {d : Kd α} {ok : α → Prop} {v : Value} {x : DataW H} {p : List MemPlace} (hu : P.underlying t = some (.struct fs))
    (h : Opens P t d ok) {r : Reach} {b0 : Nat} (hv : Value.okWide P W r b0 t v) (hx : DataW.Trod enc P W 0 (fun _ => true) true t v x p) :
    ∃ (y : α) (cs : List Value), v = .agg cs.toArray ∧ d.K W y cs ∧ ok y := by
  obtain ⟨cs, rfl, _⟩ := okWide_struct hu hv
  obtain ⟨fuel, hf⟩ := hx
  obtain ⟨y, hk, hok⟩ := h enc W fuel _ _ hf
  exact ⟨y, cs.toList, by simp, by simpa [Value.cells] using hk, hok⟩

/-- The argument's places, so that it reads behind the call as before. -/
theorem trod_below {H : Type} {enc : TypeId × Value → H} {P : Program} {t : TypeId} (hl : laidOutB P = true) (hr : P.readableRec t = true) (hrow : t < P.types.size) {W W' : World} {v : Value} {d : DataW H} {ps : List MemPlace}
    (h : DataW.Trod enc P W 0 (fun _ => true) true t v d ps) (hb : Below W.heap.size W W') : DataW.Trod enc P W' 0 (fun b => decide (b < W.heap.size)) true t v d ps :=
  Below.trod hl hr hrow h hb (by obtain ⟨m, hm⟩ := h; exact DataW.trod_lt m _ _ _ hm)
/-- An element of one cell, where it lies. -/
theorem at_num {k : IntKind} {w : World} {A : Option Addr} {n : Nat} {xs : List Int} (h : Kd.C (Kd.int k) w A n xs) (i : Int) (h0 : 0 ≤ i) (h1 : i < n) : ∃ ad, A = some ad ∧ w.cell? (ad.add i.toNat) = some (.int k (xs.getD i.toNat 0)) := by
  obtain ⟨ad, c, e, _, hK, hc⟩ := Kd.C_get h 0 i h0 h1
  obtain rfl : c = [.int k (xs.getD i.toNat 0)] := hK
  have := hc 0 _ rfl
  exact ⟨ad, e, by simpa [Kd.int, Kd.scalar] using this⟩
theorem at_text {w : World} {A : Option Addr} {n : Nat} {xs : List ByteArray} (h : Kd.C Kd.string w A n xs) (i : Int) (h0 : 0 ≤ i) (h1 : i < n) : ∃ ad, A = some ad ∧ w.cell? (ad.add i.toNat) = some (.string (xs.getD i.toNat ByteArray.empty)) := by
  obtain ⟨ad, c, e, _, hK, hc⟩ := Kd.C_get h ByteArray.empty i h0 h1
  obtain rfl : c = [.string (xs.getD i.toNat ByteArray.empty)] := hK
  have := hc 0 _ rfl
  exact ⟨ad, e, by simpa [Kd.string, Kd.scalar] using this⟩

end Go.Proofs.Ytljmamlceofcfaa.Open
