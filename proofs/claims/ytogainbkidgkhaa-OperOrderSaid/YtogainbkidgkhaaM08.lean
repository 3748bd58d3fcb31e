import Derived.Test.YtogainbkidgkhaaPl
import Derived.Laws.Slices
import Derived.Laws.CopyRow
import Derived.Laws.Rows
import Derived.Laws.Tables
import Derived.RowKit
section
/- Arrays in memory: cut, read and written. -/
namespace Go.Proofs.Ytogainbkidgkhaa.Ar
open Go.RowKit Go.Proofs.YtogainbkidgkhaaW.PrintWords Go.Proofs.YtogainbkidgkhaaW.PrintLast Go.Proofs.YtogainbkidgkhaaW.PrintMore Go.Proofs.Ytogainbkidgkhaa.Base

theorem sliceAt_from {P : Program} {t e : TypeId} {n : Nat} {z : Option Value} {b : Nat} (hu : P.underlying t = some (.array n e)) (hin : (P.info? e).map (fun i => (i.zero, i.size, i.bytes)) = some (z, 1, b)) (g o : Nat) (k : IntKind) (j : Nat) (hj : j < n) (W : World) :
    (Instr.sliceAt t (.pointer (some ⟨g, o, none⟩)) (some (.int k (j : Int))) none none).run P W = .ok (.slice (some ⟨g, o + j, none⟩) (n - j) (n - j)) W := by
  obtain ⟨i, hi, hs⟩ : ∃ i, P.info? e = some i ∧ i.size = 1 := by
    obtain ⟨i, hi, hs⟩ := Option.map_eq_some_iff.1 hin
    simp only [Prod.mk.injEq] at hs
    exact ⟨i, hi, hs.2.1⟩
  have hn : P.arrayLen t = n := by simp [Program.arrayLen, hu]
  have he : P.elem t = e := by simp [Program.elem, hu]
  rw [run_sliceAt_array_l W t _ (by rw [hn, he]; exact hu) k (j : Int) (by omega) (by rw [hn]; omega)]
  have hne : ¬ n = j := by omega
  simp [sizeOf, typeInfo, he, hi, hs, slicedAt, hn, Result.andThen, hne, add_at]
theorem sliceAt_to {P : Program} {t e : TypeId} {n : Nat} {z : Option Value} {b : Nat} (hu : P.underlying t = some (.array n e)) (hin : (P.info? e).map (fun i => (i.zero, i.size, i.bytes)) = some (z, 1, b)) (hn0 : 0 < n) (g o : Nat) (k : IntKind) (j : Nat) (hj : j ≤ n) (W : World) :
    (Instr.sliceAt t (.pointer (some ⟨g, o, none⟩)) none (some (.int k (j : Int))) none).run P W = .ok (.slice (some ⟨g, o, none⟩) j n) W := by
  obtain ⟨i, hi, hs⟩ : ∃ i, P.info? e = some i ∧ i.size = 1 := by
    obtain ⟨i, hi, hs⟩ := Option.map_eq_some_iff.1 hin
    simp only [Prod.mk.injEq] at hs
    exact ⟨i, hi, hs.2.1⟩
  have hn : P.arrayLen t = n := by simp [Program.arrayLen, hu]
  have he : P.elem t = e := by simp [Program.elem, hu]
  rw [run_sliceAt_array_h W t _ (by rw [hn, he]; exact hu) k (j : Int) (by omega) (by rw [hn]; omega)]
  have hne : ¬ n = 0 := by omega
  simp [sizeOf, typeInfo, he, hi, hs, slicedAt, hn, Result.andThen, hne, add_at]

theorem setRow_alloc (W : World) (old new : Array Value) (t : TypeId) : (W.alloc (.cells old t)).drew.setRow W.heap.size new = (W.alloc (.cells new t)).drew := by
  unfold World.setRow World.alloc World.drew
  simp only
  congr 1
  apply Array.ext
  · simp
  · intro i h1 h2
    rw [Array.getElem_modify]
    simp only [Array.getElem_push]
    split
    · rename_i h; subst h
      simp
    · rename_i h
      have : i < W.heap.size := by simp at h2; omega
      rw [dif_pos this, dif_pos this]
theorem sliceAt_all {P : Program} {t e : TypeId} {n : Nat} {z : Option Value} {b : Nat} (hu : P.underlying t = some (.array n e)) (hin : (P.info? e).map (fun i => (i.zero, i.size, i.bytes)) = some (z, 1, b)) (hn0 : 0 < n) (g o : Nat) (W : World) :
    (Instr.sliceAt t (.pointer (some ⟨g, o, none⟩)) none none none).run P W = .ok (.slice (some ⟨g, o, none⟩) n n) W := by
  obtain ⟨i, hi, hs⟩ : ∃ i, P.info? e = some i ∧ i.size = 1 := by
    obtain ⟨i, hi, hs⟩ := Option.map_eq_some_iff.1 hin
    simp only [Prod.mk.injEq] at hs
    exact ⟨i, hi, hs.2.1⟩
  have hn : P.arrayLen t = n := by simp [Program.arrayLen, hu]
  have he : P.elem t = e := by simp [Program.elem, hu]
  rw [run_sliceAt_array_all W t _ (by rw [hn, he]; exact hu)]
  have hne : ¬ n = 0 := by omega
  simp [sizeOf, typeInfo, he, hi, hs, slicedAt, hn, Result.andThen, hne, add_at]
theorem drop_set (l : List Int) (i : Nat) (d : Int) (h : i < l.length) : (l.set i d).drop i = d :: l.drop (i + 1) := by
  rw [List.drop_eq_getElem_cons (by rw [List.length_set]; exact h), List.getElem_set_self, List.drop_set_of_lt (by omega)]
/-- An array of bytes at block g. -/
structure BLK (w : World) (g : Nat) (t : TypeId) (l : List Int) : Prop where mk :: (out : w.heap[g]? = some (.cells (l.map (Value.int .u8)).toArray t (0, 0)))
theorem BLK.set_ {w : World} {g : Nat} {t : TypeId} {l : List Int} (h : BLK w g t l) (i : Nat) (d : Int) : BLK (w.setCell ⟨g, i, none⟩ (.int .u8 d)) g t (l.set i d) := by
  refine ⟨?_⟩
  rw [blk_set h.out]
  congr 2
  apply Array.toList_inj.1
  simp [List.map_set]
theorem BLK.at_ {w : World} {g : Nat} {t : TypeId} {l : List Int} (h : BLK w g t l) {i : Nat} (hi : i < l.length) : w.cell? ⟨g, i, none⟩ = some (.int .u8 (l.getD i 0)) := by
  refine blk_at h.out ?_
  rw [List.getElem?_toArray, List.getElem?_map, List.getElem?_eq_getElem hi, List.getD_eq_getElem?_getD, List.getElem?_eq_getElem hi]
  rfl
theorem BLK.reads {w : World} {g : Nat} {t : TypeId} {l : List Int} (h : BLK w g t l) {a : Nat} (ha : a ≤ l.length) (hl : l.length ≤ 9223372036854775807) : ReadsInt w .u8 (some ⟨g, a, none⟩) (l.length - a) (l.drop a) := by
  refine ⟨by rw [List.length_drop], by omega, fun _ => ⟨_, rfl, fun i hi => ?_⟩⟩
  rw [add_at, h.at_ (by omega)]
  simp
end Go.Proofs.Ytogainbkidgkhaa.Ar
end
section
/- Plain facts about numbers in decimal digits: no program in sight. -/
namespace Go.Proofs.Ytogainbkidgkhaa.M08
open Go.RowKit

/-- A number's decimal digits. -/
def dig (n : Nat) : List Int := if n < 10 then [48 + (n : Int)] else dig (n / 10) ++ [48 + ((n % 10 : Nat) : Int)]
termination_by n
decreasing_by omega

theorem dig_lt {n : Nat} (h : n < 10) : dig n = [48 + (n : Int)] := by rw [dig, if_pos h]
theorem dig_ge {n : Nat} (h : ¬ n < 10) : dig n = dig (n / 10) ++ [48 + ((n % 10 : Nat) : Int)] := by rw [dig, if_neg h]

/-- What digits come to, behind a number. -/
def hv (a : Int) (l : List Int) : Int := l.foldl (fun a d => 10 * a + (d - 48)) a
theorem hv_nil (a : Int) : hv a [] = a := rfl
theorem hv_cons (a d : Int) (l : List Int) : hv a (d :: l) = hv (10 * a + (d - 48)) l := rfl
theorem hv_snoc (a : Int) (l : List Int) (d : Int) : hv a (l ++ [d]) = 10 * hv a l + (d - 48) := by simp [hv, List.foldl_append]

/-- Are they digits? -/
def Dg (l : List Int) : Prop := ∀ d ∈ l, 48 ≤ d ∧ d ≤ 57
/-- Are they digits that are written as they must be? -/
def Cano (l : List Int) : Prop := l ≠ [] ∧ Dg l ∧ (1 < l.length → l.head? ≠ some 48)

theorem hv_mono {l : List Int} (h : Dg l) : ∀ a, 0 ≤ a → a ≤ hv a l := by
  induction l with
  | nil => intro a _; exact Int.le_refl _
  | cons d l ih =>
    intro a ha
    have hd := h d (by simp)
    rw [hv_cons]
    have := ih (fun x hx => h x (by simp [hx])) (10 * a + (d - 48)) (by omega)
    omega

theorem dig_props : ∀ n : Nat, Dg (dig n) ∧ dig n ≠ [] ∧ hv 0 (dig n) = n ∧ (1 ≤ n → (dig n).head? ≠ some 48) ∧ ((dig n).length = 1 ↔ n < 10) := by
  intro n
  induction n using Nat.strongRecOn with
  | _ n ih =>
    by_cases h : n < 10
    · rw [dig_lt h]
      refine ⟨fun d hd => ?_, by simp, ?_, fun h1 => ?_, by simp [h]⟩
      · simp at hd; omega
      · simp [hv]; omega
      · simp; omega
    · rw [dig_ge h]
      obtain ⟨i1, i2, i3, i4, i5⟩ := ih (n / 10) (by omega)
      refine ⟨fun d hd => ?_, by simp, ?_, fun _ => ?_, ?_⟩
      · simp at hd
        rcases hd with hd | hd
        · exact i1 d hd
        · omega
      · rw [hv_snoc, i3]; omega
      · rw [List.head?_append]
        have := i4 (by omega)
        cases hh : (dig (n / 10)).head? with
        | none => exact absurd (List.head?_eq_none_iff.1 hh) i2
        | some x => rw [hh] at this; simpa using this
      · have : 0 < (dig (n / 10)).length := List.length_pos_iff.2 i2
        simp only [List.length_append, List.length_cons, List.length_nil]
        omega
theorem can_dig (n : Nat) : Cano (dig n) := by
  obtain ⟨h1, h2, _, h4, h5⟩ := dig_props n
  exact ⟨h2, h1, fun h => h4 (by have := mt h5.2 (by omega); omega)⟩
theorem hv_dig (n : Nat) : hv 0 (dig n) = n := (dig_props n).2.2.1
theorem dig_inj {a b : Nat} (h : dig a = dig b) : a = b := by have := hv_dig a; rw [h, hv_dig] at this; omega
theorem dig_head45 (n : Nat) (l : List Int) : dig n ≠ 45 :: l := fun h => by
  have := (dig_props n).1 45 (by rw [h]; simp)
  omega

theorem can_pos {l : List Int} (h : Cano l) (h1 : l.head? ≠ some 48) : 1 ≤ hv 0 l := by
  cases l with
  | nil => exact absurd rfl h.1
  | cons d l =>
    have hd := h.2.1 d (by simp)
    have : d ≠ 48 := fun e => h1 (by simp [e])
    rw [hv_cons]
    have := hv_mono (l := l) (fun x hx => h.2.1 x (by simp [hx])) (10 * 0 + (d - 48)) (by omega)
    omega

/-- Digits that are written as they must be are those of what they come to. -/
theorem dig_hv : ∀ (k : Nat) (l : List Int), l.length = k → Cano l → dig (hv 0 l).toNat = l
  | 0, l, hl, h => absurd (List.length_eq_zero_iff.1 hl) h.1
  | k + 1, l, hl, h => by
    obtain ⟨l', d, rfl⟩ : ∃ l' d, l = l' ++ [d] := ⟨l.dropLast, l.getLast h.1, (List.dropLast_concat_getLast h.1).symm⟩
    have hd := h.2.1 d (by simp)
    rw [hv_snoc]
    cases l' with
    | nil =>
      simp only [hv_nil]
      rw [dig_lt (by omega)]
      simp; omega
    | cons c l'' =>
      have hh : (c :: l'').head? ≠ some 48 := by
        have := h.2.2 (by simp)
        simpa using this
      have hc : Cano (c :: l'') := ⟨by simp, fun x hx => h.2.1 x (by simp at hx ⊢; rcases hx with hx | hx <;> simp [hx]), fun _ => hh⟩
      have ih := dig_hv k (c :: l'') (by simp at hl ⊢; omega) hc
      have hp := can_pos hc hh
      generalize hv 0 (c :: l'') = v at *
      rw [dig_ge (by omega), show (10 * v + (d - 48)).toNat / 10 = v.toNat from by omega, ih]
      congr 2
      omega

theorem dig_length : ∀ (k n : Nat), n < 10 ^ (k + 1) → (dig n).length ≤ k + 1
  | 0, n, h => by rw [dig_lt (by omega)]; simp
  | k + 1, n, h => by
    by_cases c : n < 10
    · rw [dig_lt c]; simp
    · rw [dig_ge c]
      have := dig_length k (n / 10) (by have : (10 : Nat) ^ (k + 1 + 1) = 10 ^ (k + 1) * 10 := Nat.pow_succ ..; omega)
      simp; omega

/-- A number with a sign in digits. -/
def txt (m : Int) : List Int := if m < 0 then 45 :: dig (-m).toNat else dig m.toNat
theorem txt_range (m : Int) : ∀ b ∈ txt m, 0 ≤ b ∧ b ≤ 255 := by
  intro b hb
  unfold txt at hb
  split at hb
  · simp at hb
    rcases hb with rfl | hb
    · omega
    · have := (dig_props _).1 b hb; omega
  · have := (dig_props _).1 b hb; omega
theorem txt_neg {m : Int} (h : m < 0) : txt m = 45 :: dig (-m).toNat := by unfold txt; rw [if_pos h]
theorem txt_pos {m : Int} (h : ¬ m < 0) : txt m = dig m.toNat := by unfold txt; rw [if_neg h]
theorem txt_inj {a b : Int} (h : txt a = txt b) : a = b := by
  unfold txt at h
  split at h <;> split at h
  · have := dig_inj (List.cons.inj h).2; omega
  · exact absurd h.symm (dig_head45 _ _)
  · exact absurd h (dig_head45 _ _)
  · have := dig_inj h; omega
theorem txt_length {m : Int} (h0 : -9223372036854775808 ≤ m) (h1 : m < 9223372036854775808) : (txt m).length ≤ 20 := by
  unfold txt
  split
  · have := dig_length 18 (-m).toNat (by omega); simp; omega
  · have := dig_length 18 m.toNat (by omega); omega

/-- What a word says: the number that has just that word, or that it is none. -/
def Sg (w : List Int) (r : Int × Int) : Prop :=
  (∃ m, -9223372036854775808 ≤ m ∧ m < 9223372036854775808 ∧ txt m = w ∧ r = (m, 0)) ∨ ((∀ m, -9223372036854775808 ≤ m → m < 9223372036854775808 → txt m ≠ w) ∧ r = (0, 6))
theorem Sg_fun {w : List Int} {r r' : Int × Int} (h : Sg w r) (h' : Sg w r') : r = r' := by
  rcases h with ⟨m, a, b, c, d⟩ | ⟨a, b⟩ <;> rcases h' with ⟨m', a', b', c', d'⟩ | ⟨a', b'⟩
  · have := txt_inj (c.trans c'.symm); subst this; rw [d, d']
  · exact absurd c (a' m a b)
  · exact absurd c' (a m' a' b')
  · rw [b, b']
theorem Sg_txt {m : Int} (h0 : -9223372036854775808 ≤ m) (h1 : m < 9223372036854775808) : Sg (txt m) (m, 0) := .inl ⟨m, h0, h1, rfl, rfl⟩
end Go.Proofs.Ytogainbkidgkhaa.M08
end
