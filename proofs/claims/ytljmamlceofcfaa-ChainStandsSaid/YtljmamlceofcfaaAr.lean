import Derived.Test.YtljmamlceofcfaaBase
import Derived.Test.YtljmamlceofcfaaPl
import Derived.Laws.Slices
import Derived.Laws.CopyRow
import Derived.Laws.Rows
import Derived.Laws.Tables
/- Arrays in memory: cut, read and written. -/
namespace Go.Proofs.Ytljmamlceofcfaa.Ar
open Go.RowKit Go.Proofs.YtljmamlceofcfaaW.PrintWords Go.Proofs.YtljmamlceofcfaaW.PrintLast Go.Proofs.YtljmamlceofcfaaW.PrintMore Go.Proofs.Ytljmamlceofcfaa.Base

theorem sliceAt_from {P : Program} {t e : TypeId} {n : Nat} {z : Option Value} {b : Nat} (hu : P.underlying t = some (.array n e)) (hin : (P.info? e).map (fun i => (i.zero, i.size, i.bytes)) = some (z, 1, b)) (g o : Nat) (k : IntKind) (j : Nat) (hj : j < n) (W : World) :
    (Instr.sliceAt t (.pointer (some ⟨g, o, none⟩)) (some (.int k (j : Int))) none none).run P W = .ok (.slice (some ⟨g, o + j, none⟩) (n - j) (n - j)) W := by
  obtain ⟨i, hi, hs⟩ : ∃ i, P.info? e = some i ∧ i.size = 1 := by
    obtain ⟨i, hi, hs⟩ := Option.map_eq_some_iff.1 hin
    simp only [Prod.mk.injEq] at hs
    exact ⟨i, hi, hs.2.1⟩
  have hn : P.arrayLen t = n := by simp [Program.arrayLen, hu]
  have he : P.elem t = e := by simp [Program.elem, hu]
  rw [run_sliceAt_array_l W t _ (by rw [hn, he]; exact hu) k (j : Int) (by omega) (by rw [hn]; omega)]
  have hne : ¬ n = j := by omega
  simp [sizeOf, typeInfo, he, hi, hs, slicedAt, hn, Result.andThen, hne, add_at]
theorem sliceAt_to {P : Program} {t e : TypeId} {n : Nat} {z : Option Value} {b : Nat} (hu : P.underlying t = some (.array n e)) (hin : (P.info? e).map (fun i => (i.zero, i.size, i.bytes)) = some (z, 1, b)) (hn0 : 0 < n) (g o : Nat) (k : IntKind) (j : Nat) (hj : j ≤ n) (W : World) :
    (Instr.sliceAt t (.pointer (some ⟨g, o, none⟩)) none (some (.int k (j : Int))) none).run P W = .ok (.slice (some ⟨g, o, none⟩) j n) W := by
  obtain ⟨i, hi, hs⟩ : ∃ i, P.info? e = some i ∧ i.size = 1 := by
    obtain ⟨i, hi, hs⟩ := Option.map_eq_some_iff.1 hin
    simp only [Prod.mk.injEq] at hs
    exact ⟨i, hi, hs.2.1⟩
  have hn : P.arrayLen t = n := by simp [Program.arrayLen, hu]
  have he : P.elem t = e := by simp [Program.elem, hu]
  rw [run_sliceAt_array_h W t _ (by rw [hn, he]; exact hu) k (j : Int) (by omega) (by rw [hn]; omega)]
  have hne : ¬ n = 0 := by omega
  simp [sizeOf, typeInfo, he, hi, hs, slicedAt, hn, Result.andThen, hne, add_at]

theorem setRow_alloc (W : World) (old new : Array Value) (t : TypeId) : (W.alloc (.cells old t)).drew.setRow W.heap.size new = (W.alloc (.cells new t)).drew := by
  unfold World.setRow World.alloc World.drew
  simp only
  congr 1
  apply Array.ext
  · simp
  · intro i h1 h2
    rw [Array.getElem_modify]
    simp only [Array.getElem_push]
    split
    · rename_i h; subst h
      simp
    · rename_i h
      have : i < W.heap.size := by simp at h2; omega
      rw [dif_pos this, dif_pos this]
theorem sliceAt_all {P : Program} {t e : TypeId} {n : Nat} {z : Option Value} {b : Nat} (hu : P.underlying t = some (.array n e)) (hin : (P.info? e).map (fun i => (i.zero, i.size, i.bytes)) = some (z, 1, b)) (hn0 : 0 < n) (g o : Nat) (W : World) :
    (Instr.sliceAt t (.pointer (some ⟨g, o, none⟩)) none none none).run P W = .ok (.slice (some ⟨g, o, none⟩) n n) W := by
  obtain ⟨i, hi, hs⟩ : ∃ i, P.info? e = some i ∧ i.size = 1 := by
    obtain ⟨i, hi, hs⟩ := Option.map_eq_some_iff.1 hin
    simp only [Prod.mk.injEq] at hs
    exact ⟨i, hi, hs.2.1⟩
  have hn : P.arrayLen t = n := by simp [Program.arrayLen, hu]
  have he : P.elem t = e := by simp [Program.elem, hu]
  rw [run_sliceAt_array_all W t _ (by rw [hn, he]; exact hu)]
  have hne : ¬ n = 0 := by omega
  simp [sizeOf, typeInfo, he, hi, hs, slicedAt, hn, Result.andThen, hne, add_at]
theorem drop_set (l : List Int) (i : Nat) (d : Int) (h : i < l.length) : (l.set i d).drop i = d :: l.drop (i + 1) := by
  rw [List.drop_eq_getElem_cons (by rw [List.length_set]; exact h), List.getElem_set_self, List.drop_set_of_lt (by omega)]
/-- An array of bytes at block g. -/
structure BLK (w : World) (g : Nat) (t : TypeId) (l : List Int) : Prop where mk :: (out : w.heap[g]? = some (.cells (l.map (Value.int .u8)).toArray t (0, 0)))
theorem BLK.set_ {w : World} {g : Nat} {t : TypeId} {l : List Int} (h : BLK w g t l) (i : Nat) (d : Int) : BLK (w.setCell ⟨g, i, none⟩ (.int .u8 d)) g t (l.set i d) := by
  refine ⟨?_⟩
  rw [blk_set h.out]
  congr 2
  apply Array.toList_inj.1
  simp [List.map_set]
theorem BLK.at_ {w : World} {g : Nat} {t : TypeId} {l : List Int} (h : BLK w g t l) {i : Nat} (hi : i < l.length) : w.cell? ⟨g, i, none⟩ = some (.int .u8 (l.getD i 0)) := by
  refine blk_at h.out ?_
  rw [List.getElem?_toArray, List.getElem?_map, List.getElem?_eq_getElem hi, List.getD_eq_getElem?_getD, List.getElem?_eq_getElem hi]
  rfl
theorem BLK.reads {w : World} {g : Nat} {t : TypeId} {l : List Int} (h : BLK w g t l) {a : Nat} (ha : a ≤ l.length) (hl : l.length ≤ 9223372036854775807) : ReadsInt w .u8 (some ⟨g, a, none⟩) (l.length - a) (l.drop a) := by
  refine ⟨by rw [List.length_drop], by omega, fun _ => ⟨_, rfl, fun i hi => ?_⟩⟩
  rw [add_at, h.at_ (by omega)]
  simp
end Go.Proofs.Ytljmamlceofcfaa.Ar
