import Derived.Test.YtnapckkbnpocgaaW03
import Derived.Test.YtnapckkbnpocgaaM03b
import Derived.Lib.ConvBytes
/- A text's bytes in memory; and what is opened of bytes one of which was turned. -/
namespace Go.Proofs.Ytnapckkbnpocgaa.C03
set_option linter.unusedSimpArgs false
open Go.RowKit Go.Proofs.YtnapckkbnpocgaaW.PrintWords Go.Proofs.YtnapckkbnpocgaaW.PrintLast Go.Proofs.YtnapckkbnpocgaaW.PrintMore Go.Proofs.Ytnapckkbnpocgaa.M03 Go.Proofs.Ytnapckkbnpocgaa.Base

/-- A block of bytes, as a conversion of a text lays it. -/
def BB (e : TypeId) (w : World) (g : Nat) (l : List Int) : Prop :=
  ∃ cs fr, w.heap[g]? = some (.cells cs e fr) ∧ (∀ j, j < l.length → cs[j]? = some (.int .u8 (l.getD j 0))) ∧ l.length ≤ fr.1 ∧ l.length ≤ 9223372036854775807
theorem BB.new (w : World) (e : TypeId) (s : ByteArray) (hs : s.size ≤ 9223372036854775807) : BB e (Lib.bytesWorld w e s) w.heap.size (bytesOf s) := by
  refine ⟨_, _, Lib.bytesWorld_at_new w e s, fun j hj => ?_, ?_, by rw [bytesOf_length]; exact hs⟩
  · rw [bytesOf_length] at hj
    have h1 := Lib.bytesWorld_cell w e s j hj
    have h2 : (Lib.bytesWorld w e s).cell? ⟨w.heap.size, j, none⟩ = (Lib.bytesCells w e s)[j]? := by
      unfold World.cell?
      rw [Lib.bytesWorld_at_new]
      simp
    rw [← h2, h1]
    congr 2
    have hj2 : j < s.data.toList.length := by rw [data_length]; exact hj
    rw [bytesOf]
    simp [List.getD_eq_getElem?_getD, List.getElem?_eq_getElem hj2]
  · rw [bytesOf_length]
    simp [Lib.bytesCells]
theorem BB.cell {e : TypeId} {w : World} {g : Nat} {l : List Int} (h : BB e w g l) {j : Nat} (hj : j < l.length) : w.cell? ⟨g, j, none⟩ = some (.int .u8 (l.getD j 0)) := by
  obtain ⟨cs, fr, hb, hc, _⟩ := h
  unfold World.cell?
  rw [hb]
  exact hc j hj
theorem BB.frozen {e : TypeId} {w : World} {g : Nat} {l : List Int} (h : BB e w g l) {j : Nat} (hj : j < l.length) : w.frozen? ⟨g, j, none⟩ = false := by
  obtain ⟨cs, fr, hb, _, hf, _⟩ := h
  unfold World.frozen?
  rw [hb]
  simp
  omega
theorem BB.lt {e : TypeId} {w : World} {g : Nat} {l : List Int} (h : BB e w g l) : g < w.heap.size := by
  obtain ⟨cs, fr, hb, _⟩ := h
  exact (Array.getElem?_eq_some_iff.1 hb).1
theorem BB.set {e : TypeId} {w : World} {g : Nat} {l : List Int} (h : BB e w g l) {j : Nat} (hj : j < l.length) (x : Int) : BB e (w.setCell ⟨g, j, none⟩ (.int .u8 x)) g (l.set j x) := by
  obtain ⟨cs, fr, hb, hc, hf, hm⟩ := h
  have hcs : ∀ i, i < l.length → i < cs.size := fun i hi => (Array.getElem?_eq_some_iff.1 (hc i hi)).1
  refine ⟨cs.setIfInBounds j (.int .u8 x), fr, ?_, fun i hi => ?_, by rw [List.length_set]; exact hf, by rw [List.length_set]; exact hm⟩
  · unfold World.setCell
    simp [Array.getElem?_modify, hb]
  · rw [List.length_set] at hi
    rw [Array.getElem?_setIfInBounds, List.getD_eq_getElem?_getD, List.getElem?_set]
    by_cases hij : j = i
    · subst hij
      simp [hj, hcs j hj]
    · simp only [hij, if_false]
      rw [hc i hi, List.getD_eq_getElem?_getD]
theorem BB.reads {e : TypeId} {w : World} {g : Nat} {l : List Int} (h : BB e w g l) : ReadsInt w .u8 (some ⟨g, 0, none⟩) l.length l :=
  ⟨rfl, by obtain ⟨_, _, _, _, _, hm⟩ := h; exact hm, fun _ => ⟨_, rfl, fun j hj => by rw [add_plain]; exact h.cell hj⟩⟩
theorem BB.upd {F : Nat → Prop} {e : TypeId} {w w' : World} {g : Nat} {l : List Int} (h : BB e w g l) (k : Upd F w w') (hg : ¬ F g) : BB e w' g l := by
  obtain ⟨cs, fr, hb, r⟩ := h
  exact ⟨cs, fr, k.blk hb hg, r⟩

theorem strOfNums_take (l : List Int) (n : Nat) : (strOfNums l).extract 0 n = strOfNums (l.take n) := by
  apply ByteArray.ext
  apply Array.toList_inj.1
  rw [Lib.extract_data, strOfNums_data, strOfNums_data, List.drop_zero, Nat.sub_zero, List.map_take]
theorem strOfNums_drop (l : List Int) (n : Nat) : (strOfNums l).extract n (strOfNums l).size = strOfNums (l.drop n) := by
  apply ByteArray.ext
  apply Array.toList_inj.1
  rw [Lib.extract_data, strOfNums_data, strOfNums_data, strOfNums_size, List.map_drop, List.take_of_length_le (by simp)]
theorem sumBytes_range (c : BitVec 32) : ∀ b ∈ sumBytes c, 0 ≤ b ∧ b ≤ 255 := by
  intro b hb
  have := lt32 c
  simp only [sumBytes, List.mem_cons, List.not_mem_nil, or_false] at hb
  omega
theorem opens_list (l : List Int) (hr : ∀ b ∈ l, 0 ≤ b ∧ b ≤ 255) (h : opens (strOfNums l) = true) : l.take 4 = sumBytes (sumOf (l.drop 4)) := by
  unfold opens at h
  rw [Bool.and_eq_true, beq_iff_eq] at h
  have h2 := C02.str_inj h.2
  rw [strOfNums_take, strOfNums_drop, C02.bytesOf_strOfNums _ (fun b hb => hr b (List.mem_of_mem_drop hb))] at h2
  have h3 := congrArg bytesOf h2
  rw [C02.bytesOf_strOfNums _ (fun b hb => hr b (List.mem_of_mem_take hb)), C02.bytesOf_strOfNums _ (sumBytes_range _)] at h3
  exact h3
theorem bytesOf_sealed (s : ByteArray) : bytesOf (sealed s) = sumBytes (sumOf (bytesOf s)) ++ bytesOf s := by
  have h : sealed s = strOfNums (sumBytes (sumOf (bytesOf s)) ++ bytesOf s) := by
    unfold sealed
    apply ByteArray.ext
    apply Array.toList_inj.1
    rw [ByteArray.data_append, Array.toList_append, strOfNums_data, strOfNums_data, List.map_append]
    congr 1
    have := congrArg (fun x => x.data.toList) (C02.strOfNums_bytesOf s)
    simpa [strOfNums_data] using this.symm
  rw [h, C02.bytesOf_strOfNums]
  intro b hb
  rcases List.mem_append.1 hb with hb | hb
  · exact sumBytes_range _ b hb
  · exact C02.bytes_range s b hb
/-- One byte of what is sealed is another one: it is told. -/
theorem opens_turned (s : ByteArray) (k : Nat) (x : Int) (hk : k < (bytesOf (sealed s)).length) (hx : 0 ≤ x ∧ x ≤ 255) (hne : x ≠ (bytesOf (sealed s)).getD k 0) : opens (strOfNums ((bytesOf (sealed s)).set k x)) = false := by
  cases ho : opens (strOfNums ((bytesOf (sealed s)).set k x)) with
  | false => rfl
  | true =>
    exfalso
    have h := opens_list _ (fun b hb => by
      rcases List.mem_or_eq_of_mem_set hb with hb | rfl
      · exact C02.bytes_range _ b hb
      · exact hx) ho
    rw [bytesOf_sealed] at h hne hk
    have hl : (sumBytes (sumOf (bytesOf s))).length = 4 := rfl
    by_cases hk4 : k < 4
    · rw [List.set_append_left _ _ (by omega), List.take_append_of_le_length (by rw [List.length_set]; omega), List.drop_append_of_le_length (by rw [List.length_set]; omega),
        List.drop_eq_nil_of_le (by rw [List.length_set]; omega), List.nil_append, List.take_of_length_le (by rw [List.length_set]; omega)] at h
      apply hne
      have := congrArg (fun y => y.getD k 0) h
      simp only [List.getD_eq_getElem?_getD, List.getElem?_set_self (show k < (sumBytes (sumOf (bytesOf s))).length by omega)] at this
      rw [List.getD_eq_getElem?_getD, List.getElem?_append_left (by omega)]
      exact this
    · rw [List.set_append_right _ _ (by omega), List.take_append_of_le_length (by omega), List.take_of_length_le (by omega), List.drop_append_of_le_length (by omega), List.drop_eq_nil_of_le (by omega), List.nil_append, hl] at h
      have h2 := sumBytes_eq h
      rw [List.length_append, hl] at hk
      have hk2 : k - 4 < (bytesOf s).length := by omega
      have e1 : (bytesOf s) = (bytesOf s).take (k - 4) ++ (bytesOf s)[k - 4] :: (bytesOf s).drop (k - 4 + 1) := by rw [← List.drop_eq_getElem_cons hk2, List.take_append_drop]
      have e2 : (bytesOf s).set (k - 4) x = (bytesOf s).take (k - 4) ++ x :: (bytesOf s).drop (k - 4 + 1) := List.set_eq_take_append_cons_drop.trans (if_pos hk2)
      rw [e2] at h2
      conv at h2 => lhs; rw [e1]
      refine sum_byte _ _ (C02.bytes_range s _ (List.getElem_mem _)) hx ?_ h2
      intro he
      apply hne
      rw [← he, List.getD_eq_getElem?_getD, List.getElem?_append_right (by omega), hl, List.getElem?_eq_getElem hk2]
      rfl
end Go.Proofs.Ytnapckkbnpocgaa.C03
