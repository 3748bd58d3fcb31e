import Derived.Test.YtljmamlceofcfaaVMore
import Derived.RowKit
/- Plain facts about texts, bytes and numbers that wrap: no program in sight. -/
namespace Go.Proofs.Ytljmamlceofcfaa.Pl
open Go.RowKit Go.Proofs.YtljmamlceofcfaaW.PrintWords Go.Proofs.YtljmamlceofcfaaW.PrintLast Go.Proofs.YtljmamlceofcfaaW.PrintMore

theorem w64 {x : Int} (h0 : -9223372036854775808 ≤ x) (h1 : x < 9223372036854775808) : wrap64 x = x := by unfold wrap64; omega
theorem w64_range (x : Int) : -9223372036854775808 ≤ wrap64 x ∧ wrap64 x < 9223372036854775808 := by unfold wrap64; omega
theorem u64w (n : Int) : IntKind.u64.wrap n = n % 18446744073709551616 := by simp [IntKind.wrap, IntKind.bits, IntKind.signed]
theorem u64_id {n : Int} (h0 : 0 ≤ n) (h1 : n < 18446744073709551616) : IntKind.u64.wrap n = n := by rw [u64w]; omega
theorem u64_range (n : Int) : 0 ≤ IntKind.u64.wrap n ∧ IntKind.u64.wrap n < 18446744073709551616 := by rw [u64w]; omega

theorem bytes_drop {s : ByteArray} {k : Nat} (h : k < s.size) : (bytesOf s).drop k = bt s k :: (bytesOf s).drop (k + 1) := by
  rw [List.drop_eq_getElem_cons (by rw [bytesOf_length]; exact h)]
  congr 1
  rw [← rd_bytesOf]
  unfold rd
  rw [List.getD_eq_getElem?_getD, List.getElem?_eq_getElem (by rw [bytesOf_length]; simpa using h)]
  simp
theorem bytes_dropI {s : ByteArray} {i : Int} (h0 : 0 ≤ i) (h : i < s.size) : (bytesOf s).drop i.toNat = bt s i :: (bytesOf s).drop (i + 1).toNat := by
  have := bytes_drop (s := s) (k := i.toNat) (by omega)
  rw [this, show (i + 1).toNat = i.toNat + 1 from by omega, show ((i.toNat : Nat) : Int) = i from by omega]
theorem bytes_end {s : ByteArray} {k : Nat} (h : s.size ≤ k) : (bytesOf s).drop k = [] := List.drop_eq_nil_of_le (by rw [bytesOf_length]; exact h)
theorem bytes_range (s : ByteArray) : ∀ b ∈ bytesOf s, 0 ≤ b ∧ b ≤ 255 := by
  intro b hb
  simp only [bytesOf, List.mem_map] at hb
  obtain ⟨x, _, rfl⟩ := hb
  have := x.toNat_lt
  show 0 ≤ (x.toNat : Int) ∧ (x.toNat : Int) ≤ 255
  omega
theorem bytesOf_extract (s : ByteArray) (a b : Nat) : bytesOf (s.extract a b) = ((bytesOf s).take b).drop a := by
  unfold bytesOf
  simp [ByteArray.data_extract, Array.toList_extract, List.extract, List.drop_take, List.map_take, List.map_drop]
theorem bytesOf_append (a b : ByteArray) : bytesOf (a ++ b) = bytesOf a ++ bytesOf b := by
  unfold bytesOf
  rw [ByteArray.data_append, Array.toList_append, List.map_append]
theorem strOfNums_bytesOf (s : ByteArray) : strOfNums (bytesOf s) = s := by
  unfold strOfNums bytesOf
  rw [List.map_map]
  have : (fun n : Int => UInt8.ofNat n.toNat) ∘ (fun b : UInt8 => (b.toNat : Int)) = id := by funext b; simp
  rw [this]
  simp
theorem strOfNums_dat (l : List Int) : (strOfNums l).data.toList = l.map (fun n : Int => UInt8.ofNat n.toNat) := by unfold strOfNums; simp
theorem strOfNums_sz (l : List Int) : (strOfNums l).size = l.length := by
  have := data_length (strOfNums l)
  rw [strOfNums_dat, List.length_map] at this
  exact this.symm
theorem bytesOf_strOfNums (l : List Int) (h : ∀ b ∈ l, 0 ≤ b ∧ b ≤ 255) : bytesOf (strOfNums l) = l := by
  unfold bytesOf
  rw [strOfNums_dat, List.map_map]
  conv => rhs; rw [← List.map_id l]
  refine List.map_congr_left fun b hb => ?_
  have := h b hb
  simp
  omega
theorem strOfNums_append (a b : List Int) : strOfNums (a ++ b) = strOfNums a ++ strOfNums b := by
  apply ByteArray.ext
  apply Array.toList_inj.1
  rw [ByteArray.data_append, Array.toList_append, strOfNums_dat, strOfNums_dat, strOfNums_dat, List.map_append]
theorem toList_data (s : ByteArray) : s.toList = s.data.toList := ByteArray.toList_eq s
theorem str_inj {a b : ByteArray} (h : a.toList = b.toList) : a = b := by
  rw [toList_data, toList_data] at h
  exact ByteArray.ext (Array.toList_inj.1 h)
theorem bytes_inj {a b : ByteArray} (h : bytesOf a = bytesOf b) : a = b := by rw [← strOfNums_bytesOf a, h, strOfNums_bytesOf]
theorem toList_bytes {a b : ByteArray} : a.toList = b.toList ↔ bytesOf a = bytesOf b := ⟨fun h => by rw [str_inj h], fun h => by rw [bytes_inj h]⟩
theorem toList_nil {s : ByteArray} : s.toList = [] ↔ bytesOf s = [] := by
  rw [toList_data]
  unfold bytesOf
  exact List.map_eq_nil_iff.symm
theorem size_bytes (s : ByteArray) : (s.size : Int) = (bytesOf s).length := by rw [bytesOf_length]
theorem bt_get {s : ByteArray} {i : Int} (h0 : 0 ≤ i) (h : i < s.size) : ∃ hl : i.toNat < (bytesOf s).length, (bytesOf s)[i.toNat] = bt s i := by
  refine ⟨by rw [bytesOf_length]; omega, ?_⟩
  rw [← rd_bytesOf]
  unfold rd
  rw [List.getD_eq_getElem?_getD, List.getElem?_eq_getElem (by rw [bytesOf_length]; omega)]
  rfl

theorem drop_rd {α : Type} (z : α) (xs : List α) (i : Int) (h0 : 0 ≤ i) (h1 : i < xs.length) : xs.drop i.toNat = rdOf z xs i :: xs.drop (i + 1).toNat := by
  rw [List.drop_eq_getElem_cons (by omega), show (i + 1).toNat = i.toNat + 1 from by omega]
  congr 1
  unfold rdOf
  rw [List.getD_eq_getElem?_getD, List.getElem?_eq_getElem (by omega)]
  rfl
theorem take_rd {α : Type} (z : α) (xs : List α) (i : Int) (h0 : 0 ≤ i) (h1 : i < xs.length) : xs.take (i + 1).toNat = xs.take i.toNat ++ [rdOf z xs i] := by
  rw [show (i + 1).toNat = i.toNat + 1 from by omega, List.take_succ_eq_append_getElem (by omega)]
  congr 2
  unfold rdOf
  rw [List.getD_eq_getElem?_getD, List.getElem?_eq_getElem (by omega)]
  rfl
theorem rd_mem {α : Type} (z : α) (xs : List α) (i : Int) (h0 : 0 ≤ i) (h1 : i < xs.length) : rdOf z xs i ∈ xs := by
  unfold rdOf
  rw [List.getD_eq_getElem?_getD, List.getElem?_eq_getElem (by omega)]
  exact List.getElem_mem _
end Go.Proofs.Ytljmamlceofcfaa.Pl
