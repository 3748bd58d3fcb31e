import Derived.Test.YtjkbgcdhhiakmaaDoorQ04cx
import Derived.Test.YtjkbgcdhhiakmaaDoorPl
/- Plain: the number of decimal digits. -/
namespace Go.Proofs.YtjkbgcdhhiakmaaDoor.P04
set_option linter.unusedSimpArgs false
open Go.RowKit Go.Proofs.YtjkbgcdhhiakmaaDoorW.PrintWords Go.Proofs.YtjkbgcdhhiakmaaDoorW.PrintLast Go.Proofs.YtjkbgcdhhiakmaaDoorW.PrintMore Go.Proofs.YtjkbgcdhhiakmaaDoor.Q04c Go.Proofs.YtjkbgcdhhiakmaaDoor.Pl

/-- The number that digits go on to tell. -/
def numD : List Int → Int → Int × Bool
  | [], n => (n, decide (n ≤ 1048576))
  | c :: t, n => if c < 48 ∨ c > 57 ∨ n > 1048576 then (0, false) else numD t (10 * n + (c - 48))
def numF (s : ByteArray) : Int × Bool :=
  match bytesOf s with
  | [] => (0, false)
  | c :: t => if t ≠ [] ∧ c = 48 then (0, false) else numD (c :: t) 0
theorem number_l (s : ByteArray) (hs : s.size ≤ 4611686018427387904) : ∀ (d k : Nat) (i n : Int), 0 ≤ i → i + d = s.size → d < k → 0 ≤ n → n ≤ 10485769 →
    stamp_number.l0 k s n (s.size : Int) i = some (numD ((bytesOf s).drop i.toNat) n)
  | 0, k + 1, i, n, h0, hd, hk, hn0, hn1 => by
    rw [stamp_number.l0, if_neg (by omega), bytes_end (by omega)]
    rfl
  | d + 1, k + 1, i, n, h0, hd, hk, hn0, hn1 => by
    have hr := bt_range s i
    rw [stamp_number.l0, if_pos (by omega), if_pos h0, if_pos (by omega), bytes_dropI (s := s) (i := i) (by omega) (by omega), numD]
    by_cases c1 : bt s i < 48
    · rw [if_pos c1, if_pos (Or.inl c1)]
    · by_cases c2 : bt s i > 57
      · rw [if_neg c1, if_pos c2, if_pos (Or.inr (Or.inl c2))]
      · by_cases c3 : n > 1048576
        · rw [if_neg c1, if_neg c2, if_pos c3, if_pos (Or.inr (Or.inr c3))]
        · rw [if_neg c1, if_neg c2, if_neg c3, if_neg (by omega), w64 (x := i + 1) (by omega) (by omega)]
          rw [show ((10 * n) % 4294967296 + ((bt s i) - 48) % 256) % 4294967296 = 10 * n + (bt s i - 48) from by omega]
          exact number_l s hs d k (i + 1) _ (by omega) (by omega) (by omega) (by omega) (by omega)
theorem number_f (s : ByteArray) (hs : s.size ≤ 4611686018427387904) (k : Nat) (hk : s.size + 3 ≤ k) : stamp_number.f k s = some (numF s) := by
  obtain ⟨k, rfl⟩ : ∃ j, k = j + 1 := ⟨k - 1, by omega⟩
  have hl := number_l s hs s.size k 0 0 (by omega) (by omega) (by omega) (by omega) (by omega)
  unfold stamp_number.f numF
  have hln := bytesOf_length s
  rw [show (0 : Int).toNat = 0 from rfl, List.drop_zero] at hl
  cases hb : bytesOf s with
  | nil =>
    rw [if_pos (toList_nil.2 hb), stamp_number.j0, if_pos rfl]
  | cons c t =>
    have hne : ¬ s.toList = [] := fun h => by rw [toList_nil.1 h] at hb; cases hb
    rw [hb] at hl hln
    have h0 : bt s 0 = c := by
      have := bytes_dropI (s := s) (i := 0) (by omega) (by simp only [List.length_cons] at hln; omega)
      rw [show (0 : Int).toNat = 0 from rfl, List.drop_zero, hb] at this
      exact (List.cons.inj this).1.symm
    rw [if_neg hne]
    simp only
    by_cases c1 : (s.size : Int) > 1
    · have ht : t ≠ [] := by rintro rfl; simp at hln; omega
      rw [if_pos c1, if_pos (by omega), h0, stamp_number.j0]
      by_cases c2 : c = 48
      · rw [if_pos (by rw [c2]; rfl), if_pos ⟨ht, c2⟩]
      · rw [if_neg (by simp [c2]), if_neg (fun h => c2 h.2), hl]
    · have ht : t = [] := by
        cases t with
        | nil => rfl
        | cons a b => simp at hln; omega
      rw [if_neg c1, stamp_number.j0, if_neg (by simp), if_neg (fun h => h.1 ht), hl]
theorem numD_range : ∀ (l : List Int) (n : Int), 0 ≤ n → 0 ≤ (numD l n).1 ∧ ((numD l n).2 = true → (numD l n).1 ≤ 1048576)
  | [], n, h => ⟨h, fun h2 => by simpa [numD] using h2⟩
  | c :: t, n, h => by
    rw [numD]
    split
    · exact ⟨Int.le_refl _, fun h2 => by cases h2⟩
    · exact numD_range t _ (by omega)
theorem numF_range (s : ByteArray) : 0 ≤ (numF s).1 ∧ ((numF s).2 = true → (numF s).1 ≤ 1048576) := by
  unfold numF
  split
  · exact ⟨Int.le_refl _, fun h2 => by cases h2⟩
  · split
    · exact ⟨Int.le_refl _, fun h2 => by cases h2⟩
    · exact numD_range _ _ (Int.le_refl _)
end Go.Proofs.YtjkbgcdhhiakmaaDoor.P04
