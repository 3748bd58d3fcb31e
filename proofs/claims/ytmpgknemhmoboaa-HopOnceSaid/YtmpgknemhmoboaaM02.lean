import Derived.Laws.BytesArg
import Derived.Laws.BitsLemmas
import Derived.Laws.BitsAllLaws
import Derived.RowKit
/- Plain facts about a number's bytes, seven bits a byte: no program in sight. -/
namespace Go.Proofs.Ytmpgknemhmoboaa.M02
open Go.RowKit

/-- A number's bytes, the lowest seven bits first, in at most n + 1 bytes. -/
def leb : Nat → Int → List Int
  | 0, v => [v % 256]
  | k + 1, v => if v ≥ 128 then (v % 128 + 128) :: leb k (v / 128) else [v % 256]

/-- A number with a sign as one without. -/
def sgn (n : Int) : Int := if n < 0 then 2 * (-(n + 1)) + 1 else 2 * n

theorem leb_length : ∀ (n : Nat) (v : Int), (leb n v).length ≤ n + 1
  | 0, v => by simp [leb]
  | n + 1, v => by
    unfold leb
    split
    · have := leb_length n (v / 128); simp; omega
    · simp

theorem leb_more {n : Nat} {v : Int} (h : v ≥ 128) : leb (n + 1) v = (v % 128 + 128) :: leb n (v / 128) := by simp [leb, h]
theorem leb_last {n : Nat} {v : Int} (h : ¬ v ≥ 128) : leb n v = [v % 256] := by cases n <;> simp [leb, h]

theorem or128 {v : Int} (_h : 0 ≤ v) : Go.bits .or .u8 (v % 256) 128 = v % 128 + 128 := by
  obtain ⟨a, ha⟩ := Int.eq_ofNat_of_zero_le (show 0 ≤ v % 256 by omega)
  have hlt : a < 256 := by omega
  rw [ha, show (128 : Int) = ((128 : Nat) : Int) from rfl, (bits_nat .u8 8 (by decide) (fun n h0 h1 => wraps_u8 n h0 h1) a 128 hlt (by decide)).2]
  have hall : ∀ b : Fin 256, b.val ||| 128 = b.val % 128 + 128 := by decide +kernel
  have := hall ⟨a, hlt⟩
  simp only at this
  rw [this]
  omega

theorem wrap_u64 (n : Int) : IntKind.u64.wrap n = n % 18446744073709551616 := by simp [IntKind.wrap, IntKind.bits, IntKind.signed]

theorem tdiv128 {v : Int} (h0 : 0 ≤ v) (h1 : v < 18446744073709551616) : IntKind.u64.wrap (Int.tdiv v 128) = v / 128 := by
  rw [wrap_u64, Int.tdiv_eq_ediv_of_nonneg h0]; omega

theorem tmod128 {v : Int} (h0 : 0 ≤ v) : (Int.tmod v 128 + 128) % 256 = v % 128 + 128 := by
  rw [Int.tmod_eq_emod_of_nonneg h0]; omega

theorem xor_ones (x : Nat) (h : x < 18446744073709551616) : x ^^^ 18446744073709551615 = 18446744073709551615 - x := by
  have := BitVec.toNat_not (x := BitVec.ofNat 64 x)
  rw [← BitVec.xor_allOnes, BitVec.toNat_xor, BitVec.toNat_allOnes, BitVec.toNat_ofNat, Nat.mod_eq_of_lt h] at this
  exact this

theorem sgn_code {n : Int} (h0 : -9223372036854775808 ≤ n) (h1 : n < 9223372036854775808) :
    Go.bits .xor .u64 (IntKind.u64.wrap ((IntKind.u64.wrap n) * 2)) (IntKind.u64.wrap (n / 9223372036854775808)) = sgn n := by
  simp only [wrap_u64]
  unfold sgn
  by_cases hn : n < 0
  · rw [if_pos hn]
    have e1 : (n % 18446744073709551616 * 2) % 18446744073709551616 = 2 * n + 18446744073709551616 := by omega
    have e2 : (n / 9223372036854775808) % 18446744073709551616 = 18446744073709551615 := by omega
    rw [e1, e2, u64_xor _ _ (by omega) (by omega) (by omega) (by omega)]
    rw [show (18446744073709551615 : Int).toNat = 18446744073709551615 from rfl, xor_ones _ (by omega)]
    omega
  · rw [if_neg hn]
    have e1 : (n % 18446744073709551616 * 2) % 18446744073709551616 = 2 * n := by omega
    have e2 : (n / 9223372036854775808) % 18446744073709551616 = 0 := by omega
    rw [e1, e2, u64_xor _ _ (by omega) (by omega) (by omega) (by omega)]
    rw [show (0 : Int).toNat = 0 from rfl, Nat.xor_zero]
    omega

theorem sgn_ref_neg {n : Int} (h0 : -9223372036854775808 ≤ n) (hn : n < 0) :
    (IntKind.u64.wrap ((IntKind.u64.wrap (2 * (IntKind.u64.wrap (wrap64 (-(wrap64 (n + 1))))))) + 1)) = sgn n := by
  simp only [wrap_u64]
  unfold sgn wrap64
  rw [if_pos hn]
  omega

theorem sgn_ref_pos {n : Int} (hn : ¬ n < 0) (h1 : n < 9223372036854775808) : (IntKind.u64.wrap (2 * (IntKind.u64.wrap n))) = sgn n := by
  simp only [wrap_u64]
  unfold sgn
  rw [if_neg hn]
  omega

theorem sgn_range {n : Int} (h0 : -9223372036854775808 ≤ n) (h1 : n < 9223372036854775808) : 0 ≤ sgn n ∧ sgn n < 18446744073709551616 := by
  unfold sgn
  split <;> omega

/-- The number at the front of bytes, from byte i on with v so far: its value, how many bytes it has, what is wrong. -/
def numL : Nat → Int → List Int → Int × Int × Int
  | _, _, [] => (0, 0, 11)
  | i, v, b :: l => if (i = 9 ∧ b > 1) ∨ (i > 0 ∧ b = 0) then (0, 0, 6) else if b < 128 then (v + b * 128 ^ i, (i : Int) + 1, 0) else numL (i + 1) (v + (b - 128) * 128 ^ i) l

theorem numL_bad {i : Nat} {v b : Int} {l : List Int} (h : (i = 9 ∧ b > 1) ∨ (i > 0 ∧ b = 0)) : numL i v (b :: l) = (0, 0, 6) := by simp only [numL]; rw [if_pos h]
theorem numL_last {i : Nat} {v b : Int} {l : List Int} (h : ¬ ((i = 9 ∧ b > 1) ∨ (i > 0 ∧ b = 0))) (hb : b < 128) : numL i v (b :: l) = (v + b * 128 ^ i, (i : Int) + 1, 0) := by simp only [numL]; rw [if_neg h, if_pos hb]
theorem numL_more {i : Nat} {v b : Int} {l : List Int} (h : ¬ ((i = 9 ∧ b > 1) ∨ (i > 0 ∧ b = 0))) (hb : ¬ b < 128) : numL i v (b :: l) = numL (i + 1) (v + (b - 128) * 128 ^ i) l := by simp only [numL]; rw [if_neg h, if_neg hb]

theorem u64_or_comm (x y : Int) : Go.bits .or .u64 x y = Go.bits .or .u64 y x := by
  unfold Go.bits
  simp only [BitVec.or_comm]

theorem pow7 (k : Nat) : (128 : Int) ^ k = 2 ^ (7 * k) := by
  rw [Int.pow_mul]; rfl

theorem pow128_pos (k : Nat) : (0 : Int) < 128 ^ k := by
  induction k with
  | zero => simp
  | succ k ih => rw [Int.pow_succ]; omega

theorem pow128_mono {j k : Nat} (h : j ≤ k) : (128 : Int) ^ j ≤ 128 ^ k := by
  induction h with
  | refl => omega
  | step _ ih => have := pow128_pos j; rw [Int.pow_succ]; omega

theorem andNot128 {b : Int} (h0 : 0 ≤ b) (h1 : b ≤ 255) : Go.bits .andNot .u8 b 128 = b % 128 := by
  rw [u8_andNot b 128 h0 (by omega) (by omega) (by omega)]
  obtain ⟨a, rfl⟩ := Int.eq_ofNat_of_zero_le h0
  have hlt : a < 256 := by omega
  have hall : ∀ c : Fin 256, c.val &&& 127 = c.val % 128 := by decide +kernel
  have := hall ⟨a, hlt⟩
  simp only at this
  rw [show (255 - (128 : Int).toNat) = 127 from rfl, Int.toNat_natCast, this]
  omega

/-- A step: seven bits more above those that are there. -/
theorem num_bits {v b : Int} {k : Nat} (hk : k ≤ 9) (h0 : 0 ≤ v) (h1 : v < 128 ^ k) (hb0 : 0 ≤ b) (hb : b < 128) (hb9 : k = 9 → b ≤ 1) :
    Go.bits .or .u64 v (b * 128 ^ k) = v + b * 128 ^ k ∧ v + b * 128 ^ k < 18446744073709551616 ∧ v + b * 128 ^ k < 128 ^ (k + 1) ∧ 0 ≤ v + b * 128 ^ k := by
  have hp := pow128_pos k
  have hm : 0 ≤ b * 128 ^ k := Int.mul_nonneg hb0 (by omega)
  have hle : b * 128 ^ k ≤ 127 * 128 ^ k := Int.mul_le_mul_of_nonneg_right (by omega) (by omega)
  have h9 : v + b * 128 ^ k < 18446744073709551616 := by
    by_cases h : k = 9
    · subst h
      have := hb9 rfl
      have hle : b * 128 ^ 9 ≤ 1 * 128 ^ 9 := Int.mul_le_mul_of_nonneg_right (by omega) (by omega)
      omega
    · have hk8 : (128 : Int) ^ k ≤ 128 ^ 8 := pow128_mono (by omega)
      omega
  refine ⟨?_, h9, by rw [Int.pow_succ]; omega, by omega⟩
  have hlt : b * 128 ^ k < 2 ^ 64 := by omega
  rw [pow7] at h1 hlt hm h9 ⊢
  rw [u64_or_comm, bits_join .u64 64 (by decide) (fun n a b => by rw [wrap_u64]; omega) (7 * k) (b * 2 ^ (7 * k)) v hm (by rw [Int.mul_emod_left]) hlt h0 h1 (by omega)]
  omega

theorem shl7 {b x : Int} (h0 : 0 ≤ b) (h1 : b < 128) (hx0 : 0 ≤ x) (hx9 : x ≤ 9) (h9 : x = 9 → b ≤ 1) :
    IntKind.u64.wrap (b * 2 ^ (7 * x).toNat) = b * 128 ^ x.toNat := by
  have e : (7 * x).toNat = 7 * x.toNat := by omega
  rw [e, ← pow7, wrap_u64]
  obtain ⟨_, hb, _, _⟩ := num_bits (v := 0) (b := b) (k := x.toNat) (by omega) (by omega) (pow128_pos _) h0 h1 (by omega)
  have hm : 0 ≤ b * 128 ^ x.toNat := Int.mul_nonneg h0 (by have := pow128_pos x.toNat; omega)
  omega

/-- What a reader answers, what is left then, and what is wrong then; of what is left and what is wrong ahead. -/
def rdNum (l : List Int) (e : Int) : Int × List Int × Int := if e = 0 then ((numL 0 0 l).1, l.drop (numL 0 0 l).2.1.toNat, (numL 0 0 l).2.2) else (0, l, e)
def rdInt (m : Int) (l : List Int) (e : Int) : Int × List Int × Int :=
  if (rdNum l e).2.2 ≠ 0 then (0, (rdNum l e).2) else if m < 0 ∨ (rdNum l e).1 > m then (0, (rdNum l e).2.1, 1) else rdNum l e
def unsgn (v : Int) : Int := if v % 2 = 1 then -(v / 2) - 1 else v / 2
def rdSigned (l : List Int) (e : Int) : Int × List Int × Int := (unsgn (rdNum l e).1, (rdNum l e).2)
def rdFail (c : Int) (l : List Int) (e : Int) : List Int × Int := (l, if e = 0 then c else e)
def rdText (m : Int) (l : List Int) (e : Int) : List Int × List Int × Int :=
  if (rdInt m l e).2.2 ≠ 0 then ([], (rdInt m l e).2)
  else if (rdInt m l e).1 > (rdInt m l e).2.1.length then ([], (rdInt m l e).2.1, 11)
  else ((rdInt m l e).2.1.take (rdInt m l e).1.toNat, (rdInt m l e).2.1.drop (rdInt m l e).1.toNat, 0)
def rdEnd (l : List Int) (e : Int) : Int := if e = 0 ∧ l ≠ [] then 7 else e

theorem numL_range : ∀ (l : List Int) (i : Nat) (v : Int), i ≤ 9 → 0 ≤ v → v < 128 ^ i → (∀ b ∈ l, 0 ≤ b ∧ b ≤ 255) →
    0 ≤ (numL i v l).1 ∧ (numL i v l).1 < 18446744073709551616 ∧ 0 ≤ (numL i v l).2.1 ∧ (numL i v l).2.1 ≤ i + l.length ∧ ((numL i v l).2.2 = 0 ∨ (numL i v l).2.2 = 6 ∨ (numL i v l).2.2 = 11) ∧ ((numL i v l).2.2 ≠ 0 → (numL i v l).1 = 0 ∧ (numL i v l).2.1 = 0)
  | [], i, v, _, _, _, _ => by simp [numL]
  | b :: l, i, v, hi, h0, h1, hl => by
    have hb := hl b List.mem_cons_self
    by_cases c : (i = 9 ∧ b > 1) ∨ (i > 0 ∧ b = 0)
    · rw [numL_bad c]; simp; omega
    · by_cases cl : b < 128
      · rw [numL_last c cl]
        have := num_bits (v := v) (b := b) (k := i) hi h0 h1 hb.1 cl (by omega)
        simp; omega
      · rw [numL_more c cl]
        have hn := num_bits (v := v) (b := b - 128) (k := i) hi h0 h1 (by omega) (by omega) (by omega)
        have := numL_range l (i + 1) (v + (b - 128) * 128 ^ i) (by omega) hn.2.2.2 hn.2.2.1 (fun x hx => hl x (List.mem_cons_of_mem _ hx))
        simp only [List.length_cons] at *
        omega

theorem rdNum_range {l : List Int} {e : Int} (hl : ∀ b ∈ l, 0 ≤ b ∧ b ≤ 255) : 0 ≤ (rdNum l e).1 ∧ (rdNum l e).1 < 18446744073709551616 ∧ ((rdNum l e).2.2 ≠ 0 → (rdNum l e).1 = 0) := by
  have := numL_range l 0 0 (by omega) (by omega) (by simp) hl
  unfold rdNum
  split
  · exact ⟨this.1, this.2.1, fun h => (this.2.2.2.2.2 h).1⟩
  · exact ⟨by simp, by simp, fun _ => rfl⟩

theorem and1 {v : Int} (h0 : 0 ≤ v) (h1 : v < 18446744073709551616) : Go.bits .and .u64 v 1 = v % 2 := by
  have := bits_mask .u64 64 (by decide) (fun n a b => by rw [wrap_u64]; omega) 1 (by decide) v h0 (by omega)
  simpa using this

theorem xor_i64_ones {a : Int} (h0 : 0 ≤ a) (h1 : a < 9223372036854775808) : Go.bits .xor .i64 a (-1) = -a - 1 := by
  obtain ⟨n, rfl⟩ := Int.eq_ofNat_of_zero_le h0
  have hn : n < 18446744073709551616 := by omega
  have hx := xor_ones n hn
  have e : (BitVec.ofInt 64 (n : Int) ^^^ BitVec.ofInt 64 (-1)).toNat = 18446744073709551615 - n := by
    rw [BitVec.toNat_xor, BitVec.ofInt_natCast, BitVec.toNat_ofNat, Nat.mod_eq_of_lt (by simpa using hn)]
    exact hx
  show IntKind.i64.wrap (((BitVec.ofInt 64 (n : Int) ^^^ BitVec.ofInt 64 (-1)).toNat : Nat) : Int) = _
  rw [e, IntKind.wrap_i64]
  omega

theorem xor_i64_zero {a : Int} (h0 : 0 ≤ a) (h1 : a < 9223372036854775808) : Go.bits .xor .i64 a 0 = a := by
  obtain ⟨n, rfl⟩ := Int.eq_ofNat_of_zero_le h0
  have e : (BitVec.ofInt 64 (n : Int) ^^^ BitVec.ofInt 64 0).toNat = n := by
    rw [BitVec.toNat_xor, BitVec.ofInt_natCast, BitVec.toNat_ofNat, Nat.mod_eq_of_lt (by simp; omega)]
    simp
  show IntKind.i64.wrap (((BitVec.ofInt 64 (n : Int) ^^^ BitVec.ofInt 64 0).toNat : Nat) : Int) = _
  rw [e, IntKind.wrap_i64]
  omega

theorem unsgn_code {v : Int} (h0 : 0 ≤ v) (h1 : v < 18446744073709551616) : Go.bits .xor .i64 (v / 2) (-(Go.bits .and .u64 v 1)) = unsgn v := by
  rw [and1 h0 h1]
  unfold unsgn
  by_cases h : v % 2 = 1
  · rw [h, if_pos rfl, xor_i64_ones (by omega) (by omega)]
  · rw [show v % 2 = 0 by omega, if_neg (by omega), Int.neg_zero, xor_i64_zero (by omega) (by omega)]

theorem unsgn_code' {v : Int} (h0 : 0 ≤ v) (h1 : v < 18446744073709551616) : Go.bits .xor .i64 (wrap64 (v / 2)) (wrap64 (-wrap64 (Go.bits .and .u64 v 1))) = unsgn v := by
  have h := unsgn_code h0 h1
  have ha := and1 h0 h1
  rw [show wrap64 (v / 2) = v / 2 by unfold wrap64; omega, show wrap64 (-wrap64 (Go.bits .and .u64 v 1)) = -(Go.bits .and .u64 v 1) by rw [ha]; unfold wrap64; omega]
  exact h

theorem leb_pos (n : Nat) (v : Int) : 1 ≤ (leb n v).length := by
  cases n with
  | zero => simp [leb]
  | succ n => unfold leb; split <;> simp
theorem leb_len_mono : ∀ (n : Nat) (a b : Int), a ≤ b → (leb n a).length ≤ (leb n b).length
  | 0, a, b, _ => by simp [leb]
  | n + 1, a, b, h => by
    by_cases ha : a ≥ 128
    · have hb : b ≥ 128 := by omega
      rw [leb_more ha, leb_more hb]
      have := leb_len_mono n (a / 128) (b / 128) (by omega)
      simpa using this
    · rw [leb_last ha]
      exact leb_pos _ _
theorem leb_len_up : ∀ (n : Nat) (a : Int), (leb n a).length ≤ (leb (n + 1) a).length
  | 0, a => by have := leb_pos 1 a; simpa [leb] using this
  | n + 1, a => by
    by_cases ha : a ≥ 128
    · rw [leb_more ha, leb_more ha]
      have := leb_len_up n (a / 128)
      simpa using this
    · rw [leb_last ha, leb_last ha]
      exact Nat.le_refl _
theorem leb_len_next (n : Nat) (a b : Int) (h : b / 128 ≤ a) : (leb (n + 1) b).length ≤ (leb (n + 1) a).length + 1 := by
  by_cases hb : b ≥ 128
  · rw [leb_more hb]
    have h1 := leb_len_mono n (b / 128) a h
    have h2 := leb_len_up n a
    simp only [List.length_cons]
    omega
  · rw [leb_last hb]
    simp

/-- IN ONE WAY: what is read as a number is just that number's bytes, and fewer of them are too short. -/
theorem numL_one : ∀ (l : List Int) (i : Nat) (v : Int), i ≤ 9 → 0 ≤ v → v < 128 ^ i → (∀ b ∈ l, 0 ≤ b ∧ b ≤ 255) → (numL i v l).2.2 = 0 →
    ∃ (q : Int) (m : Nat), (numL i v l).1 = v + q * 128 ^ i ∧ (numL i v l).2.1 = i + m ∧ 1 ≤ m ∧ i + m ≤ 10 ∧ m ≤ l.length ∧ 0 ≤ q ∧ (i > 0 → 0 < q) ∧ leb (9 - i) q = l.take m ∧ ∀ k, k < m → numL i v (l.take k) = (0, 0, 11)
  | [], i, v, _, _, _, _, h => by simp [numL] at h
  | b :: l, i, v, hi, h0, h1, hl, h => by
    have hb := hl b List.mem_cons_self
    by_cases c : (i = 9 ∧ b > 1) ∨ (i > 0 ∧ b = 0)
    · rw [numL_bad c] at h; simp at h
    · by_cases cl : b < 128
      · rw [numL_last c cl]
        refine ⟨b, 1, rfl, by simp, by omega, by omega, by simp, hb.1, fun hi => by omega, ?_, ?_⟩
        · rw [leb_last (by omega), show b % 256 = b by omega]; rfl
        · intro k hk
          obtain rfl : k = 0 := by omega
          rfl
      · rw [numL_more c cl] at h ⊢
        have hn := num_bits (v := v) (b := b - 128) (k := i) hi h0 h1 (by omega) (by omega) (by omega)
        obtain ⟨q, m, e1, e2, hm, hm10, hml, hq, hq0, e3, e4⟩ := numL_one l (i + 1) (v + (b - 128) * 128 ^ i) (by omega) hn.2.2.2 hn.2.2.1 (fun x hx => hl x (List.mem_cons_of_mem _ hx)) h
        have hqp := hq0 (by omega)
        refine ⟨b - 128 + q * 128, m + 1, ?_, ?_, by omega, by omega, by simp; omega, by omega, fun _ => by omega, ?_, ?_⟩
        · rw [e1, Int.pow_succ, Int.add_mul, Int.add_assoc]
          congr 2
          rw [Int.mul_assoc, Int.mul_comm 128]
        · rw [e2]; omega
        · rw [show 9 - i = (9 - (i + 1)) + 1 by omega, leb_more (by omega), show (b - 128 + q * 128) % 128 + 128 = b by omega, show (b - 128 + q * 128) / 128 = q by omega, e3]; rfl
        · intro k hk
          cases k with
          | zero => rfl
          | succ k =>
            rw [List.take_succ_cons, numL_more c cl]
            exact e4 k (by omega)

/-- What is written is read. -/
theorem numL_leb : ∀ (n i : Nat) (u q : Int) (rest : List Int), i + n = 9 → 0 ≤ q → (i > 0 → 0 < q) → q * 128 ^ i < 18446744073709551616 →
    numL i u (leb n q ++ rest) = (u + q * 128 ^ i, ((i + (leb n q).length : Nat) : Int), 0)
  | 0, i, u, q, rest, hi, h0, hp, hb => by
    obtain rfl : i = 9 := by omega
    have hq : q ≤ 1 := by omega
    have := hp (by omega)
    simp only [leb, List.cons_append, List.nil_append]
    rw [show q % 256 = q by omega, numL_last (by omega) (by omega)]
    simp
  | n + 1, i, u, q, rest, hi, h0, hp, hb => by
    by_cases hq : q ≥ 128
    · rw [leb_more hq, List.cons_append, numL_more (by omega) (by omega)]
      have e : q * 128 ^ i = q % 128 * 128 ^ i + q / 128 * 128 ^ (i + 1) := by
        rw [Int.pow_succ, ← Int.mul_assoc, Int.mul_right_comm, ← Int.add_mul]
        congr 1
        omega
      rw [numL_leb n (i + 1) _ (q / 128) rest (by omega) (by omega) (fun _ => by omega) (by
        have : 0 ≤ q % 128 * 128 ^ i := Int.mul_nonneg (by omega) (by have := pow128_pos i; omega)
        omega)]
      rw [show q % 128 + 128 - 128 = q % 128 by omega]
      refine Prod.ext ?_ (Prod.ext ?_ rfl)
      · simp only; omega
      · simp only [List.length_cons]; omega
    · rw [leb_last hq, List.cons_append, List.nil_append, show q % 256 = q by omega]
      rw [numL_last (by omega) (by omega)]
      simp

theorem rdNum_leb {v : Int} (rest : List Int) (h0 : 0 ≤ v) (h1 : v < 18446744073709551616) : rdNum (leb 9 v ++ rest) 0 = (v, rest, 0) := by
  unfold rdNum
  rw [if_pos rfl, numL_leb 9 0 0 v rest (by omega) h0 (by omega) (by omega)]
  refine Prod.ext ?_ (Prod.ext ?_ rfl)
  · simp
  · simp
theorem unsgn_sgn {n : Int} : unsgn (sgn n) = n := by
  unfold unsgn sgn
  split <;> split <;> omega
theorem rdSigned_leb {n : Int} (rest : List Int) (h0 : -9223372036854775808 ≤ n) (h1 : n < 9223372036854775808) : rdSigned (leb 9 (sgn n) ++ rest) 0 = (n, rest, 0) := by
  unfold rdSigned
  rw [rdNum_leb rest (sgn_range h0 h1).1 (sgn_range h0 h1).2]
  simp only [unsgn_sgn]
theorem rdInt_leb {m v : Int} (rest : List Int) (h0 : 0 ≤ v) (h1 : v ≤ m) (hm : m < 18446744073709551616) : rdInt m (leb 9 v ++ rest) 0 = (v, rest, 0) := by
  unfold rdInt
  rw [rdNum_leb rest h0 (by omega)]
  simp
  omega
theorem rdText_leb {m : Int} (l rest : List Int) (h1 : (l.length : Int) ≤ m) (hm : m < 18446744073709551616) : rdText m (leb 9 l.length ++ (l ++ rest)) 0 = (l, rest, 0) := by
  unfold rdText
  rw [rdInt_leb _ (by omega) h1 hm]
  simp
  omega

theorem strOfNums_append (a b : List Int) : strOfNums (a ++ b) = strOfNums a ++ strOfNums b := by
  apply ByteArray.ext
  simp [strOfNums]
/-- What the first k of a list are written as, one behind the other; and what the others, up to the m-th. -/
def cat {α : Type} (f : α → List Int) (xs : List α) (k : Nat) : List Int := (xs.take k).flatMap f
def rest {α : Type} (f : α → List Int) (xs : List α) (m k : Nat) : List Int := ((xs.take m).drop k).flatMap f
theorem cat_succ {α : Type} (f : α → List Int) (xs : List α) (k : Nat) (h : k < xs.length) (d : α) : cat f xs (k + 1) = cat f xs k ++ f (xs.getD k d) := by
  unfold cat
  rw [List.take_succ_eq_append_getElem h, List.flatMap_append, List.getD_eq_getElem?_getD, List.getElem?_eq_getElem h]
  simp
theorem rest_zero {α : Type} (f : α → List Int) (xs : List α) (m : Nat) : rest f xs m 0 = cat f xs m := rfl
theorem rest_succ {α : Type} (f : α → List Int) (xs : List α) (m k : Nat) (h : k < xs.length) (hm : k < m) (d : α) : rest f xs m k = f (xs.getD k d) ++ rest f xs m (k + 1) := by
  unfold rest
  rw [List.drop_eq_getElem_cons (by rw [List.length_take]; omega), List.flatMap_cons, List.getElem_take, List.getD_eq_getElem?_getD, List.getElem?_eq_getElem h]
  rfl
theorem rest_end {α : Type} (f : α → List Int) (xs : List α) (m k : Nat) (h : xs.length ≤ k ∨ m ≤ k) : rest f xs m k = [] := by
  unfold rest
  rw [List.drop_eq_nil_of_le (by rw [List.length_take]; omega)]
  rfl
theorem cat_length {α : Type} (f : α → List Int) (xs : List α) (B : Nat) : ∀ k, (∀ x ∈ xs.take k, (f x).length ≤ B) → (cat f xs k).length ≤ k * B := by
  intro k h
  unfold cat
  have : ∀ l : List α, (∀ x ∈ l, (f x).length ≤ B) → (l.flatMap f).length ≤ l.length * B := by
    intro l
    induction l with
    | nil => simp
    | cons a l ih =>
      intro h
      rw [List.flatMap_cons, List.length_append, List.length_cons, Nat.succ_mul]
      have := h a List.mem_cons_self
      have := ih (fun x hx => h x (List.mem_cons_of_mem _ hx))
      omega
  exact Nat.le_trans (this _ h) (Nat.mul_le_mul_right _ (by rw [List.length_take]; omega))

theorem leb_range : ∀ (n : Nat) (v : Int), ∀ b ∈ leb n v, 0 ≤ b ∧ b ≤ 255
  | 0, v, b, h => by simp [leb] at h; omega
  | n + 1, v, b, h => by
    by_cases hv : v ≥ 128
    · rw [leb_more hv, List.mem_cons] at h
      rcases h with h | h
      · omega
      · exact leb_range n _ b h
    · rw [leb_last hv] at h
      simp at h
      omega
theorem cat_range {α : Type} (f : α → List Int) (hf : ∀ y, ∀ b ∈ f y, 0 ≤ b ∧ b ≤ 255) (xs : List α) (k : Nat) : ∀ b ∈ cat f xs k, 0 ≤ b ∧ b ≤ 255 := by
  intro b hb
  unfold cat at hb
  obtain ⟨y, _, hy⟩ := List.mem_flatMap.1 hb
  exact hf y b hy

end Go.Proofs.Ytmpgknemhmoboaa.M02
