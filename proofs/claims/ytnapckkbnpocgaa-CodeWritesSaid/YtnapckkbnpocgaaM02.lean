import Derived.Laws.BytesArg
import Derived.Laws.BitsLemmas
import Derived.Laws.BitsAllLaws
import Derived.RowKit
/- Plain facts about a number's bytes, seven bits a byte: no program in sight. -/
namespace Go.Proofs.Ytnapckkbnpocgaa.M02
open Go.RowKit

/-- A number's bytes, the lowest seven bits first, in at most n + 1 bytes. -/
def leb : Nat → Int → List Int
  | 0, v => [v % 256]
  | k + 1, v => if v ≥ 128 then (v % 128 + 128) :: leb k (v / 128) else [v % 256]

/-- A number with a sign as one without. -/
def sgn (n : Int) : Int := if n < 0 then 2 * (-(n + 1)) + 1 else 2 * n

theorem leb_length : ∀ (n : Nat) (v : Int), (leb n v).length ≤ n + 1
  | 0, v => by simp [leb]
  | n + 1, v => by
    unfold leb
    split
    · have := leb_length n (v / 128); simp; omega
    · simp

theorem leb_more {n : Nat} {v : Int} (h : v ≥ 128) : leb (n + 1) v = (v % 128 + 128) :: leb n (v / 128) := by simp [leb, h]
theorem leb_last {n : Nat} {v : Int} (h : ¬ v ≥ 128) : leb n v = [v % 256] := by cases n <;> simp [leb, h]

theorem or128 {v : Int} (_h : 0 ≤ v) : Go.bits .or .u8 (v % 256) 128 = v % 128 + 128 := by
  obtain ⟨a, ha⟩ := Int.eq_ofNat_of_zero_le (show 0 ≤ v % 256 by omega)
  have hlt : a < 256 := by omega
  rw [ha, show (128 : Int) = ((128 : Nat) : Int) from rfl, (bits_nat .u8 8 (by decide) (fun n h0 h1 => wraps_u8 n h0 h1) a 128 hlt (by decide)).2]
  have hall : ∀ b : Fin 256, b.val ||| 128 = b.val % 128 + 128 := by decide +kernel
  have := hall ⟨a, hlt⟩
  simp only at this
  rw [this]
  omega

theorem wrap_u64 (n : Int) : IntKind.u64.wrap n = n % 18446744073709551616 := by simp [IntKind.wrap, IntKind.bits, IntKind.signed]

theorem tdiv128 {v : Int} (h0 : 0 ≤ v) (h1 : v < 18446744073709551616) : IntKind.u64.wrap (Int.tdiv v 128) = v / 128 := by
  rw [wrap_u64, Int.tdiv_eq_ediv_of_nonneg h0]; omega

theorem tmod128 {v : Int} (h0 : 0 ≤ v) : (Int.tmod v 128 + 128) % 256 = v % 128 + 128 := by
  rw [Int.tmod_eq_emod_of_nonneg h0]; omega

theorem xor_ones (x : Nat) (h : x < 18446744073709551616) : x ^^^ 18446744073709551615 = 18446744073709551615 - x := by
  have := BitVec.toNat_not (x := BitVec.ofNat 64 x)
  rw [← BitVec.xor_allOnes, BitVec.toNat_xor, BitVec.toNat_allOnes, BitVec.toNat_ofNat, Nat.mod_eq_of_lt h] at this
  exact this

theorem sgn_code {n : Int} (h0 : -9223372036854775808 ≤ n) (h1 : n < 9223372036854775808) :
    Go.bits .xor .u64 (IntKind.u64.wrap ((IntKind.u64.wrap n) * 2)) (IntKind.u64.wrap (n / 9223372036854775808)) = sgn n := by
  simp only [wrap_u64]
  unfold sgn
  by_cases hn : n < 0
  · rw [if_pos hn]
    have e1 : (n % 18446744073709551616 * 2) % 18446744073709551616 = 2 * n + 18446744073709551616 := by omega
    have e2 : (n / 9223372036854775808) % 18446744073709551616 = 18446744073709551615 := by omega
    rw [e1, e2, u64_xor _ _ (by omega) (by omega) (by omega) (by omega)]
    rw [show (18446744073709551615 : Int).toNat = 18446744073709551615 from rfl, xor_ones _ (by omega)]
    omega
  · rw [if_neg hn]
    have e1 : (n % 18446744073709551616 * 2) % 18446744073709551616 = 2 * n := by omega
    have e2 : (n / 9223372036854775808) % 18446744073709551616 = 0 := by omega
    rw [e1, e2, u64_xor _ _ (by omega) (by omega) (by omega) (by omega)]
    rw [show (0 : Int).toNat = 0 from rfl, Nat.xor_zero]
    omega

theorem sgn_ref_neg {n : Int} (h0 : -9223372036854775808 ≤ n) (hn : n < 0) :
    (IntKind.u64.wrap ((IntKind.u64.wrap (2 * (IntKind.u64.wrap (wrap64 (-(wrap64 (n + 1))))))) + 1)) = sgn n := by
  simp only [wrap_u64]
  unfold sgn wrap64
  rw [if_pos hn]
  omega

theorem sgn_ref_pos {n : Int} (hn : ¬ n < 0) (h1 : n < 9223372036854775808) : (IntKind.u64.wrap (2 * (IntKind.u64.wrap n))) = sgn n := by
  simp only [wrap_u64]
  unfold sgn
  rw [if_neg hn]
  omega

theorem sgn_range {n : Int} (h0 : -9223372036854775808 ≤ n) (h1 : n < 9223372036854775808) : 0 ≤ sgn n ∧ sgn n < 18446744073709551616 := by
  unfold sgn
  split <;> omega

end Go.Proofs.Ytnapckkbnpocgaa.M02
