import Derived.Test.YtnapckkbnpocgaaM03b
/- Plain facts about bits that are turned within 32 that stand together. -/
namespace Go.Proofs.Ytnapckkbnpocgaa.M03
open Go.RowKit

def bitAt (l : List Int) (p : Nat) : Bool := (l.getD (p / 8) 0).toNat.testBit (p % 8)
/-- The first n bits of t turned in l, from bit f on. -/
def burst (t f : Nat) : Nat → List Int → List Int
  | 0, l => l
  | n + 1, l => (burst t f n l).set ((f + n) / 8) ((((burst t f n l).getD ((f + n) / 8) 0).toNat ^^^ (if t.testBit n then 2 ^ ((f + n) % 8) else 0) : Nat) : Int)
theorem burst_length (t f : Nat) : ∀ (n : Nat) (l : List Int), (burst t f n l).length = l.length
  | 0, _ => rfl
  | n + 1, l => by unfold burst; rw [List.length_set, burst_length t f n l]
theorem burst_range (t f : Nat) : ∀ (n : Nat) (l : List Int), (∀ b ∈ l, 0 ≤ b ∧ b ≤ 255) → ∀ b ∈ burst t f n l, 0 ≤ b ∧ b ≤ 255
  | 0, _, h => h
  | n + 1, l, h => by
    intro b hb
    have ih := burst_range t f n l h
    unfold burst at hb
    rcases List.mem_or_eq_of_mem_set hb with hb | rfl
    · exact ih b hb
    · have h1 : ((burst t f n l).getD ((f + n) / 8) 0).toNat < 2 ^ 8 := by
        rw [List.getD_eq_getElem?_getD]
        cases hg : (burst t f n l)[(f + n) / 8]? with
        | none => simp
        | some y =>
          have := ih y (List.mem_of_getElem? hg)
          simp only [Option.getD_some]
          omega
      have h2 : (if t.testBit n then 2 ^ ((f + n) % 8) else 0) < 2 ^ 8 := by
        split
        · exact Nat.pow_lt_pow_right (by omega) (by omega)
        · omega
      have := Nat.xor_lt_two_pow h1 h2
      omega
theorem bitAt_burst (t f : Nat) : ∀ (n : Nat) (l : List Int) (p : Nat), f + n ≤ 8 * l.length → bitAt (burst t f n l) p = (bitAt l p ^^ (decide (f ≤ p ∧ p < f + n) && t.testBit (p - f)))
  | 0, l, p, _ => by
    have : decide (f ≤ p ∧ p < f + 0) = false := decide_eq_false (by omega)
    rw [this]; simp [burst]
  | n + 1, l, p, h => by
    have ih := bitAt_burst t f n l p (by omega)
    have hl := burst_length t f n l
    by_cases hq : p / 8 = (f + n) / 8
    · have hlt : (f + n) / 8 < (burst t f n l).length := by omega
      have e1 : bitAt (burst t f (n + 1) l) p = (bitAt (burst t f n l) p ^^ (t.testBit n && decide (p = f + n))) := by
        unfold bitAt
        rw [hq, burst, List.getD_eq_getElem?_getD, List.getElem?_set_self hlt, Option.getD_some, Int.toNat_natCast, Nat.testBit_xor]
        congr 1
        cases t.testBit n with
        | false => simp
        | true =>
          simp only [if_true, Bool.true_and, Nat.testBit_two_pow]
          congr 1
          rw [eq_iff_iff]
          omega
      rw [e1, ih]
      by_cases hp : p = f + n
      · subst hp
        have a1 : decide (f ≤ f + n ∧ f + n < f + n) = false := decide_eq_false (by omega)
        have a2 : decide (f ≤ f + n ∧ f + n < f + (n + 1)) = true := decide_eq_true (by omega)
        rw [a1, a2, show f + n - f = n by omega]
        simp
      · have a1 : decide (f ≤ p ∧ p < f + n) = decide (f ≤ p ∧ p < f + (n + 1)) := by congr 1; rw [eq_iff_iff]; omega
        rw [a1, decide_eq_false hp]
        simp
    · have e1 : bitAt (burst t f (n + 1) l) p = bitAt (burst t f n l) p := by
        unfold bitAt
        rw [burst, List.getD_eq_getElem?_getD, List.getElem?_set_ne (Ne.symm hq), ← List.getD_eq_getElem?_getD]
      rw [e1, ih]
      have a1 : decide (f ≤ p ∧ p < f + n) = decide (f ≤ p ∧ p < f + (n + 1)) := by
        congr 1; rw [eq_iff_iff]
        have : p ≠ f + n := fun h => hq (by rw [h])
        omega
      rw [a1]
theorem bits_length : ∀ l : List Int, (bits l).length = 8 * l.length
  | [] => rfl
  | b :: l => by unfold bits; rw [List.length_append, bits_length l]; simp; omega
theorem bits_get : ∀ (l : List Int) (p : Nat), p < 8 * l.length → (bits l)[p]? = some (bitAt l p)
  | [], p, h => by simp at h
  | b :: l, p, h => by
    unfold bits
    by_cases hp : p < 8
    · rw [List.getElem?_append_left (by simpa using hp)]
      unfold bitAt
      rw [show p / 8 = 0 by omega, show p % 8 = p by omega]
      simp [hp]
    · rw [List.getElem?_append_right (by simp; omega)]
      have e : (List.map (fun i => b.toNat.testBit i) (List.range 8)).length = 8 := by simp
      rw [e, bits_get l (p - 8) (by simp at h; omega)]
      unfold bitAt
      rw [show p / 8 = (p - 8) / 8 + 1 by omega, show (p - 8) % 8 = p % 8 by omega]
      simp
theorem bits_burst (t f : Nat) (l : List Int) (h : f + 32 ≤ 8 * l.length) :
    bits (burst t f 32 l) = List.zipWith xor (bits l) (List.replicate f false ++ ((List.range 32).map fun i => (BitVec.ofNat 32 t).getLsbD i) ++ List.replicate (8 * l.length - (f + 32)) false) := by
  apply List.ext_getElem?
  intro p
  by_cases hp : p < 8 * l.length
  · rw [bits_get _ _ (by rw [burst_length]; exact hp), bitAt_burst t f 32 l p h, List.getElem?_zipWith, bits_get l p hp]
    have he : (List.replicate f false ++ ((List.range 32).map fun i => (BitVec.ofNat 32 t).getLsbD i) ++ List.replicate (8 * l.length - (f + 32)) false)[p]? = some (decide (f ≤ p ∧ p < f + 32) && t.testBit (p - f)) := by
      by_cases h1 : p < f
      · rw [List.append_assoc, List.getElem?_append_left (by simpa using h1), List.getElem?_replicate, if_pos h1, decide_eq_false (by omega)]
        rfl
      · by_cases h2 : p < f + 32
        · rw [List.getElem?_append_left (by simp; omega), List.getElem?_append_right (by simp; omega), decide_eq_true (by omega)]
          have h3 : p - f < 32 := by omega
          simp [h3]
          rw [← BitVec.getLsbD_eq_getElem, BitVec.getLsbD_ofNat, decide_eq_true h3]
          simp
        · rw [List.getElem?_append_right (by simp; omega), List.getElem?_replicate, decide_eq_false (by omega), if_pos (by simp; omega)]
          rfl
    rw [he]
  · rw [List.getElem?_eq_none (by rw [bits_length, burst_length]; omega), List.getElem?_eq_none (by rw [List.length_zipWith, bits_length]; omega)]
/-- Bits that are turned within 32 that stand together: the sum is another one. -/
theorem sum_burst (t f : Nat) (l : List Int) (hr : ∀ b ∈ l, 0 ≤ b ∧ b ≤ 255) (h : f + 32 ≤ 8 * l.length) (h0 : 0 < t) (h1 : t < 4294967296) : sumOf (burst t f 32 l) ≠ sumOf l := by
  intro he
  have h2 := sum_eq he
  rw [go_fb _ _ (burst_range t f 32 l hr), go_fb _ _ hr, bits_burst t f l h] at h2
  refine fb_burst (bits l) _ (BitVec.ofNat 32 t) f (8 * l.length - (f + 32)) ?_ (by rw [bits_length]; omega) h2
  intro hz
  have := congrArg BitVec.toNat hz
  rw [BitVec.toNat_ofNat] at this
  simp at this
  omega

theorem testBit_div (t n : Nat) : t.testBit n = decide (t / 2 ^ n % 2 = 1) := by
  rw [Nat.testBit_eq_decide_div_mod_eq]
/-- A byte with a bit turned, as the walk spells it. -/
theorem turn_code {v : Int} (hv : 0 ≤ v ∧ v ≤ 255) (t : Nat) (ht : t < 4294967296) (n r : Nat) (hr : r < 8) :
    Go.bits .xor .u8 v (IntKind.u8.wrap (IntKind.u8.wrap (Go.bits .and .u32 ((t : Int) / 2 ^ n) 1) * 2 ^ r)) = ((v.toNat ^^^ (if t.testBit n then 2 ^ r else 0) : Nat) : Int) := by
  rw [IntKind.wrap_u8 (Go.bits .and .u32 ((t : Int) / 2 ^ n) 1)]
  have hd : (t : Int) / 2 ^ n = ((t / 2 ^ n : Nat) : Int) := by rw [Int.natCast_ediv]; simp
  have hlt : t / 2 ^ n < 4294967296 := Nat.lt_of_le_of_lt (Nat.div_le_self _ _) ht
  have hp : 2 ^ r < 256 := Nat.lt_of_lt_of_le (Nat.pow_lt_pow_right (m := r) (n := 8) (by omega) hr) (by decide)
  have hp2 : (2 : Int) ^ r = ((2 ^ r : Nat) : Int) := by simp
  rw [testBit_div, hd, hp2]
  generalize t / 2 ^ n = q at hlt ⊢
  generalize 2 ^ r = P at hp ⊢
  have ha : Go.bits .and .u32 (q : Int) 1 = ((q % 2 : Nat) : Int) := by
    have := bits_mask .u32 32 (by decide) (fun n a b => by rw [wrap_u32]; omega) 1 (by decide) (q : Int) (by omega) (by omega)
    simpa using this
  rw [ha]
  by_cases hb : q % 2 = 1
  · rw [hb, decide_eq_true rfl, if_pos rfl]
    have e : IntKind.u8.wrap (((1 : Nat) : Int) % 256 * (P : Int)) = (P : Int) := by
      rw [IntKind.wrap_u8, show ((1 : Nat) : Int) % 256 = 1 from rfl, Int.one_mul]; omega
    rw [e, u8_xor v _ hv.1 (by omega) (by omega) (by omega), Int.toNat_natCast]
  · have h0 : q % 2 = 0 := by omega
    rw [h0, decide_eq_false (by omega), if_neg (by simp)]
    have e : IntKind.u8.wrap (((0 : Nat) : Int) % 256 * (P : Int)) = 0 := by
      rw [IntKind.wrap_u8, show ((0 : Nat) : Int) % 256 = 0 from rfl, Int.zero_mul]; rfl
    rw [e, u8_xor v 0 hv.1 (by omega) (by omega) (by omega)]
    rfl
end Go.Proofs.Ytnapckkbnpocgaa.M03
