import Derived.Laws.BytesArg
import Derived.Laws.BitsLemmas
import Derived.Laws.BitsAllLaws
import Derived.RowKit
/- Plain facts about the check sum: a step of a bit is linear and loses nothing. -/
namespace Go.Proofs.Ytmpgknemhmoboaa.M03
open Go.RowKit

/-- A bit's step. -/
def M (c : BitVec 32) : BitVec 32 := (c >>> 1) ^^^ (if c.getLsbD 0 then 0x82F63B78#32 else 0#32)
def Mn : Nat → BitVec 32 → BitVec 32
  | 0, c => c
  | n + 1, c => Mn n (M c)
/-- A byte's step. -/
def B (c : BitVec 32) (b : Int) : BitVec 32 := Mn 8 (c ^^^ BitVec.ofInt 32 b)
def go (c : BitVec 32) (l : List Int) : BitVec 32 := l.foldl B c
/-- The check sum of a text behind another one with the sum c. -/
def more (c : BitVec 32) (l : List Int) : BitVec 32 := ~~~ go (~~~ c) l

def sumOf (l : List Int) : BitVec 32 := more 0 l
/-- A sum's bytes, the lowest one first. -/
def sumBytes (c : BitVec 32) : List Int := [(c.toNat : Int) % 256, (c.toNat : Int) / 256 % 256, (c.toNat : Int) / 65536 % 256, (c.toNat : Int) / 16777216]

theorem M_xor (a b : BitVec 32) : M (a ^^^ b) = M a ^^^ M b := by
  unfold M
  apply BitVec.eq_of_getLsbD_eq
  intro i hi
  rw [BitVec.getLsbD_xor (x := a) (y := b) (i := 0)]
  cases a.getLsbD 0 <;> cases b.getLsbD 0 <;> simp only [Bool.xor_false, Bool.xor_true, Bool.not_true, Bool.not_false, if_true, Bool.false_eq_true, if_false, BitVec.getLsbD_xor, BitVec.getLsbD_ushiftRight, BitVec.getLsbD_zero] <;>
    (generalize a.getLsbD (1 + i) = x; generalize b.getLsbD (1 + i) = y; generalize (0x82F63B78#32).getLsbD i = z; revert x y z; decide)
theorem M_zero : M 0#32 = 0#32 := by decide
theorem M_inj {c : BitVec 32} (h : M c = 0#32) : c = 0#32 := by
  have h31 : (M c).getLsbD 31 = false := by rw [h]; simp
  unfold M at h31 h
  rw [BitVec.getLsbD_xor, BitVec.getLsbD_ushiftRight] at h31
  cases hc : c.getLsbD 0 with
  | true =>
    rw [hc] at h31
    simp at h31
  | false =>
    rw [hc] at h
    simp at h
    apply BitVec.eq_of_getLsbD_eq
    intro i hi
    simp only [BitVec.getLsbD_zero]
    cases i with
    | zero => exact hc
    | succ i =>
      have := congrArg (fun x => x.getLsbD i) h
      simp only [BitVec.getLsbD_ushiftRight, BitVec.getLsbD_zero] at this
      rw [Nat.add_comm]
      exact this
theorem Mn_xor : ∀ (n : Nat) (a b : BitVec 32), Mn n (a ^^^ b) = Mn n a ^^^ Mn n b
  | 0, _, _ => rfl
  | n + 1, a, b => by unfold Mn; rw [M_xor, Mn_xor n]
theorem Mn_zero : ∀ n : Nat, Mn n 0#32 = 0#32
  | 0 => rfl
  | n + 1 => by unfold Mn; rw [M_zero, Mn_zero n]
theorem Mn_inj : ∀ (n : Nat) (c : BitVec 32), Mn n c = 0#32 → c = 0#32
  | 0, _, h => h
  | n + 1, _, h => M_inj (Mn_inj n _ h)
theorem go_append (c : BitVec 32) (a b : List Int) : go c (a ++ b) = go (go c a) b := by unfold go; rw [List.foldl_append]
theorem more_more (a b : List Int) (c : BitVec 32) : more (more c a) b = more c (a ++ b) := by
  unfold more
  rw [BitVec.not_not, go_append]

/-! Steps as the walk spells them. -/
theorem lt32 (c : BitVec 32) : (0 : Int) ≤ c.toNat ∧ (c.toNat : Int) < 4294967296 := by have := c.isLt; omega
theorem xor32 (c d : BitVec 32) : Go.bits .xor .u32 (c.toNat : Int) (d.toNat : Int) = ((c ^^^ d).toNat : Int) := by
  rw [u32_xor_nat _ _ (by have := c.isLt; omega) (by have := d.isLt; omega), BitVec.toNat_xor]
theorem ofInt_toNat {b : Int} (h0 : 0 ≤ b) (h1 : b < 4294967296) : ((BitVec.ofInt 32 b).toNat : Int) = b := by
  obtain ⟨n, rfl⟩ := Int.eq_ofNat_of_zero_le h0
  rw [BitVec.ofInt_natCast, BitVec.toNat_ofNat]
  omega
theorem xor_in (c : BitVec 32) {b : Int} (h0 : 0 ≤ b) (h1 : b < 4294967296) : Go.bits .xor .u32 (c.toNat : Int) b = ((c ^^^ BitVec.ofInt 32 b).toNat : Int) := by
  have := xor32 c (BitVec.ofInt 32 b)
  rw [ofInt_toNat h0 h1] at this
  exact this
theorem xor_byte (c : BitVec 32) {b : Int} (h0 : 0 ≤ b) (h1 : b ≤ 255) : Go.bits .xor .u32 (c.toNat : Int) (b % 4294967296) = ((c ^^^ BitVec.ofInt 32 b).toNat : Int) := by
  rw [show b % 4294967296 = b by omega]
  exact xor_in c h0 (by omega)
theorem not_in (c : BitVec 32) : Go.bits .xor .u32 IntKind.u32.max (c.toNat : Int) = ((~~~c).toNat : Int) := by
  have := xor32 (BitVec.allOnes 32) c
  rw [show ((BitVec.allOnes 32).toNat : Int) = IntKind.u32.max from by simp [IntKind.max, IntKind.bits, IntKind.signed]] at this
  rw [this, BitVec.xor_comm, BitVec.xor_allOnes]
theorem half (c : BitVec 32) : ((c >>> 1).toNat : Int) = (c.toNat : Int) / 2 := by
  rw [BitVec.toNat_ushiftRight, Nat.shiftRight_eq_div_pow]
  omega
theorem lsb (c : BitVec 32) : c.getLsbD 0 = decide ((c.toNat : Int) % 2 = 1) := by
  rw [BitVec.getLsbD, Nat.testBit_zero]
  congr 1
  rw [eq_iff_iff]
  omega
theorem M_odd (c : BitVec 32) (h : (c.toNat : Int) % 2 = 1) : Go.bits .xor .u32 ((c.toNat : Int) / 2) 2197175160 = ((M c).toNat : Int) := by
  unfold M
  rw [lsb, decide_eq_true h, if_pos rfl, ← xor32, half]
  rfl
theorem M_even (c : BitVec 32) (h : ¬ (c.toNat : Int) % 2 = 1) : (c.toNat : Int) / 2 = ((M c).toNat : Int) := by
  unfold M
  rw [lsb, decide_eq_false h, if_neg (by simp), BitVec.xor_zero, half]
theorem wrap_u32 (n : Int) : IntKind.u32.wrap n = n % 4294967296 := IntKind.wrap_u32 n
theorem and1_32 (c : BitVec 32) : Go.bits .and .u32 (c.toNat : Int) 1 = (c.toNat : Int) % 2 := by
  have := bits_mask .u32 32 (by decide) (fun n a b => by rw [wrap_u32]; omega) 1 (by decide) (c.toNat : Int) (lt32 c).1 (by have := (lt32 c).2; omega)
  simpa using this
theorem M_code (c : BitVec 32) : Go.bits .xor .u32 ((c.toNat : Int) / 2) (2197175160 * Go.bits .and .u32 (c.toNat : Int) 1 % 4294967296) = ((M c).toNat : Int) := by
  rw [and1_32]
  by_cases h : (c.toNat : Int) % 2 = 1
  · rw [h, ← M_odd c h]; rfl
  · have h0 : (c.toNat : Int) % 2 = 0 := by omega
    rw [h0, ← M_even c h, ← half]
    have := xor32 (c >>> 1) 0#32
    rw [BitVec.xor_zero] at this
    exact this

end Go.Proofs.Ytmpgknemhmoboaa.M03
