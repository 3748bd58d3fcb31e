import Derived.Test.YtnapckkbnpocgaaM03
/- Plain facts about the check sum: what differs in one byte, or within 32 bits that stand together, has another sum. -/
namespace Go.Proofs.Ytnapckkbnpocgaa.M03
open Go.RowKit

theorem xor_self_iff {a b : BitVec 32} (h : a ^^^ b = 0#32) : a = b := by
  have : a ^^^ b ^^^ b = 0#32 ^^^ b := by rw [h]
  rw [BitVec.xor_assoc, BitVec.xor_self, BitVec.xor_zero, BitVec.zero_xor] at this
  exact this
theorem Mn_eq {n : Nat} {a b : BitVec 32} (h : Mn n a = Mn n b) : a = b := by
  apply xor_self_iff
  apply Mn_inj n
  rw [Mn_xor, h, BitVec.xor_self]
theorem B_eq {c d : BitVec 32} {x : Int} (h : B c x = B d x) : c = d := by
  have := Mn_eq h
  have h2 : c ^^^ BitVec.ofInt 32 x ^^^ BitVec.ofInt 32 x = d ^^^ BitVec.ofInt 32 x ^^^ BitVec.ofInt 32 x := by rw [this]
  rwa [BitVec.xor_assoc, BitVec.xor_self, BitVec.xor_zero, BitVec.xor_assoc, BitVec.xor_self, BitVec.xor_zero] at h2
theorem go_eq : ∀ (l : List Int) {c d : BitVec 32}, go c l = go d l → c = d
  | [], _, _, h => h
  | _ :: l, _, _, h => B_eq (go_eq l h)
theorem B_ne {c : BitVec 32} {x y : Int} (hx : 0 ≤ x ∧ x ≤ 255) (hy : 0 ≤ y ∧ y ≤ 255) (h : B c x = B c y) : x = y := by
  have h1 := Mn_eq h
  have h2 : c ^^^ (c ^^^ BitVec.ofInt 32 x) = c ^^^ (c ^^^ BitVec.ofInt 32 y) := by rw [h1]
  rw [← BitVec.xor_assoc, BitVec.xor_self, BitVec.zero_xor, ← BitVec.xor_assoc, BitVec.xor_self, BitVec.zero_xor] at h2
  rw [← ofInt_toNat hx.1 (by omega), ← ofInt_toNat hy.1 (by omega), h2]
theorem sum_eq {a b : List Int} (h : sumOf a = sumOf b) : go (~~~ 0) a = go (~~~ 0) b := by
  unfold sumOf more at h
  have := congrArg (fun x => ~~~ x) h
  simpa using this
/-- One byte is another one. -/
theorem sum_byte (a l : List Int) {x y : Int} (hx : 0 ≤ x ∧ x ≤ 255) (hy : 0 ≤ y ∧ y ≤ 255) (hne : x ≠ y) : sumOf (a ++ x :: l) ≠ sumOf (a ++ y :: l) := by
  intro h
  have h1 := sum_eq h
  rw [go_append, go_append] at h1
  exact hne (B_ne hx hy (go_eq l (c := B _ x) (d := B _ y) h1))
theorem sumBytes_eq {c d : BitVec 32} (h : sumBytes c = sumBytes d) : c = d := by
  unfold sumBytes at h
  simp only [List.cons.injEq, and_true] at h
  have hc := lt32 c
  have hd := lt32 d
  apply BitVec.eq_of_toNat_eq
  omega

/-! Bit by bit. -/
def fb (c : BitVec 32) (l : List Bool) : BitVec 32 := l.foldl (fun c b => M (c ^^^ (if b then 1#32 else 0#32))) c
def bits : List Int → List Bool
  | [] => []
  | b :: l => (List.range 8).map (fun i => b.toNat.testBit i) ++ bits l
theorem fb_append (c : BitVec 32) (a b : List Bool) : fb c (a ++ b) = fb (fb c a) b := by unfold fb; rw [List.foldl_append]

theorem M_shl {W : BitVec 32} (h : W.getLsbD 0 = false) : M W = W >>> 1 := by unfold M; rw [h]; simp
theorem split_low (W : BitVec 32) : W = (if W.getLsbD 0 then 1#32 else 0#32) ^^^ ((W >>> 1) <<< 1) := by
  apply BitVec.eq_of_getLsbD_eq
  intro i hi
  rw [BitVec.getLsbD_xor, BitVec.getLsbD_shiftLeft, BitVec.getLsbD_ushiftRight]
  cases i with
  | zero => cases W.getLsbD 0 <;> simp
  | succ i =>
    have h1 : (if W.getLsbD 0 = true then 1#32 else 0#32).getLsbD (i + 1) = false := by
      split
      · rw [show (1#32) = BitVec.ofNat 32 1 from rfl]; simp [BitVec.getLsbD_one]
      · simp
    rw [h1]
    simp [hi, Nat.add_comm]
/-- The lowest n bits of a word that has no others, fed one by one. -/
theorem word : ∀ (n : Nat) (c W : BitVec 32), n ≤ 32 → (∀ i, n ≤ i → W.getLsbD i = false) → Mn n (c ^^^ W) = fb c ((List.range n).map fun i => W.getLsbD i)
  | 0, c, W, _, h => by
    have : W = 0#32 := BitVec.eq_of_getLsbD_eq fun i _ => by rw [h i (Nat.zero_le _)]; simp
    rw [this, BitVec.xor_zero]
    rfl
  | n + 1, c, W, hn, h => by
    have e1 : M (c ^^^ W) = M (c ^^^ (if W.getLsbD 0 then 1#32 else 0#32)) ^^^ (W >>> 1) := by
      conv => lhs; rw [split_low W, ← BitVec.xor_assoc, M_xor]
      congr 1
      rw [M_shl (by simp)]
      apply BitVec.eq_of_getLsbD_eq
      intro i hi
      rw [BitVec.getLsbD_ushiftRight, BitVec.getLsbD_shiftLeft]
      by_cases h31 : 1 + i < 32
      · simp [h31]
      · have : i = 31 := by omega
        subst this
        simp
    rw [show Mn (n + 1) (c ^^^ W) = Mn n (M (c ^^^ W)) from rfl, e1, word n _ (W >>> 1) (by omega) (fun i hi => by rw [BitVec.getLsbD_ushiftRight]; exact h _ (by omega))]
    rw [List.range_succ_eq_map, List.map_cons, List.map_map]
    show _ = fb (M (c ^^^ (if W.getLsbD 0 then 1#32 else 0#32))) _
    congr 1
    apply List.map_congr_left
    intro i _
    simp [BitVec.getLsbD_ushiftRight, Nat.add_comm]
theorem ofInt_bit {b : Int} (h0 : 0 ≤ b) (h1 : b ≤ 255) (i : Nat) (hi : i < 32) : (BitVec.ofInt 32 b).getLsbD i = b.toNat.testBit i := by
  obtain ⟨n, rfl⟩ := Int.eq_ofNat_of_zero_le h0
  rw [BitVec.ofInt_natCast, BitVec.getLsbD_ofNat, Int.toNat_natCast, decide_eq_true hi, Bool.true_and]
theorem B_fb (c : BitVec 32) {b : Int} (h0 : 0 ≤ b) (h1 : b ≤ 255) : B c b = fb c ((List.range 8).map fun i => b.toNat.testBit i) := by
  unfold B
  rw [word 8 c _ (by omega) (fun i hi => by
    by_cases h : i < 32
    · rw [ofInt_bit h0 h1 i h]
      apply Nat.testBit_lt_two_pow
      have : 2 ^ 8 ≤ 2 ^ i := Nat.pow_le_pow_right (by omega) hi
      omega
    · exact BitVec.getLsbD_of_ge _ _ (by omega))]
  congr 1
  apply List.map_congr_left
  intro i hi
  rw [List.mem_range] at hi
  exact ofInt_bit h0 h1 i (by omega)
theorem go_fb : ∀ (l : List Int) (c : BitVec 32), (∀ b ∈ l, 0 ≤ b ∧ b ≤ 255) → go c l = fb c (bits l)
  | [], _, _ => rfl
  | b :: l, c, h => by
    have hb := h b List.mem_cons_self
    rw [show go c (b :: l) = go (B c b) l from rfl, go_fb l _ (fun x hx => h x (List.mem_cons_of_mem _ hx)), B_fb c hb.1 hb.2, ← fb_append]
    rfl
theorem one_xor (b d : Bool) : (if (b ^^ d) then 1#32 else 0#32) = (if b then 1#32 else 0#32) ^^^ (if d then 1#32 else 0#32) := by cases b <;> cases d <;> rfl
theorem fb_xor : ∀ (x y : List Bool) (c d : BitVec 32), x.length = y.length → fb (c ^^^ d) (List.zipWith xor x y) = fb c x ^^^ fb d y
  | [], [], _, _, _ => rfl
  | b :: x, e :: y, c, d, h => by
    have h' : x.length = y.length := by simpa using h
    show fb (M _) _ = fb (M _) _ ^^^ fb (M _) _
    rw [← fb_xor x y _ _ h', ← M_xor]
    congr 2
    show c ^^^ d ^^^ (if (b ^^ e) then 1#32 else 0#32) = _
    rw [one_xor]
    apply BitVec.eq_of_getLsbD_eq
    intro i hi
    simp only [BitVec.getLsbD_xor]
    generalize c.getLsbD i = p
    generalize d.getLsbD i = q
    generalize (if b = true then 1#32 else 0#32).getLsbD i = r
    generalize (if e = true then 1#32 else 0#32).getLsbD i = s
    revert p q r s
    decide
theorem fb_false : ∀ (n : Nat) (c : BitVec 32), fb c (List.replicate n false) = Mn n c
  | 0, _ => rfl
  | n + 1, c => by
    show fb (M (c ^^^ 0#32)) _ = _
    rw [BitVec.xor_zero, fb_false n]
    rfl
/-- Bits that are turned within 32 that stand together. -/
theorem fb_burst (x : List Bool) (c W : BitVec 32) (f r : Nat) (hW : W ≠ 0#32) (hl : x.length = f + 32 + r) :
    fb c (List.zipWith xor x (List.replicate f false ++ ((List.range 32).map fun i => W.getLsbD i) ++ List.replicate r false)) ≠ fb c x := by
  intro h
  have h1 := fb_xor x (List.replicate f false ++ ((List.range 32).map fun i => W.getLsbD i) ++ List.replicate r false) c 0#32 (by simp; omega)
  rw [BitVec.xor_zero, h] at h1
  have h2 : fb 0#32 (List.replicate f false ++ ((List.range 32).map fun i => W.getLsbD i) ++ List.replicate r false) = 0#32 := by
    have h3 : fb c x ^^^ fb c x = fb c x ^^^ (fb c x ^^^ fb 0#32 (List.replicate f false ++ ((List.range 32).map fun i => W.getLsbD i) ++ List.replicate r false)) := by rw [← h1]
    rw [← BitVec.xor_assoc, BitVec.xor_self, BitVec.zero_xor] at h3
    exact h3.symm
  rw [fb_append, fb_append, fb_false f, Mn_zero, ← word 32 0#32 W (by omega) (fun i hi => BitVec.getLsbD_of_ge _ _ (by omega)), fb_false r, BitVec.zero_xor] at h2
  exact hW (Mn_inj 32 _ (Mn_inj r _ h2))

end Go.Proofs.Ytnapckkbnpocgaa.M03
