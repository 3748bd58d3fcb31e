import Derived.Test.YtljmamlceofcfaaPQ06j
import Derived.Test.YtljmamlceofcfaaX06M
import Derived.Test.YtljmamlceofcfaaQ06sx
/- Plain: the document's Meet and Join; the law ChainStands. -/
namespace Go.Proofs.Ytljmamlceofcfaa.PQ06s
set_option linter.unusedSimpArgs false
set_option linter.unusedVariables false
open Go.RowKit Go.Proofs.YtljmamlceofcfaaW.PrintWords Go.Proofs.YtljmamlceofcfaaW.PrintLast Go.Proofs.YtljmamlceofcfaaW.PrintMore Go.Proofs.Ytljmamlceofcfaa.Q06t P06b P06p PQ06j
open Go.Proofs.Ytljmamlceofcfaa.P04 (w01 w11 w12 w22 w23 w33 w34 w44 w00 chk)
open M06 (R sgc orZ cmpT cmpR ltR leR chkR joinR mxI)
theorem rchk_f (x : R) : Ext.ref_chk.f x.f0 x.f1 x.f2.f0 x.f2.f1 x.f2.f2 = some (chkR x) := rfl
theorem rboth_f (x y : R) : Q06s.watershedref04_both.f x.f0 x.f1 x.f2.f0 x.f2.f1 x.f2.f2 y.f0 y.f1 y.f2.f0 y.f2.f1 y.f2.f2 = some (bothE x y) := by
  unfold Q06s.watershedref04_both.f bothE
  rw [rchk_f, rchk_f]
  simp only [Option.bind_some]
  by_cases h1 : chkR x = 0
  · by_cases h2 : chkR y = 0
    · by_cases h3 : x.f1 = y.f1 <;> simp [h1, h2, h3]
    · simp [h1, h2]
  · simp [h1]
theorem rjoinT_f (k : Nat) (x y : R) : Q06s.watershedref04_Join.f (k + 12) x.f0 x.f1 x.f2.f0 x.f2.f1 x.f2.f2 y.f0 y.f1 y.f2.f0 y.f2.f1 y.f2.f2 = some (tup (joinT x y) (bothE x y)) := by
  unfold Q06s.watershedref04_Join.f joinT
  rw [rboth_f, Option.bind_some]
  by_cases h : bothE x y = 0
  · rw [if_pos h, if_pos h, h]
    simp [Q06s.watershedref04_Join.l0, w11, w22, w33, mx_I, tup, joinR]
  · rw [if_neg h, if_neg h]
    rfl
theorem l1_f (a b : List R) (ha : a.length ≤ 1000) (hb : b.length ≤ 1000) (i : Nat) (hi : i < a.length) : ∀ (n j : Nat) (acc : List R) (k : Nat), j + n = b.length → acc.length + n ≤ 1000000 → 12 ≤ k →
    Q06s.watershedref06_Join.l1 (k + n + 1) a b acc (i : Int) (j : Int) = Q06s.watershedref06_Join.l0 k a b (acc ++ (b.drop j).map (joinT a[i])) (((i + 1 : Nat)) : Int) := by
  intro n
  induction n with
  | zero =>
    intro j acc k hj hac hk
    have c1 : ¬ ((j : Int) < (b.length : Int)) := by omega
    have hw := P06r.w64n hi (by omega)
    rw [Nat.add_zero, Q06s.watershedref06_Join.l1, if_neg c1, List.drop_eq_nil_of_le (by omega), List.map_nil, List.append_nil, hw]
  | succ n ih =>
    intro j acc k hj hac hk
    have hjl : j < b.length := by omega
    have ih := ih (j + 1) (acc ++ [joinT a[i] b[j]]) k (by omega) (by simp; omega) hk
    have hw := P06r.w64n hjl (by omega)
    have c1 : (j : Int) < (b.length : Int) := by omega
    have c2 : (0 : Int) ≤ (j : Int) := by omega
    have c3 : acc.length < 4398046511104 := by omega
    have c4 : (0 : Int) ≤ (i : Int) := by omega
    have c5 : (i : Int) < (a.length : Int) := by omega
    have hr := P06r.rd_get b j hjl
    have hr2 := P06r.rd_get a i hi
    have hd := List.drop_eq_getElem_cons hjl
    have hJ := rjoinT_f (k + n + 1 - 12) a[i] b[j]
    rw [show k + n + 1 - 12 + 12 = k + n + 1 by omega] at hJ
    clear hj hac hk hb
    rw [show k + (n + 1) + 1 = (k + n + 1) + 1 from rfl, Q06s.watershedref06_Join.l1, if_pos c1, if_pos c4, if_pos c5, if_pos c2, hr, hr2, hJ, Option.bind_some, if_pos c3, hw]
    rw [hd, List.map_cons]
    rw [List.append_assoc] at ih
    exact ih
theorem l0_f (a b : List R) (ha : a.length ≤ 1000) (hb : b.length ≤ 1000) : ∀ (n i : Nat) (acc : List R) (k : Nat), i + n = a.length → acc.length + n * b.length ≤ 1000000 → 12 ≤ k →
    Q06s.watershedref06_Join.l0 (k + n * (b.length + 2) + 1) a b acc (i : Int) = some (V06.makeF (acc ++ joinsT (a.drop i) b)) := by
  intro n
  induction n with
  | zero =>
    intro i acc k hi hac hk
    have c1 : ¬ ((i : Int) < (a.length : Int)) := by omega
    have hM := rmake_f acc (by omega)
    rw [Nat.zero_mul, Nat.add_zero, Q06s.watershedref06_Join.l0, if_neg c1, List.drop_eq_nil_of_le (by omega), hM]
    show some (V06.makeF acc) = some (V06.makeF (acc ++ []))
    rw [List.append_nil]
  | succ n ih =>
    intro i acc k hi hac hk
    have hil : i < a.length := by omega
    have hmul : (n + 1) * b.length = n * b.length + b.length := Nat.succ_mul _ _
    have ih := ih (i + 1) (acc ++ b.map (joinT a[i])) k (by omega) (by rw [List.length_append, List.length_map]; omega) hk
    have c1 : (i : Int) < (a.length : Int) := by omega
    have hd := List.drop_eq_getElem_cons hil
    have hL := l1_f a b ha hb i hil b.length 0 acc (k + n * (b.length + 2) + 1) (by omega) (by omega) (by omega)
    have hf : k + (n + 1) * (b.length + 2) + 1 = (k + n * (b.length + 2) + 1 + b.length + 1) + 1 := by rw [Nat.succ_mul]; omega
    rw [List.drop_zero] at hL
    clear hi hac hk hb ha hmul
    rw [hf, Q06s.watershedref06_Join.l0, if_pos c1]
    rw [show ((0 : Nat) : Int) = 0 from rfl] at hL
    rw [hL, ih, hd]
    unfold joinsT
    rw [List.flatMap_cons, List.append_assoc]
theorem rJoin_f (a b : List R) (ha : a.length ≤ 1000000) (hb : b.length ≤ 1000000) (k : Nat) (hk : 10000 ≤ k) : Q06s.watershedref06_Join.f k a b = some (joinF a b) := by
  unfold Q06s.watershedref06_Join.f joinF
  rw [both_f a b ha hb, Option.bind_some]
  by_cases h : pairE a b = 0
  · have hn : ¬ (pairE a b ≠ 0) := by simpa using h
    obtain ⟨h1, h2⟩ := pairE_len h
    have hm : a.length * b.length ≤ 64 * 64 := Nat.mul_le_mul h1 h2
    have hm2 : a.length * (b.length + 2) ≤ 64 * 66 := Nat.mul_le_mul h1 (by omega)
    have := l0_f a b (by omega) (by omega) a.length 0 [] (k - a.length * (b.length + 2) - 1) (by omega) (by simp; omega) (by omega)
    rw [show k - a.length * (b.length + 2) - 1 + a.length * (b.length + 2) + 1 = k by omega] at this
    rw [if_pos h, if_neg hn]
    exact this
  · rw [if_neg h, if_pos h]
theorem rMeet_f (a b : List R) (ha : a.length ≤ 100000) (hb : b.length ≤ 100000) : Q06s.watershedref06_Meet.f a b = some (V06.meetF a b) := by
  unfold Q06s.watershedref06_Meet.f V06.meetF
  rw [both_f a b (by omega) (by omega), Option.bind_some]
  by_cases h : pairE a b = 0
  · have hn : ¬ (pairE a b ≠ 0) := by simpa using h
    have c1 : ([] : List R).length + a.length < 4398046511104 := by simp only [List.length_nil]; omega
    have c2 : (([] : List R) ++ a).length + b.length < 4398046511104 := by simp only [List.nil_append]; omega
    have hM := rmake_f (([] : List R) ++ a ++ b) (by simp only [List.nil_append, List.length_append]; omega)
    rw [if_pos h, if_neg hn, Option.bind_some, if_pos c1, Option.bind_some, if_pos c2, hM]
    rfl
  · rw [if_neg h, if_pos h]
theorem Meet_f (a b : List R) (ha : a.length ≤ 100000) (hb : b.length ≤ 100000) : Ext.chain_Meet.f a b = some (V06.meetF a b) := if_pos ⟨ha, hb⟩
theorem meetF_length (a b : List R) : (V06.meetF a b).1.length ≤ 64 := by
  unfold V06.meetF
  split
  · simp
  · exact makeF_length _
theorem joinF_length (a b : List R) : (joinF a b).1.length ≤ 64 := by
  unfold joinF
  split
  · simp
  · exact makeF_length _
theorem j0_f (a b : List R) (ha : a.length ≤ 200) (hb : b.length ≤ 200) (k : Nat) (hk : 10000 ≤ k) : Q06s.watershedlaw06_ChainStands.j0 (k + 1) a b false = some true := by
  have o1 := own_f a (by omega)
  have o2 := own_f b (by omega)
  have m1 := Meet_f a b (by omega) (by omega)
  have m2 := rMeet_f a b (by omega) (by omega)
  have j1 := Join_f a b (by omega) (by omega)
  have j2 := rJoin_f a b (by omega) (by omega) k hk
  have l1 := le_f a b (by omega) (by omega)
  have l2 := rLE_f a b (by omega) (by omega)
  have hm := meetF_length a b
  have hj := joinF_length a b
  have s1 := Same_f (V06.meetF a b).1 (V06.meetF a b).1 (by omega)
  have s2 := Same_f (joinF a b).1 (joinF a b).1 (by omega)
  clear ha hb hk hm hj
  rw [Q06s.watershedlaw06_ChainStands.j0, if_neg (by simp)]
  simp only [o1, o2, m1, m2, j1, j2, l1, l2, s1, s2, Option.bind_some, decide_true, beq_self_eq_true, if_true]
theorem ChainStands_f (a b : List R) : Q06s.watershedlaw06_ChainStands.f 20001 a b = some true := by
  unfold Q06s.watershedlaw06_ChainStands.f
  rw [great_f, Option.bind_some]
  by_cases h : (a.length : Int) > 200
  · rw [if_pos (decide_eq_true h), show (20001 : Nat) = 20000 + 1 from rfl, Q06s.watershedlaw06_ChainStands.j0, if_pos rfl]
  · rw [if_neg (by simpa using h), great_f, Option.bind_some]
    by_cases h2 : (b.length : Int) > 200
    · rw [decide_eq_true h2, show (20001 : Nat) = 20000 + 1 from rfl, Q06s.watershedlaw06_ChainStands.j0, if_pos rfl]
    · rw [decide_eq_false h2]
      exact j0_f a b (by omega) (by omega) 20000 (by omega)
end Go.Proofs.Ytljmamlceofcfaa.PQ06s
