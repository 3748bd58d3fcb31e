import Derived.Test.YtljmamlceofcfaaP06p
import Derived.Test.YtljmamlceofcfaaQ06jx
import Derived.Test.YtljmamlceofcfaaX06j
/- Plain: chain.Join. -/
namespace Go.Proofs.Ytljmamlceofcfaa.PQ06j
set_option linter.unusedSimpArgs false
set_option linter.unusedVariables false
open Go.RowKit Go.Proofs.YtljmamlceofcfaaW.PrintWords Go.Proofs.YtljmamlceofcfaaW.PrintLast Go.Proofs.YtljmamlceofcfaaW.PrintMore Go.Proofs.Ytljmamlceofcfaa.Q06t P06b P06p
open Go.Proofs.Ytljmamlceofcfaa.P04 (w01 w11 w12 w22 w23 w33 w34 w44 w00 chk)
open M06 (R sgc orZ cmpT cmpR ltR leR chkR joinR mxI)
theorem mx_I (x y : Int) : mx x y = mxI x y := by
  unfold mx mxI
  repeat' split
  all_goals omega
/-- What is wrong with two times. -/
def bothE (x y : R) : Int := if chkR x ≠ 0 then chkR x else if chkR y ≠ 0 then chkR y else if x.f1 = y.f1 then 0 else 10
def joinT (x y : R) : R := if bothE x y = 0 then joinR x y else z26
def tup (j : R) (e : Int) : Int × Int × Int × Int × Int × Int := (j.f0, j.f1, j.f2.f0, j.f2.f1, j.f2.f2, e)
theorem chk_f (x : R) : Ext.stamp_chk.f x.f0 x.f1 x.f2.f0 x.f2.f1 x.f2.f2 = some (chkR x) := rfl
theorem Or_f (k : Nat) (x y : Int) : Q06j.api_Errno.f (k + 5) [x, y] = some (if x = 0 then y else x) := by
  unfold Q06j.api_Errno.f
  simp [Q06j.api_Errno.l0, w11, w22, show rd [x, y] 0 = x from rfl, show rd [x, y] 1 = y from rfl]
  repeat' split
  all_goals first | rfl | omega | (simp_all; done)
theorem pairT_f (k : Nat) (x y : R) : Q06j.stamp_pair.f (k + 12) x.f0 x.f1 x.f2.f0 x.f2.f1 x.f2.f2 y.f0 y.f1 y.f2.f0 y.f2.f1 y.f2.f2 = some (bothE x y) := by
  unfold Q06j.stamp_pair.f bothE
  rw [chk_f, chk_f]
  simp only [Option.bind_some, Or_f (k + 7)]
  by_cases h1 : chkR x = 0
  · by_cases h2 : chkR y = 0
    · by_cases h3 : x.f1 = y.f1 <;> simp [h1, h2, h3]
    · simp [h1, h2]
  · simp [h1]
theorem joinT_f (k : Nat) (x y : R) : Q06j.stamp_Join.f (k + 12) x.f0 x.f1 x.f2.f0 x.f2.f1 x.f2.f2 y.f0 y.f1 y.f2.f0 y.f2.f1 y.f2.f2 = some (tup (joinT x y) (bothE x y)) := by
  unfold Q06j.stamp_Join.f joinT
  rw [pairT_f, Option.bind_some]
  by_cases h : bothE x y = 0
  · rw [if_pos h, if_pos h, h]
    simp [Q06j.stamp_Join.l0, w11, w22, w33, mx_I, tup, joinR]
  · rw [if_neg h, if_neg h]
    rfl
def joinsT (a b : List R) : List R := a.flatMap fun x => b.map fun y => joinT x y
theorem joinsT_length (a b : List R) : (joinsT a b).length = a.length * b.length := by
  unfold joinsT
  induction a with
  | nil => simp
  | cons x a ih => rw [List.flatMap_cons, List.length_append, ih, List.length_map, List.length_cons, Nat.succ_mul, Nat.add_comm]
theorem l1_f (a b : List R) (hb : b.length ≤ 1000) (x : R) (i : Int) : ∀ (n j : Nat) (acc : List R) (k : Nat), j + n = b.length → acc.length + n ≤ 1000000 → 12 ≤ k →
    Q06j.chain_Join.l1 (k + n + 1) b acc a (a.length : Int) i b (b.length : Int) (j : Int) x.f0 x.f1 x.f2.f0 x.f2.f1 x.f2.f2 = Q06j.chain_Join.l0 k b (acc ++ (b.drop j).map (joinT x)) a (a.length : Int) (wrap64 (i + 1)) := by
  intro n
  induction n with
  | zero =>
    intro j acc k hj hac hk
    have c1 : ¬ ((j : Int) < (b.length : Int)) := by omega
    rw [Nat.add_zero, Q06j.chain_Join.l1, if_neg c1, List.drop_eq_nil_of_le (by omega), List.map_nil, List.append_nil]
  | succ n ih =>
    intro j acc k hj hac hk
    have hjl : j < b.length := by omega
    have ih := ih (j + 1) (acc ++ [joinT x b[j]]) k (by omega) (by simp; omega) hk
    have hw := P06r.w64n hjl (by omega)
    have c1 : (j : Int) < (b.length : Int) := by omega
    have c2 : (0 : Int) ≤ (j : Int) := by omega
    have c3 : acc.length < 4398046511104 := by omega
    have hr := P06r.rd_get b j hjl
    have hd := List.drop_eq_getElem_cons hjl
    have hJ := joinT_f (k + n + 1 - 12) x b[j]
    rw [show k + n + 1 - 12 + 12 = k + n + 1 by omega] at hJ
    clear hj hac hk hb
    rw [show k + (n + 1) + 1 = (k + n + 1) + 1 from rfl, Q06j.chain_Join.l1, if_pos c1, if_pos c2, if_pos c1, hr, hJ, Option.bind_some, if_pos c3, hw]
    rw [hd, List.map_cons]
    rw [List.append_assoc] at ih
    exact ih
theorem l0_f (a b : List R) (ha : a.length ≤ 1000) (hb : b.length ≤ 1000) : ∀ (n i : Nat) (acc : List R) (k : Nat), i + n = a.length → acc.length + n * b.length ≤ 1000000 → 12 ≤ k →
    Q06j.chain_Join.l0 (k + n * (b.length + 2) + 1) b acc a (a.length : Int) (i : Int) = some (V06.makeF (acc ++ joinsT (a.drop i) b)) := by
  intro n
  induction n with
  | zero =>
    intro i acc k hi hac hk
    have c1 : ¬ ((i : Int) < (a.length : Int)) := by omega
    have hM := make_f acc (by omega)
    rw [Nat.zero_mul, Nat.add_zero, Q06j.chain_Join.l0, if_neg c1, List.drop_eq_nil_of_le (by omega), hM]
    show some (V06.makeF acc) = some (V06.makeF (acc ++ []))
    rw [List.append_nil]
  | succ n ih =>
    intro i acc k hi hac hk
    have hil : i < a.length := by omega
    have hmul : (n + 1) * b.length = n * b.length + b.length := Nat.succ_mul _ _
    have ih := ih (i + 1) (acc ++ b.map (joinT a[i])) k (by omega) (by rw [List.length_append, List.length_map]; omega) hk
    have hw := P06r.w64n hil (by omega)
    have c1 : (i : Int) < (a.length : Int) := by omega
    have c2 : (0 : Int) ≤ (i : Int) := by omega
    have hr := P06r.rd_get a i hil
    have hd := List.drop_eq_getElem_cons hil
    have hL := l1_f a b hb a[i] (i : Int) b.length 0 acc (k + n * (b.length + 2) + 1) (by omega) (by omega) (by omega)
    have hf : k + (n + 1) * (b.length + 2) + 1 = (k + n * (b.length + 2) + 1 + b.length + 1) + 1 := by rw [Nat.succ_mul]; omega
    rw [List.drop_zero, hw] at hL
    clear hi hac hk hb ha hmul
    rw [hf, Q06j.chain_Join.l0, if_pos c1, if_pos c2, if_pos c1, hr]
    rw [show ((0 : Nat) : Int) = 0 from rfl] at hL
    rw [hL, ih, hd]
    unfold joinsT
    rw [List.flatMap_cons, List.append_assoc]
/-- What chain.Join gives. -/
def joinF (a b : List R) : List R × Int := if pairE a b ≠ 0 then ([], pairE a b) else V06.makeF (joinsT a b)
theorem checkE_len {a : List R} (h : checkE a = 0) : a.length ≤ 64 := by
  unfold checkE at h
  split at h
  · exact absurd h (by omega)
  · omega
theorem pairE_len {a b : List R} (h : pairE a b = 0) : a.length ≤ 64 ∧ b.length ≤ 64 := by
  unfold pairE at h
  by_cases h1 : checkE a = 0
  · rw [if_neg (by simpa using h1)] at h
    by_cases h2 : checkE b = 0
    · exact ⟨checkE_len h1, checkE_len h2⟩
    · rw [if_pos h2] at h
      exact absurd h h2
  · rw [if_pos h1] at h
    exact absurd h h1
theorem Join_k (a b : List R) (ha : a.length ≤ 1000000) (hb : b.length ≤ 1000000) (k : Nat) (hk : 10000 ≤ k) : Q06j.chain_Join.f k a b = some (joinF a b) := by
  unfold Q06j.chain_Join.f joinF
  rw [pair_f a b ha hb, Option.bind_some]
  by_cases h : pairE a b = 0
  · have hn : ¬ (pairE a b ≠ 0) := by simpa using h
    obtain ⟨h1, h2⟩ := pairE_len h
    have hm : a.length * b.length ≤ 64 * 64 := Nat.mul_le_mul h1 h2
    have hm2 : a.length * (b.length + 2) ≤ 64 * 66 := Nat.mul_le_mul h1 (by omega)
    have := l0_f a b (by omega) (by omega) a.length 0 [] (k - a.length * (b.length + 2) - 1) (by omega) (by simp; omega) (by omega)
    rw [show k - a.length * (b.length + 2) - 1 + a.length * (b.length + 2) + 1 = k by omega] at this
    rw [if_pos h, if_neg hn]
    exact this
  · rw [if_neg h, if_pos h]
theorem Join_f (a b : List R) (ha : a.length ≤ 1000000) (hb : b.length ≤ 1000000) : Ext.chain_Join.f a b = some (joinF a b) := by
  unfold Ext.chain_Join.f
  exact Join_k a b ha hb _ (by omega)
end Go.Proofs.Ytljmamlceofcfaa.PQ06j
