import Derived.Test.YtljmamlceofcfaaPQ06b
import Derived.Test.YtljmamlceofcfaaX06b
/- Plain: the functions of chapter 6 that the laws' groups call, under their own names. -/
namespace Go.Proofs.Ytljmamlceofcfaa.P06p
set_option linter.unusedSimpArgs false
set_option linter.unusedVariables false
open Go.RowKit Go.Proofs.YtljmamlceofcfaaW.PrintWords Go.Proofs.YtljmamlceofcfaaW.PrintLast Go.Proofs.YtljmamlceofcfaaW.PrintMore Go.Proofs.Ytljmamlceofcfaa.Q06t Go.Proofs.Ytljmamlceofcfaa.Ext P06b
open M06 (R sgc orZ cmpT cmpR ltR leR chkR)
/-- What is wrong with two frontiers. -/
def pairE (a b : List R) : Int := if checkE a ≠ 0 then checkE a else if checkE b ≠ 0 then checkE b else if 0 < a.length ∧ 0 < b.length ∧ (a.headD z26).f1 ≠ (b.headD z26).f1 then 10 else 0
theorem head0 (l : List R) : rd_T26 l 0 = l.headD z26 := by cases l <;> rfl
theorem own_f (l : List R) (h : l.length ≤ 1000000) : watershedlaw06_own.f l = some l := PQ06b.own_f l h
theorem great_f (l : List R) : watershedlaw06_Great.f l = some (decide ((l.length : Int) > 200)) := rfl
theorem Same_f (x y : List R) (hl : x.length ≤ 1000000) : watershedref06_Same.f x y = some (decide (x = y)) := by
  unfold Ext.watershedref06_Same.f
  exact PQ06b.Same_f x y hl _ (by omega)
theorem rHolds_f (l : List R) (hl : l.length ≤ 1000000) (t : R) : watershedref06_Holds.f l t.f0 t.f1 t.f2.f0 t.f2.f1 t.f2.f2 = some (Fr.holds leR l t) := by
  unfold Ext.watershedref06_Holds.f
  exact PQ06b.Holds_f l hl t _ (by omega)
theorem Check_f (l : List R) (hl : l.length ≤ 1000000) : chain_Check.f l = some (checkE l) := by
  unfold Ext.chain_Check.f
  exact PQ06b.Check_f l hl _ (by omega)
theorem rCheck_f (l : List R) (hl : l.length ≤ 1000000) : watershedref06_Check.f l = some (checkE l) := by
  unfold Ext.watershedref06_Check.f
  exact PQ06b.refCheck_f l hl _ (by omega)
theorem pair_k (a b : List R) (ha : a.length ≤ 1000000) (hb : b.length ≤ 1000000) (k : Nat) (hk : 64 < k) : Q06b.chain_pair.f k a b = some (pairE a b) := by
  unfold Q06b.chain_pair.f pairE
  rw [PQ06b.Check_f a ha k hk, Option.bind_some]
  by_cases h1 : checkE a = 0
  · have n1 : ¬ checkE a ≠ 0 := by simpa using h1
    rw [if_pos h1, if_neg n1, PQ06b.Check_f b hb k hk, Option.bind_some]
    by_cases h2 : checkE b = 0
    · have n2 : ¬ checkE b ≠ 0 := by simpa using h2
      rw [if_pos h2, if_neg n2, head0, head0]
      by_cases h3 : 0 < a.length
      · by_cases h4 : 0 < b.length
        · have c3 : (a.length : Int) > 0 := by omega
          have c4 : (b.length : Int) > 0 := by omega
          rw [if_pos c3, if_pos c4, if_pos c3, if_pos c4]
          by_cases h5 : (a.headD z26).f1 = (b.headD z26).f1
          · rw [if_pos h5, if_neg (fun q => q.2.2 h5)]
          · rw [if_neg h5, if_pos ⟨h3, h4, h5⟩]
        · have c3 : (a.length : Int) > 0 := by omega
          have c4 : ¬ (b.length : Int) > 0 := by omega
          rw [if_pos c3, if_neg c4, if_neg (fun q => h4 q.2.1)]
      · have c3 : ¬ (a.length : Int) > 0 := by omega
        rw [if_neg c3, if_neg (fun q => h3 q.1)]
    · rw [if_neg h2, if_pos h2]
  · rw [if_neg h1, if_pos h1]
theorem both_k (a b : List R) (ha : a.length ≤ 1000000) (hb : b.length ≤ 1000000) (k : Nat) (hk : 64 < k) : Q06b.watershedref06_both.f k a b = some (pairE a b) := by
  unfold Q06b.watershedref06_both.f pairE
  rw [PQ06b.refCheck_f a ha k hk, Option.bind_some]
  by_cases h1 : checkE a = 0
  · have n1 : ¬ checkE a ≠ 0 := by simpa using h1
    rw [if_pos h1, if_neg n1, PQ06b.refCheck_f b hb k hk, Option.bind_some]
    by_cases h2 : checkE b = 0
    · have n2 : ¬ checkE b ≠ 0 := by simpa using h2
      rw [if_pos h2, if_neg n2, head0, head0]
      by_cases h3 : 0 < a.length
      · by_cases h4 : 0 < b.length
        · have c3 : (a.length : Int) > 0 := by omega
          have c4 : (b.length : Int) > 0 := by omega
          rw [if_pos c3, if_pos c4, if_pos c3, if_pos c4]
          by_cases h5 : (a.headD z26).f1 = (b.headD z26).f1
          · rw [if_pos h5, if_neg (fun q => q.2.2 h5), h2]
          · rw [if_neg h5, if_pos ⟨h3, h4, h5⟩]
        · have c3 : (a.length : Int) > 0 := by omega
          have c4 : ¬ (b.length : Int) > 0 := by omega
          rw [if_pos c3, if_neg c4, if_neg (fun q => h4 q.2.1), h2]
      · have c3 : ¬ (a.length : Int) > 0 := by omega
        rw [if_neg c3, if_neg (fun q => h3 q.1), h2]
    · rw [if_neg h2, if_pos h2]
  · rw [if_neg h1, if_pos h1]
theorem pair_f (a b : List R) (ha : a.length ≤ 1000000) (hb : b.length ≤ 1000000) : chain_pair.f a b = some (pairE a b) := by
  unfold Ext.chain_pair.f
  exact pair_k a b ha hb _ (by omega)
theorem both_f (a b : List R) (ha : a.length ≤ 1000000) (hb : b.length ≤ 1000000) : watershedref06_both.f a b = some (pairE a b) := by
  unfold Ext.watershedref06_both.f
  exact both_k a b ha hb _ (by omega)
theorem rLE_l (a b : List R) (ha : a.length ≤ 1000000) (hb : b.length ≤ 1000000) : ∀ (n i k : Nat), i + n = b.length → n + a.length < k → Q06b.watershedref06_LE.l0 k a b (i : Int) = some ((b.drop i).all fun t => Fr.holds leR a t) := by
  intro n
  induction n with
  | zero =>
    intro i k hi hk
    obtain ⟨k, rfl⟩ : ∃ j, k = j + 1 := ⟨k - 1, by omega⟩
    have c1 : ¬ ((i : Int) < (b.length : Int)) := by omega
    rw [Q06b.watershedref06_LE.l0, if_neg c1, List.drop_eq_nil_of_le (by omega)]
    rfl
  | succ n ih =>
    intro i k hi hk
    obtain ⟨k, rfl⟩ : ∃ j, k = j + 1 := ⟨k - 1, by omega⟩
    have hil : i < b.length := by omega
    have ih := ih (i + 1) k (by omega) (by omega)
    have hw := P06r.w64n hil hb
    have c1 : (i : Int) < (b.length : Int) := by omega
    have c2 : (0 : Int) ≤ (i : Int) := by omega
    have hr := P06r.rd_get b i hil
    have hd := List.drop_eq_getElem_cons hil
    have hH := PQ06b.Holds_f a ha b[i] k (by omega)
    clear hi hk hb ha
    rw [Q06b.watershedref06_LE.l0, if_pos c1, if_pos c2, hr, hH, Option.bind_some, hw, ih, hd, List.all_cons]
    cases Fr.holds leR a b[i] <;> simp
theorem rLE_f (a b : List R) (ha : a.length ≤ 900000) (hb : b.length ≤ 900000) : watershedref06_LE.f a b = some (Fr.leF leR a b) := by
  unfold Ext.watershedref06_LE.f Q06b.watershedref06_LE.f Fr.leF
  have := rLE_l a b (by omega) (by omega) b.length 0 2000000 (by omega) (by omega)
  simpa using this
end Go.Proofs.Ytljmamlceofcfaa.P06p
