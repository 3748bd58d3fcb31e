import Derived.Test.YtljmamlceofcfaaP06b
import Derived.Test.YtljmamlceofcfaaQ06bx
/- Plain: lists of times compared, what is wrong with a frontier, and what it holds, as this group's printed texts have it. -/
namespace Go.Proofs.Ytljmamlceofcfaa.PQ06b
set_option linter.unusedSimpArgs false
set_option linter.unusedVariables false
open Go.RowKit Go.Proofs.YtljmamlceofcfaaW.PrintWords Go.Proofs.YtljmamlceofcfaaW.PrintLast Go.Proofs.YtljmamlceofcfaaW.PrintMore Go.Proofs.Ytljmamlceofcfaa.Q06t Go.Proofs.Ytljmamlceofcfaa.Q06b Go.Proofs.Ytljmamlceofcfaa.Ext P06b
open M06 (R sgc orZ cmpT cmpR ltR leR chkR)
theorem own_f (l : List R) (h : l.length ≤ 1000000) : watershedlaw06_own.f l = some l := by
  unfold watershedlaw06_own.f
  rw [Option.bind_some, if_pos (by simp only [List.length_nil]; omega)]
  rfl
theorem great_f (l : List R) : watershedlaw06_Great.f l = some (decide ((l.length : Int) > 200)) := rfl
theorem Same_l (x y : List R) (he : x.length = y.length) (hl : x.length ≤ 1000000) : ∀ (n i k : Nat), i + n = x.length → n < k → watershedref06_Same.l0 k x y (i : Int) = some (decide (x.drop i = y.drop i)) := by
  intro n
  induction n with
  | zero =>
    intro i k hi hk
    obtain ⟨k, rfl⟩ : ∃ j, k = j + 1 := ⟨k - 1, by omega⟩
    have c1 : ¬ ((i : Int) < (x.length : Int)) := by omega
    rw [watershedref06_Same.l0, if_neg c1, List.drop_eq_nil_of_le (by omega), List.drop_eq_nil_of_le (by omega)]
    rfl
  | succ n ih =>
    intro i k hi hk
    obtain ⟨k, rfl⟩ : ∃ j, k = j + 1 := ⟨k - 1, by omega⟩
    have hx : i < x.length := by omega
    have hy : i < y.length := by omega
    have ih := ih (i + 1) k (by omega) (by omega)
    have hw := P06r.w64n hx hl
    have c1 : (i : Int) < (x.length : Int) := by omega
    have c2 : (0 : Int) ≤ (i : Int) := by omega
    have c3 : (i : Int) < (y.length : Int) := by omega
    have hrx := P06r.rd_get x i hx
    have hry := P06r.rd_get y i hy
    have hd := drop_eq hx hy
    clear hi hk hl he
    rw [watershedref06_Same.l0, if_pos c1, if_pos c2, if_pos c3, hrx, hry, neqb, hw, ih]
    simp only [hd]
    by_cases e : x[i] = y[i]
    · simp [e]
    · simp [e]
theorem Same_f (x y : List R) (hl : x.length ≤ 1000000) (k : Nat) (hk : x.length < k) : watershedref06_Same.f k x y = some (decide (x = y)) := by
  unfold watershedref06_Same.f
  by_cases he : x.length = y.length
  · rw [if_pos (by omega)]
    have := Same_l x y he hl x.length 0 k (by omega) hk
    simpa using this
  · rw [if_neg (by omega), decide_eq_false (fun e => he (by rw [e]))]
theorem Holds_l (l : List R) (hl : l.length ≤ 1000000) (t : R) : ∀ (n i k : Nat), i + n = l.length → n < k → watershedref06_Holds.l0 k l (i : Int) t.f0 t.f1 t.f2.f0 t.f2.f1 t.f2.f2 = some ((l.drop i).any fun x => leR x t) := by
  intro n
  induction n with
  | zero =>
    intro i k hi hk
    obtain ⟨k, rfl⟩ : ∃ j, k = j + 1 := ⟨k - 1, by omega⟩
    have c1 : ¬ ((i : Int) < (l.length : Int)) := by omega
    rw [watershedref06_Holds.l0, if_neg c1, List.drop_eq_nil_of_le (by omega)]
    rfl
  | succ n ih =>
    intro i k hi hk
    obtain ⟨k, rfl⟩ : ∃ j, k = j + 1 := ⟨k - 1, by omega⟩
    have hil : i < l.length := by omega
    have ih := ih (i + 1) k (by omega) (by omega)
    have hw := P06r.w64n hil hl
    have c1 : (i : Int) < (l.length : Int) := by omega
    have c2 : (0 : Int) ≤ (i : Int) := by omega
    have hr := P06r.rd_get l i hil
    have hd := List.drop_eq_getElem_cons hil
    clear hi hk hl
    rw [watershedref06_Holds.l0, if_pos c1, if_pos c2, hr, rle_f, Option.bind_some, hw, ih, hd, List.any_cons]
    cases leR l[i] t <;> simp
theorem Holds_f (l : List R) (hl : l.length ≤ 1000000) (t : R) (k : Nat) (hk : l.length < k) : watershedref06_Holds.f k l t.f0 t.f1 t.f2.f0 t.f2.f1 t.f2.f2 = some (Fr.holds leR l t) := by
  unfold watershedref06_Holds.f Fr.holds
  have := Holds_l l hl t l.length 0 k (by omega) hk
  simpa using this
theorem Equal_l (x y : List R) (he : x.length = y.length) (hl : x.length ≤ 1000000) : ∀ (n i k : Nat), i + n = x.length → n < k → api_Time_72.l0 k x y (x.length : Int) (i : Int) = some (decide (x.drop i = y.drop i)) := by
  intro n
  induction n with
  | zero =>
    intro i k hi hk
    obtain ⟨k, rfl⟩ : ∃ j, k = j + 1 := ⟨k - 1, by omega⟩
    have c1 : ¬ ((i : Int) < (x.length : Int)) := by omega
    rw [api_Time_72.l0, if_neg c1, List.drop_eq_nil_of_le (by omega), List.drop_eq_nil_of_le (by omega)]
    rfl
  | succ n ih =>
    intro i k hi hk
    obtain ⟨k, rfl⟩ : ∃ j, k = j + 1 := ⟨k - 1, by omega⟩
    have hx : i < x.length := by omega
    have hy : i < y.length := by omega
    have ih := ih (i + 1) k (by omega) (by omega)
    have hw := P06r.w64n hx hl
    have c1 : (i : Int) < (x.length : Int) := by omega
    have c2 : (0 : Int) ≤ (i : Int) := by omega
    have c3 : (i : Int) < (y.length : Int) := by omega
    have hrx := P06r.rd_get x i hx
    have hry := P06r.rd_get y i hy
    have hd := drop_eq hx hy
    clear hi hk hl he
    rw [api_Time_72.l0, if_pos c1, if_pos c2, if_pos c1, if_pos c3, hrx, hry, neqb, hw, ih]
    simp only [hd]
    by_cases e : x[i] = y[i]
    · simp [e]
    · simp [e]
theorem Equal_f (x y : List R) (hl : x.length ≤ 1000000) (k : Nat) (hk : x.length < k) : api_Time_72.f k x y = some (decide (x = y)) := by
  unfold api_Time_72.f
  by_cases he : x.length = y.length
  · rw [if_pos (by omega)]
    have := Equal_l x y he hl x.length 0 k (by omega) hk
    simpa using this
  · rw [if_neg (by omega), decide_eq_false (fun e => he (by rw [e]))]
theorem Check_f (l : List R) (hl : l.length ≤ 1000000) (k : Nat) (hk : 64 < k) : chain_Check.f k l = some (checkE l) := by
  unfold chain_Check.f checkE
  by_cases h : 64 < l.length
  · rw [if_pos (by omega), if_pos h]
  · rw [if_neg (by omega), if_neg h, make_f l hl, Option.bind_some, makeF_short (by omega)]
    by_cases h2 : V06.timesE l = 0
    · have hn : ¬ (V06.timesE l ≠ 0) := by simpa using h2
      rw [if_pos h2, if_neg hn]
      simp only [if_true]
      rw [Equal_f _ _ hl k (by omega), Option.bind_some]
      by_cases e : l = V06.frontT l
      · rw [decide_eq_true e, if_pos rfl, if_pos e]
      · rw [decide_eq_false e, if_neg (by simp), if_neg e]
    · rw [if_neg h2, if_pos h2]
      simp only
      rw [if_neg h2]
theorem refCheck_f (l : List R) (hl : l.length ≤ 1000000) (k : Nat) (hk : 64 < k) : watershedref06_Check.f k l = some (checkE l) := by
  unfold watershedref06_Check.f checkE
  by_cases h : 64 < l.length
  · rw [if_pos (by omega), if_pos h]
  · rw [if_neg (by omega), if_neg h, rtimes_f l hl, Option.bind_some]
    by_cases h2 : V06.timesE l = 0
    · rw [if_pos h2, if_neg (by simpa using h2), rmake_f l hl, Option.bind_some, makeF_short (by omega), if_pos h2]
      simp only
      rw [Same_f _ _ hl k (by omega), Option.bind_some]
      by_cases e : l = V06.frontT l
      · rw [decide_eq_true e, if_pos rfl, if_pos e]
      · rw [decide_eq_false e, if_neg (by simp), if_neg e]
    · rw [if_neg h2, if_pos h2]
end Go.Proofs.Ytljmamlceofcfaa.PQ06b
