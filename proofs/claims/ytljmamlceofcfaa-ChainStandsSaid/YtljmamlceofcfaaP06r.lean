import Derived.Test.YtljmamlceofcfaaQ06rx
import Derived.Test.YtljmamlceofcfaaM06
import Derived.Test.YtljmamlceofcfaaXO06
import Derived.Test.YtljmamlceofcfaaX06t
import Derived.Test.YtljmamlceofcfaaFr2
/- Plain: the document's LE, Compare, times. -/
namespace Go.Proofs.Ytljmamlceofcfaa.P06r
set_option linter.unusedSimpArgs false
set_option linter.unusedVariables false
open Go.RowKit Go.Proofs.YtljmamlceofcfaaW.PrintWords Go.Proofs.YtljmamlceofcfaaW.PrintLast Go.Proofs.YtljmamlceofcfaaW.PrintMore Go.Proofs.Ytljmamlceofcfaa.Q06t Go.Proofs.Ytljmamlceofcfaa.Q06r Go.Proofs.Ytljmamlceofcfaa.Ext
open Go.Proofs.Ytljmamlceofcfaa.P04 (w01 w11 w12 w22 w23 w33 w34 w44 w00)
open M06 (R sgc orZ cmpT cmpR ltR leR chkR sgc_zero)
theorem refLE_f (k : Nat) (a0 a1 a2 a3 a4 b0 b1 b2 b3 b4 : Int) : watershedref04_LE.f (k + 12) a0 a1 a2 a3 a4 b0 b1 b2 b3 b4 = some (leB a0 a1 a2 a3 a4 b0 b1 b2 b3 b4) := by
  unfold watershedref04_LE.f leB
  by_cases h : a1 = b1
  · subst h
    by_cases h0 : a1 < 0
    · simp [h0, watershedref04_LE.j0]; omega
    · by_cases h1 : a1 > 3
      · simp [h0, h1, watershedref04_LE.j0]; omega
      · by_cases h2 : a0 > b0
        · simp [h0, h1, h2, watershedref04_LE.j0]; omega
        · obtain rfl | rfl | rfl | rfl : a1 = 0 ∨ a1 = 1 ∨ a1 = 2 ∨ a1 = 3 := by omega
          all_goals
            simp [h2, watershedref04_LE.j0, watershedref04_LE.l0, w11, w22, w33]
            repeat' split
            all_goals first | rfl | omega | (simp; omega)
  · simp [h, watershedref04_LE.j0]
theorem order_f (x y : Int) : watershedref04_order.f x y = some (sgc x y) := by
  unfold watershedref04_order.f sgc
  repeat' split
  all_goals rfl
theorem refCompare_f (k : Nat) (a0 a1 a2 a3 a4 b0 b1 b2 b3 b4 : Int) : watershedref04_Compare.f (k + 12) a0 a1 a2 a3 a4 b0 b1 b2 b3 b4 = some (cmpT a0 a1 a2 a3 a4 b0 b1 b2 b3 b4) := by
  unfold watershedref04_Compare.f
  have hz : ∀ x, sgc x x = 0 := fun x => sgc_zero.2 rfl
  by_cases h1 : a1 = b1
  · subst h1
    simp [cmpT, hz, orZ, order_f, watershedref04_Compare.l0, w11, w22, w33, sgc_zero]
    repeat' split
    all_goals first | rfl | (simp_all [sgc_zero, hz]; done) | (simp_all [sgc_zero]; exact (sgc_zero.2 rfl).symm) | (simp_all [sgc_zero]; exact sgc_zero.2 rfl)
  · have hn : sgc a1 b1 ≠ 0 := fun h => h1 (sgc_zero.1 h)
    simp [cmpT, orZ, hn]
    unfold sgc
    repeat' split
    all_goals first | rfl | omega
theorem rd_get (l : List R) (i : Nat) (h : i < l.length) : rd_T26 l (i : Int) = l[i] := by
  unfold rd_T26
  rw [Int.toNat_natCast, List.getD_eq_getElem?_getD, List.getElem?_eq_getElem h]
  rfl
theorem w64n {k n : Nat} (h : k < n) (hn : n ≤ 1000000) : wrap64 ((k : Int) + 1) = ((k + 1 : Nat) : Int) := by unfold wrap64; omega
theorem times_l1 (l : List R) (hl : l.length ≤ 1000000) : ∀ (n i k : Nat), i + n = l.length → n < k → watershedref06_times.l1 k l (i : Int) = some (if (l.drop i).any (fun x => !(x.f1 == (l.headD z26).f1)) then 10 else 0) := by
  intro n
  induction n with
  | zero =>
    intro i k hi hk
    obtain ⟨k, rfl⟩ : ∃ j, k = j + 1 := ⟨k - 1, by omega⟩
    have c1 : ¬ ((i : Int) < (l.length : Int)) := by omega
    rw [watershedref06_times.l1, if_neg c1, List.drop_eq_nil_of_le (by omega)]
    rfl
  | succ n ih =>
    intro i k hi hk
    obtain ⟨k, rfl⟩ : ∃ j, k = j + 1 := ⟨k - 1, by omega⟩
    have hil : i < l.length := by omega
    have ih := ih (i + 1) k (by omega) (by omega)
    have hw := w64n hil hl
    have c1 : (i : Int) < (l.length : Int) := by omega
    have c2 : (0 : Int) ≤ (i : Int) := by omega
    have c3 : (0 : Int) < (l.length : Int) := by omega
    have h0 : rd_T26 l 0 = l.headD z26 := by cases l <;> rfl
    have hr := rd_get l i hil
    have hd := List.drop_eq_getElem_cons hil
    clear hi hk hl
    rw [watershedref06_times.l1, if_pos c1, if_pos c2, if_pos c3, hr, h0, hd, List.any_cons]
    by_cases e : l[i].f1 = (l.headD z26).f1
    · rw [if_pos e, hw, ih]
      simp [e]
    · rw [if_neg e, beq_eq_false_iff_ne.2 e, Bool.not_false, Bool.true_or, if_pos rfl]
theorem times_l0 (l : List R) (hl : l.length ≤ 1000000) : ∀ (n i k : Nat), i + n = l.length → n + l.length + 1 < k → V06.timesF (l.drop i) = V06.timesF l → watershedref06_times.l0 k l (i : Int) = some (V06.timesE l) := by
  intro n
  induction n with
  | zero =>
    intro i k hi hk ht
    obtain ⟨k, rfl⟩ : ∃ j, k = j + 1 := ⟨k - 1, by omega⟩
    have c1 : ¬ ((i : Int) < (l.length : Int)) := by omega
    rw [List.drop_eq_nil_of_le (by omega)] at ht
    have h1 := times_l1 l hl l.length 0 k (by omega) (by omega)
    rw [watershedref06_times.l0, if_neg c1]
    rw [List.drop_zero] at h1
    rw [show ((0 : Nat) : Int) = 0 from rfl] at h1
    rw [h1]
    unfold V06.timesE V06.sameDepth
    rw [← ht]
    cases l.any fun x => !(x.f1 == (l.headD z26).f1) <;> rfl
  | succ n ih =>
    intro i k hi hk ht
    obtain ⟨k, rfl⟩ : ∃ j, k = j + 1 := ⟨k - 1, by omega⟩
    have hil : i < l.length := by omega
    have hw := w64n hil hl
    have c1 : (i : Int) < (l.length : Int) := by omega
    have c2 : (0 : Int) ≤ (i : Int) := by omega
    have hr := rd_get l i hil
    rw [V06.timesF_drop hil] at ht
    have hc : ref_chk.f l[i].f0 l[i].f1 l[i].f2.f0 l[i].f2.f1 l[i].f2.f2 = some (chkR l[i]) := rfl
    have ih := ih (i + 1) k (by omega) (by omega)
    clear hi hk hl
    rw [watershedref06_times.l0, if_pos c1, if_pos c2, hr, hc, Option.bind_some]
    by_cases e : chkR l[i] = 0
    · rw [if_pos e, hw]
      rw [if_neg (by simpa using e)] at ht
      exact ih ht
    · rw [if_neg e]
      rw [if_pos e] at ht
      unfold V06.timesE
      rw [← ht, if_pos e]
theorem times_f (l : List R) (hl : l.length ≤ 1000000) (k : Nat) (hk : 2 * l.length + 1 < k) : watershedref06_times.f k l = some (V06.timesE l) := by
  unfold watershedref06_times.f
  exact times_l0 l hl l.length 0 k (by omega) (by omega) rfl
/-- What the document's Make gives. -/
def makeR (l : List R) : List R × Int := if 4096 < l.length then ([], 7) else if V06.timesE l ≠ 0 then ([], V06.timesE l) else if 64 < (Fr.made leR ltR z26 l l.length).length then ([], 7) else (Fr.made leR ltR z26 l l.length, 0)
theorem timesF_ok : ∀ {l : List R}, V06.timesF l = 0 → ∀ x, x ∈ l → M06.okR x
  | [], _, x, h => by cases h
  | y :: t, h, x, hx => by
    rw [V06.timesF] at h
    by_cases e : chkR y = 0
    · rw [if_neg (by simpa using e)] at h
      rcases List.mem_cons.1 hx with rfl | hx
      · exact e
      · exact timesF_ok h x hx
    · rw [if_pos e] at h
      exact absurd h e
theorem timesE_ok {l : List R} (h : V06.timesE l = 0) : ∀ x, x ∈ l → M06.okR x := by
  unfold V06.timesE at h
  split at h
  · rename_i h1; exact absurd h h1
  · rename_i h1
    exact timesF_ok (by simpa using h1)
end Go.Proofs.Ytljmamlceofcfaa.P06r
