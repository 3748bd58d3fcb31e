import Derived.Test.YtljmamlceofcfaaX06E
import Derived.Test.YtljmamlceofcfaaX06m
/- Plain: times that differ; the frontier made in both ways is one; what is wrong with a frontier. -/
namespace Go.Proofs.Ytljmamlceofcfaa.P06b
set_option linter.unusedSimpArgs false
set_option linter.unusedVariables false
open Go.RowKit Go.Proofs.YtljmamlceofcfaaW.PrintWords Go.Proofs.YtljmamlceofcfaaW.PrintLast Go.Proofs.YtljmamlceofcfaaW.PrintMore Go.Proofs.Ytljmamlceofcfaa.Q06t Go.Proofs.Ytljmamlceofcfaa.Ext
open M06 (R sgc orZ cmpT cmpR ltR leR chkR)
theorem neqb (x y : R) : (!(x.f0 == y.f0) || (!(x.f1 == y.f1) || ((!(x.f2.f0 == y.f2.f0) || (!(x.f2.f1 == y.f2.f1) || (!(x.f2.f2 == y.f2.f2))))))) = !decide (x = y) := by
  rw [← V06.eqb_iff]
  cases (x.f0 == y.f0) <;> cases (x.f1 == y.f1) <;> cases (x.f2.f0 == y.f2.f0) <;> cases (x.f2.f1 == y.f2.f1) <;> cases (x.f2.f2 == y.f2.f2) <;> rfl
theorem drop_eq {x y : List R} {i : Nat} (hx : i < x.length) (hy : i < y.length) : (x.drop i = y.drop i) = (x[i] = y[i] ∧ x.drop (i + 1) = y.drop (i + 1)) := by
  rw [List.drop_eq_getElem_cons hx, List.drop_eq_getElem_cons hy, List.cons.injEq]
/-- The frontier that both make. -/
theorem makeR_eq (l : List R) : P06r.makeR l = V06.makeF l := by
  unfold P06r.makeR V06.makeF
  by_cases h1 : 4096 < l.length
  · rw [if_pos h1, if_pos h1]
  · rw [if_neg h1, if_neg h1]
    by_cases h2 : V06.timesE l = 0
    · have := M06.th.made_front z26 l (P06r.timesE_ok h2)
      unfold V06.frontT
      rw [this, h2]
    · rw [if_pos h2, if_pos h2]
theorem makeF_length (l : List R) : (V06.makeF l).1.length ≤ 64 := by
  unfold V06.makeF
  repeat' split
  all_goals first | (simp; done) | (simp only; omega)
theorem makeF_short {l : List R} (h : l.length ≤ 64) : V06.makeF l = if V06.timesE l = 0 then (V06.frontT l, 0) else ([], V06.timesE l) := by
  have hf : (V06.frontT l).length ≤ l.length := Fr.front_length l
  unfold V06.makeF
  rw [if_neg (by omega)]
  by_cases h2 : V06.timesE l = 0
  · rw [if_neg (by simpa using h2), if_pos h2, if_neg (by omega)]
  · rw [if_pos h2, if_neg h2]
/-- What is wrong with a frontier. -/
def checkE (l : List R) : Int := if 64 < l.length then 7 else if V06.timesE l ≠ 0 then V06.timesE l else if l = V06.frontT l then 0 else 6
theorem make_f (l : List R) (h : l.length ≤ 1000000) : chain_Make.f l = some (V06.makeF l) := if_pos h
theorem rmake_f (l : List R) (h : l.length ≤ 1000000) : ref06_Make.f l = some (V06.makeF l) := by
  unfold ref06_Make.f
  rw [if_pos h, makeR_eq]
theorem rtimes_f (l : List R) (h : l.length ≤ 1000000) : ref06_times.f l = some (V06.timesE l) := if_pos h
theorem holds_f (l : List R) (h : l.length ≤ 1000000) (t : R) : chain_Holds.f l t.f0 t.f1 t.f2.f0 t.f2.f1 t.f2.f2 = some (Fr.holds leR l t) := if_pos h
theorem le_f (a b : List R) (ha : a.length ≤ 1000000) (hb : b.length ≤ 1000000) : chain_LE.f a b = some (Fr.leF leR a b) := if_pos ⟨ha, hb⟩
theorem rle_f (x y : R) : ref04_LE.f x.f0 x.f1 x.f2.f0 x.f2.f1 x.f2.f2 y.f0 y.f1 y.f2.f0 y.f2.f1 y.f2.f2 = some (leR x y) := rfl
end Go.Proofs.Ytljmamlceofcfaa.P06b
