import Derived.Test.YtljmamlceofcfaaQ06tx0
import Derived.Test.YtljmamlceofcfaaX04k
import Derived.Test.YtljmamlceofcfaaFr2
/- Plain: times as they stand in frontiers: how they are ordered, what is behind none of two. -/
namespace Go.Proofs.Ytljmamlceofcfaa.M06
set_option linter.unusedSimpArgs false
set_option linter.unusedVariables false
open Go.RowKit Go.Proofs.YtljmamlceofcfaaW.PrintWords Go.Proofs.YtljmamlceofcfaaW.PrintLast Go.Proofs.YtljmamlceofcfaaW.PrintMore Go.Proofs.Ytljmamlceofcfaa.Q06t Go.Proofs.Ytljmamlceofcfaa.Ext
open Go.Proofs.Ytljmamlceofcfaa.P04 (chk chk_ok)
abbrev R := S26
theorem R_ext {x y : R} (h0 : x.f0 = y.f0) (h1 : x.f1 = y.f1) (h2 : x.f2.f0 = y.f2.f0) (h3 : x.f2.f1 = y.f2.f1) (h4 : x.f2.f2 = y.f2.f2) : x = y := by
  obtain ⟨a, b, ⟨c, d, e⟩⟩ := x
  obtain ⟨a2, b2, ⟨c2, d2, e2⟩⟩ := y
  simp_all
instance : DecidableEq R := fun x y =>
  if h : x.f0 = y.f0 ∧ x.f1 = y.f1 ∧ x.f2.f0 = y.f2.f0 ∧ x.f2.f1 = y.f2.f1 ∧ x.f2.f2 = y.f2.f2 then isTrue (R_ext h.1 h.2.1 h.2.2.1 h.2.2.2.1 h.2.2.2.2) else isFalse fun e => h (by subst e; exact ⟨rfl, rfl, rfl, rfl, rfl⟩)
def chkR (x : R) : Int := chk x.f0 x.f1 x.f2.f0 x.f2.f1 x.f2.f2
def leR (x y : R) : Bool := leB x.f0 x.f1 x.f2.f0 x.f2.f1 x.f2.f2 y.f0 y.f1 y.f2.f0 y.f2.f1 y.f2.f2
def sgc (x y : Int) : Int := if x < y then -1 else if x > y then 1 else 0
def orZ (x y : Int) : Int := if x = 0 then y else x
def cmpT (a0 a1 a2 a3 a4 b0 b1 b2 b3 b4 : Int) : Int := orZ (orZ (orZ (orZ (sgc a1 b1) (sgc a0 b0)) (sgc a2 b2)) (sgc a3 b3)) (sgc a4 b4)
def cmpR (x y : R) : Int := cmpT x.f0 x.f1 x.f2.f0 x.f2.f1 x.f2.f2 y.f0 y.f1 y.f2.f0 y.f2.f1 y.f2.f2
def ltR (x y : R) : Bool := decide (cmpR x y < 0)
theorem sgc_lt {x y : Int} : sgc x y < 0 ↔ x < y := by
  unfold sgc
  repeat' split
  all_goals omega
theorem sgc_le {x y : Int} : sgc x y ≤ 0 ↔ x ≤ y := by
  unfold sgc
  repeat' split
  all_goals omega
theorem sgc_zero {x y : Int} : sgc x y = 0 ↔ x = y := by
  unfold sgc
  repeat' split
  all_goals omega
theorem orZ_lt {x y : Int} : orZ x y < 0 ↔ x < 0 ∨ x = 0 ∧ y < 0 := by
  unfold orZ
  split <;> omega
theorem orZ_le {x y : Int} : orZ x y ≤ 0 ↔ x < 0 ∨ x = 0 ∧ y ≤ 0 := by
  unfold orZ
  split <;> omega
theorem orZ_zero {x y : Int} : orZ x y = 0 ↔ x = 0 ∧ y = 0 := by
  unfold orZ
  split <;> omega
theorem cmp_lt {x y : R} : cmpR x y < 0 ↔ x.f1 < y.f1 ∨ x.f1 = y.f1 ∧ (x.f0 < y.f0 ∨ x.f0 = y.f0 ∧ (x.f2.f0 < y.f2.f0 ∨ x.f2.f0 = y.f2.f0 ∧ (x.f2.f1 < y.f2.f1 ∨ x.f2.f1 = y.f2.f1 ∧ x.f2.f2 < y.f2.f2))) := by
  unfold cmpR cmpT
  simp only [orZ_lt, orZ_zero, sgc_lt, sgc_zero]
  omega
theorem cmp_le {x y : R} : cmpR x y ≤ 0 ↔ x.f1 < y.f1 ∨ x.f1 = y.f1 ∧ (x.f0 < y.f0 ∨ x.f0 = y.f0 ∧ (x.f2.f0 < y.f2.f0 ∨ x.f2.f0 = y.f2.f0 ∧ (x.f2.f1 < y.f2.f1 ∨ x.f2.f1 = y.f2.f1 ∧ x.f2.f2 ≤ y.f2.f2))) := by
  unfold cmpR cmpT
  simp only [orZ_le, orZ_lt, orZ_zero, sgc_lt, sgc_zero, sgc_le]
  omega
theorem ltR_iff {x y : R} : ltR x y = true ↔ x.f1 < y.f1 ∨ x.f1 = y.f1 ∧ (x.f0 < y.f0 ∨ x.f0 = y.f0 ∧ (x.f2.f0 < y.f2.f0 ∨ x.f2.f0 = y.f2.f0 ∧ (x.f2.f1 < y.f2.f1 ∨ x.f2.f1 = y.f2.f1 ∧ x.f2.f2 < y.f2.f2))) := by
  unfold ltR
  rw [decide_eq_true_iff, cmp_lt]
theorem ltR_iff_f {x y : R} : ltR x y = false ↔ ¬ (x.f1 < y.f1 ∨ x.f1 = y.f1 ∧ (x.f0 < y.f0 ∨ x.f0 = y.f0 ∧ (x.f2.f0 < y.f2.f0 ∨ x.f2.f0 = y.f2.f0 ∧ (x.f2.f1 < y.f2.f1 ∨ x.f2.f1 = y.f2.f1 ∧ x.f2.f2 < y.f2.f2)))) := by
  rw [← ltR_iff]
  simp
theorem cmp_pos {x y : R} : cmpR x y > 0 ↔ ltR y x = true := by
  rw [ltR_iff]
  have h := @cmp_le x y
  have : cmpR x y > 0 ↔ ¬ cmpR x y ≤ 0 := by omega
  rw [this, h]
  omega
theorem leR_iff {x y : R} : leR x y = true ↔ x.f1 = y.f1 ∧ 0 ≤ x.f1 ∧ x.f1 ≤ 3 ∧ x.f0 ≤ y.f0 ∧ (0 < x.f1 → x.f2.f0 ≤ y.f2.f0) ∧ (1 < x.f1 → x.f2.f1 ≤ y.f2.f1) ∧ (2 < x.f1 → x.f2.f2 ≤ y.f2.f2) := decide_eq_true_iff
/-- A time that may stand in a frontier. -/
def okR (x : R) : Prop := chkR x = 0
theorem th : Fr.Th leR ltR okR where
  refl x h := by
    have := chk_ok h
    rw [leR_iff]
    omega
  trans x y z h1 h2 := by
    rw [leR_iff] at *
    omega
  irrefl x := by
    rw [ltR_iff_f]
    omega
  ltrans x y z h1 h2 := by
    rw [ltR_iff] at *
    omega
  total x y h1 h2 := by
    rw [ltR_iff_f] at h1 h2
    exact R_ext (by omega) (by omega) (by omega) (by omega) (by omega)
  lelt x y h1 h2 h := by
    have c1 := chk_ok h1
    have c2 := chk_ok h2
    rw [leR_iff] at h
    by_cases e : x = y
    · exact .inl e
    · refine .inr (ltR_iff.2 ?_)
      have : ¬ (x.f0 = y.f0 ∧ x.f1 = y.f1 ∧ x.f2.f0 = y.f2.f0 ∧ x.f2.f1 = y.f2.f1 ∧ x.f2.f2 = y.f2.f2) := fun h => e (R_ext h.1 h.2.1 h.2.2.1 h.2.2.2.1 h.2.2.2.2)
      omega
/-! ### The first time that is behind none of two -/
def mxI (x y : Int) : Int := if x ≤ y then y else x
def joinR (x y : R) : R := ⟨mxI x.f0 y.f0, x.f1, mxI x.f2.f0 y.f2.f0, mxI x.f2.f1 y.f2.f1, mxI x.f2.f2 y.f2.f2⟩
theorem mx_le {x y z : Int} : mxI x y ≤ z ↔ x ≤ z ∧ y ≤ z := by
  unfold mxI
  split <;> omega
theorem chkR_iff {x : R} : chkR x = 0 ↔ 0 ≤ x.f1 ∧ x.f1 ≤ 3 ∧ x.f0 ≤ 1048576 ∧ x.f2.f0 ≤ 1048576 ∧ x.f2.f1 ≤ 1048576 ∧ x.f2.f2 ≤ 1048576 ∧ (x.f1 ≤ 0 → x.f2.f0 = 0) ∧ (x.f1 ≤ 1 → x.f2.f1 = 0) ∧ (x.f1 ≤ 2 → x.f2.f2 = 0) := by
  constructor
  · exact chk_ok
  · intro h
    unfold chkR chk
    rw [if_neg (by omega), if_neg (by omega), if_neg (by omega)]
theorem join_ok {x y : R} (hx : okR x) (hy : okR y) (h : x.f1 = y.f1) : okR (joinR x y) := by
  unfold okR at *
  rw [chkR_iff] at *
  unfold joinR
  simp only
  have m0 : ∀ a b : Int, a ≤ 1048576 → b ≤ 1048576 → mxI a b ≤ 1048576 := fun a b h1 h2 => mx_le.2 ⟨h1, h2⟩
  have mz : ∀ a b : Int, a = 0 → b = 0 → mxI a b = 0 := fun a b h1 h2 => by rw [h1, h2]; rfl
  refine ⟨hx.1, hx.2.1, m0 _ _ hx.2.2.1 hy.2.2.1, m0 _ _ hx.2.2.2.1 hy.2.2.2.1, m0 _ _ hx.2.2.2.2.1 hy.2.2.2.2.1, m0 _ _ hx.2.2.2.2.2.1 hy.2.2.2.2.2.1, fun q => mz _ _ ?_ ?_, fun q => mz _ _ ?_ ?_, fun q => mz _ _ ?_ ?_⟩ <;> omega
theorem join_le {x y t : R} (h : x.f1 = y.f1) : leR (joinR x y) t = (leR x t && leR y t) := by
  apply Bool.eq_iff_iff.2
  rw [Bool.and_eq_true, leR_iff, leR_iff, leR_iff]
  unfold joinR
  simp only [mx_le]
  omega
def joins (a b : List R) : List R := a.flatMap fun x => b.map fun y => joinR x y
theorem mem_joins {a b : List R} {t : R} : t ∈ joins a b ↔ ∃ x, x ∈ a ∧ ∃ y, y ∈ b ∧ joinR x y = t := by
  unfold joins
  simp only [List.mem_flatMap, List.mem_map]
theorem joins_holds {a b : List R} (h : ∀ x, x ∈ a → ∀ y, y ∈ b → x.f1 = y.f1) (t : R) : Fr.holds leR (joins a b) t = (Fr.holds leR a t && Fr.holds leR b t) := by
  apply Bool.eq_iff_iff.2
  rw [Bool.and_eq_true, Fr.holds_iff, Fr.holds_iff, Fr.holds_iff]
  constructor
  · rintro ⟨z, hz, hzt⟩
    obtain ⟨x, hx, y, hy, rfl⟩ := mem_joins.1 hz
    rw [join_le (h x hx y hy), Bool.and_eq_true] at hzt
    exact ⟨⟨x, hx, hzt.1⟩, ⟨y, hy, hzt.2⟩⟩
  · rintro ⟨⟨x, hx, hxt⟩, ⟨y, hy, hyt⟩⟩
    exact ⟨_, mem_joins.2 ⟨x, hx, y, hy, rfl⟩, by rw [join_le (h x hx y hy), hxt, hyt]; rfl⟩
theorem joins_ok {a b : List R} (ha : ∀ x, x ∈ a → okR x) (hb : ∀ y, y ∈ b → okR y) (h : ∀ x, x ∈ a → ∀ y, y ∈ b → x.f1 = y.f1) : ∀ t, t ∈ joins a b → okR t := by
  intro t ht
  obtain ⟨x, hx, y, hy, rfl⟩ := mem_joins.1 ht
  exact join_ok (ha x hx) (hb y hy) (h x hx y hy)
theorem joins_behind {a b : List R} (ha : ∀ x, x ∈ a → okR x) (hb : ∀ y, y ∈ b → okR y) (h : ∀ x, x ∈ a → ∀ y, y ∈ b → x.f1 = y.f1) : Fr.leF leR a (joins a b) = true ∧ Fr.leF leR b (joins a b) = true := by
  refine ⟨Fr.leF_iff.2 fun t ht => ?_, Fr.leF_iff.2 fun t ht => ?_⟩
  all_goals
    obtain ⟨x, hx, y, hy, rfl⟩ := mem_joins.1 ht
    have hr := th.refl _ (join_ok (ha x hx) (hb y hy) (h x hx y hy))
    rw [join_le (h x hx y hy), Bool.and_eq_true] at hr
  · exact Fr.holds_iff.2 ⟨x, hx, hr.1⟩
  · exact Fr.holds_iff.2 ⟨y, hy, hr.2⟩
end Go.Proofs.Ytljmamlceofcfaa.M06
