-- Laid by wip/pp.py for this seat.
import Derived.Test.YtljmamlceofcfaaQ06tx0
namespace Go.Proofs.Ytljmamlceofcfaa.Q06t
open Go.RowKit Go.Proofs.YtljmamlceofcfaaW.PrintWords Go.Proofs.YtljmamlceofcfaaW.PrintLast Go.Proofs.YtljmamlceofcfaaW.PrintMore
attribute [local go_sem] max2_int min2_int max_two min_two max_three min_three max_four min_four   -- for this text's walks alone
set_option linter.unusedVariables false
set_option linter.unusedSimpArgs false

theorem eqA24 (d : Nat) (w : World) (x0 y0 : Int) (x1 y1 : Int) (x2 y2 : Int) :
    (Op.equalIn (d + 2) 24 (.agg #[.int .u32 x0, .int .u32 x1, .int .u32 x2]) (.agg #[.int .u32 y0, .int .u32 y1, .int .u32 y2])).run Try.prog w = .ok (x0 == y0 && (x1 == y1 && (x2 == y2))) w := by
  obtain ⟨i, hi, _⟩ := Option.map_eq_some_iff.1 (show (Try.prog.info? 23).map (·.size) = some 1 by kernel_rfl)
  have hc : Try.prog.cellsOf 23 = 1 := by kernel_rfl
  rw [run_equalIn_array w (d + 1) _ _ Try.underlying24 hi, hc, show List.range 3 = [0, 1, 2] from rfl]
  have p : ∀ (c0 c1 c2 : Int) (j : Nat) (v : Value), (#[.int .u32 c0, .int .u32 c1, .int .u32 c2] : Array Value)[j]? = some v → (part 23 #[.int .u32 c0, .int .u32 c1, .int .u32 c2] j).run Try.prog w = .ok v w := by
    intro c0 c1 c2 j v h
    match j, h with
    | 0, h => simp at h; subst h; go_simp
    | 1, h => simp at h; subst h; go_simp
    | 2, h => simp at h; subst h; go_simp
    | j + 3, h => simp at h
  have q : ∀ a b : Int, (Op.equalIn (d + 1) 23 (.int .u32 a) (.int .u32 b)).run Try.prog w = .ok (a == b) w := fun a b => by go_simp
  have h0 := q x0 y0
  have h1 := q x1 y1
  have h2 := q x2 y2
  clear q
  generalize (x0 == y0) = e0 at *
  generalize (x1 == y1) = e1 at *
  generalize (x2 == y2) = e2 at *
  cases e0 <;> cases e1 <;> cases e2 <;> simp [Op.eqItems, p _ _ _ 0 _ rfl, p _ _ _ 1 _ rfl, p _ _ _ 2 _ rfl, h0, h1, h2]
theorem eqA26 (d : Nat) (w : World) (x0 y0 : Int) (x1 y1 : Int) (x2 y2 : Int) (x3 y3 : Int) (x4 y4 : Int) :
    (Op.equalIn (d + 3) 26 (.agg #[.int .u32 x0, .int .i64 x1, .int .u32 x2, .int .u32 x3, .int .u32 x4]) (.agg #[.int .u32 y0, .int .i64 y1, .int .u32 y2, .int .u32 y3, .int .u32 y4])).run Try.prog w = .ok (x0 == y0 && (x1 == y1 && ((x2 == y2 && (x3 == y3 && (x4 == y4)))))) w := by
  refine eqA_of Try.underlying26 (by kernel_rfl) ?_
  refine eqf_cons (by rfl) (by go_simp; rfl) (by go_simp; rfl) (by go_simp) ?_
  refine eqf_cons (by rfl) (by go_simp; rfl) (by go_simp; rfl) (by go_simp) ?_
  exact eqf_last (by rfl) (by go_simp) (by go_simp) (eqA24 (d + 0) w _ _ _ _ _ _)
end Go.Proofs.Ytljmamlceofcfaa.Q06t
