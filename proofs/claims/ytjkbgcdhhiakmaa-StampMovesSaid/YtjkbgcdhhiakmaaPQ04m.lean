import Derived.Test.YtjkbgcdhhiakmaaQ04mx
import Derived.Test.YtjkbgcdhhiakmaaPl
import Derived.Test.YtjkbgcdhhiakmaaOpen
import Derived.WalkKit
import Derived.ProofKit
import Derived.Test.YtjkbgcdhhiakmaaX04
/- Plain: times, what is wrong with them, how they stand, and what comes of them. -/
namespace Go.Proofs.Ytjkbgcdhhiakmaa.P04
set_option linter.unusedSimpArgs false
open Go.RowKit Go.Proofs.YtjkbgcdhhiakmaaW.PrintWords Go.Proofs.YtjkbgcdhhiakmaaW.PrintLast Go.Proofs.YtjkbgcdhhiakmaaW.PrintMore Go.Proofs.Ytjkbgcdhhiakmaa.Q04m Go.Proofs.Ytjkbgcdhhiakmaa.Pl Go.Proofs.Ytjkbgcdhhiakmaa.Ext

theorem w01 : wrap64 (0 + 1) = 1 := by unfold wrap64; omega
theorem w11 : wrap64 1 = 1 := by unfold wrap64; omega
theorem w12 : wrap64 (1 + 1) = 2 := by unfold wrap64; omega
theorem w22 : wrap64 2 = 2 := by unfold wrap64; omega
theorem w23 : wrap64 (2 + 1) = 3 := by unfold wrap64; omega
theorem w33 : wrap64 3 = 3 := by unfold wrap64; omega
theorem w34 : wrap64 (3 + 1) = 4 := by unfold wrap64; omega
theorem w44 : wrap64 4 = 4 := by unfold wrap64; omega
theorem w00 : wrap64 0 = 0 := by unfold wrap64; omega

/-- What is wrong with a time. -/
def chk (e d a b c : Int) : Int :=
  if d < 0 ∨ d > 3 then 10 else if e > 1048576 ∨ a > 1048576 ∨ b > 1048576 ∨ c > 1048576 then 1 else if (d ≤ 0 ∧ a ≠ 0) ∨ (d ≤ 1 ∧ b ≠ 0) ∨ (d ≤ 2 ∧ c ≠ 0) then 6 else 0
theorem chk_ok {e d a b c : Int} (h : chk e d a b c = 0) : 0 ≤ d ∧ d ≤ 3 ∧ e ≤ 1048576 ∧ a ≤ 1048576 ∧ b ≤ 1048576 ∧ c ≤ 1048576 ∧ (d ≤ 0 → a = 0) ∧ (d ≤ 1 → b = 0) ∧ (d ≤ 2 → c = 0) := by
  unfold chk at h
  split at h
  · omega
  · split at h
    · omega
    · split at h
      · omega
      · omega
theorem chk_cases (e d a b c : Int) : chk e d a b c = 0 ∨ chk e d a b c = 10 ∨ chk e d a b c = 1 ∨ chk e d a b c = 6 := by
  unfold chk
  repeat' split
  all_goals simp

theorem refCheck_f (k : Nat) (e d a b c : Int) : watershedref04_Check.f (k + 12) e d a b c = some (chk e d a b c) := by
  unfold watershedref04_Check.f chk
  by_cases h0 : d < 0
  · simp [h0, watershedref04_Check.j0]
  · by_cases h1 : d > 3
    · simp [h0, h1, watershedref04_Check.j0]
    · obtain rfl | rfl | rfl | rfl : d = 0 ∨ d = 1 ∨ d = 2 ∨ d = 3 := by omega
      all_goals
        simp [watershedref04_Check.j0, watershedref04_Check.l0, watershedref04_Check.l1, w11, w22, w33]
        repeat' split
        all_goals first | rfl | omega | (simp_all; omega)
theorem there_f (d : Int) : stamp_there.f d = some (decide (0 ≤ d ∧ d ≤ 3)) := by
  unfold stamp_there.f
  by_cases h : d ≥ 0
  · rw [if_pos h]; simp [h]
  · rw [if_neg h, decide_eq_false (by omega)]
theorem Check_f (k : Nat) (e d a b c : Int) : stamp_Check.f (k + 12) e d a b c = some (chk e d a b c) := by
  unfold stamp_Check.f chk
  rw [there_f]
  by_cases h0 : 0 ≤ d ∧ d ≤ 3
  · rw [decide_eq_true h0]
    obtain rfl | rfl | rfl | rfl : d = 0 ∨ d = 1 ∨ d = 2 ∨ d = 3 := by omega
    all_goals
      simp [stamp_Check.l0, stamp_rounds.f, w11, w22, w33]
      repeat' split
      all_goals first | rfl | omega | (simp_all; omega)
  · rw [decide_eq_false h0]
    simp
    omega

theorem rd0 (x y : Int) : rd [x, y] 0 = x := rfl
theorem rd1 (x y : Int) : rd [x, y] 1 = y := rfl
theorem api_Or_f (k : Nat) (x y : Int) : api_Errno.f (k + 5) [x, y] = some (if x = 0 then y else x) := by
  unfold api_Errno.f
  simp [api_Errno.l0, w11, w22, rd0, rd1]
  repeat' split
  all_goals first | rfl | omega | (simp_all; done)
def both (a0 a1 a2 a3 a4 b0 b1 b2 b3 b4 : Int) : Int := if chk a0 a1 a2 a3 a4 ≠ 0 then chk a0 a1 a2 a3 a4 else if chk b0 b1 b2 b3 b4 ≠ 0 then chk b0 b1 b2 b3 b4 else if a1 = b1 then 0 else 10
theorem both_f (k : Nat) (a0 a1 a2 a3 a4 b0 b1 b2 b3 b4 : Int) : watershedref04_both.f (k + 12) a0 a1 a2 a3 a4 b0 b1 b2 b3 b4 = some (both a0 a1 a2 a3 a4 b0 b1 b2 b3 b4) := by
  unfold watershedref04_both.f both
  rw [refCheck_f, refCheck_f]
  simp
  repeat' split
  all_goals first | rfl | omega | (simp_all; done)
theorem pair_f (k : Nat) (a0 a1 a2 a3 a4 b0 b1 b2 b3 b4 : Int) : stamp_pair.f (k + 12) a0 a1 a2 a3 a4 b0 b1 b2 b3 b4 = some (both a0 a1 a2 a3 a4 b0 b1 b2 b3 b4) := by
  unfold stamp_pair.f both
  rw [Check_f, Check_f]
  simp [api_Or_f (k + 7)]
  repeat' split
  all_goals first | rfl | omega | (simp_all; done)
/-- Six numbers that tell a time, and what is wrong. -/
abbrev T6 := Int × Int × Int × Int × Int × Int
def noT (x : Int) : T6 := (0, 0, 0, 0, 0, x)
def joinF (a0 a1 a2 a3 a4 b0 b1 b2 b3 b4 : Int) : T6 := if both a0 a1 a2 a3 a4 b0 b1 b2 b3 b4 = 0 then (mx a0 b0, a1, mx a2 b2, mx a3 b3, mx a4 b4, 0) else noT (both a0 a1 a2 a3 a4 b0 b1 b2 b3 b4)
def meetF (a0 a1 a2 a3 a4 b0 b1 b2 b3 b4 : Int) : T6 := if both a0 a1 a2 a3 a4 b0 b1 b2 b3 b4 = 0 then (mn a0 b0, a1, mn a2 b2, mn a3 b3, mn a4 b4, 0) else noT (both a0 a1 a2 a3 a4 b0 b1 b2 b3 b4)
theorem Join_f (k : Nat) (a0 a1 a2 a3 a4 b0 b1 b2 b3 b4 : Int) : stamp_Join.f (k + 12) a0 a1 a2 a3 a4 b0 b1 b2 b3 b4 = some (joinF a0 a1 a2 a3 a4 b0 b1 b2 b3 b4) := by
  unfold stamp_Join.f joinF
  rw [pair_f]
  simp [stamp_Join.l0, w11, w22, w33]
  split <;> rfl
theorem refJoin_f (k : Nat) (a0 a1 a2 a3 a4 b0 b1 b2 b3 b4 : Int) : watershedref04_Join.f (k + 12) a0 a1 a2 a3 a4 b0 b1 b2 b3 b4 = some (joinF a0 a1 a2 a3 a4 b0 b1 b2 b3 b4) := by
  unfold watershedref04_Join.f joinF
  rw [both_f]
  simp [watershedref04_Join.l0, w11, w22, w33]
  split <;> rfl
theorem Meet_f (k : Nat) (a0 a1 a2 a3 a4 b0 b1 b2 b3 b4 : Int) : stamp_Meet.f (k + 12) a0 a1 a2 a3 a4 b0 b1 b2 b3 b4 = some (meetF a0 a1 a2 a3 a4 b0 b1 b2 b3 b4) := by
  unfold stamp_Meet.f meetF
  rw [pair_f]
  simp [stamp_Meet.l0, w11, w22, w33]
  split <;> rfl
theorem refMeet_f (k : Nat) (a0 a1 a2 a3 a4 b0 b1 b2 b3 b4 : Int) : watershedref04_Meet.f (k + 12) a0 a1 a2 a3 a4 b0 b1 b2 b3 b4 = some (meetF a0 a1 a2 a3 a4 b0 b1 b2 b3 b4) := by
  unfold watershedref04_Meet.f meetF
  rw [both_f]
  simp [watershedref04_Meet.l0, w11, w22, w33]
  split <;> rfl
def enterF (e d a b c : Int) : T6 := if chk e d a b c ≠ 0 then noT (chk e d a b c) else if d = 3 then noT 10 else (e, d + 1, a, b, c, 0)
theorem Enter_f (k : Nat) (e d a b c : Int) : stamp_Enter.f (k + 12) e d a b c = some (enterF e d a b c) := by
  unfold stamp_Enter.f enterF
  rw [Check_f]
  simp only [Option.bind_some]
  by_cases h : chk e d a b c = 0
  · have := chk_ok h
    rw [if_pos h, w64 (by omega) (by omega), there_f]
    by_cases h3 : d = 3
    · subst h3; simp [h, noT]
    · rw [decide_eq_true (by omega)]; simp [h, h3]
  · simp [h, noT]
theorem refEnter_f (k : Nat) (e d a b c : Int) : watershedref04_Enter.f (k + 12) e d a b c = some (enterF e d a b c) := by
  unfold watershedref04_Enter.f enterF
  rw [refCheck_f]
  simp only [Option.bind_some]
  by_cases h : chk e d a b c = 0
  · have := chk_ok h
    rw [if_pos h, w64 (by omega) (by omega)]
    by_cases h3 : d = 3
    · subst h3; simp [h, noT]
    · simp [h, h3]
  · simp [h, noT]
def leaveF (e d a b c : Int) : T6 := if chk e d a b c ≠ 0 then noT (chk e d a b c) else if d = 0 then noT 10 else if d = 1 then (e, 0, 0, b, c, 0) else if d = 2 then (e, 1, a, 0, c, 0) else (e, 2, a, b, 0, 0)
theorem inner_f (k : Nat) (e d a b c : Int) : stamp_inner.f (k + 12) e d a b c = some (if chk e d a b c ≠ 0 then (0, chk e d a b c) else if d = 0 then (0, 10) else (d - 1, 0)) := by
  unfold stamp_inner.f
  rw [Check_f]
  simp only [Option.bind_some]
  by_cases h : chk e d a b c = 0
  · have := chk_ok h
    rw [if_pos h, w64 (by omega) (by omega)]
    by_cases h3 : d = 0
    · subst h3; simp [h]
    · simp [h, h3]
  · simp [h]
theorem Leave_f (k : Nat) (e d a b c : Int) : stamp_Leave.f (k + 12) e d a b c = some (leaveF e d a b c) := by
  unfold stamp_Leave.f leaveF
  rw [inner_f]
  by_cases h : chk e d a b c = 0
  · have := chk_ok h
    obtain rfl | rfl | rfl | rfl : d = 0 ∨ d = 1 ∨ d = 2 ∨ d = 3 := by omega
    all_goals simp [h, noT]
  · simp [h, noT]
theorem refLeave_f (k : Nat) (e d a b c : Int) : watershedref04_Leave.f (k + 12) e d a b c = some (leaveF e d a b c) := by
  unfold watershedref04_Leave.f leaveF
  rw [refCheck_f]
  by_cases h : chk e d a b c = 0
  · have := chk_ok h
    obtain rfl | rfl | rfl | rfl : d = 0 ∨ d = 1 ∨ d = 2 ∨ d = 3 := by omega
    all_goals simp [h, noT, w00, w11, w22]
  · simp [h, noT]
theorem count_f (x : Int) : num_count.f x = some (decide (x ≤ 1048576)) := rfl
def addF (x y : Int) : Int × Int := if x > 1048576 ∨ y > 1048576 then (0, 1) else if x + y > 1048576 then (0, 9) else (x + y, 0)
theorem Add_f (k : Nat) (x y : Int) (hx : 0 ≤ x ∧ x < 4294967296) (hy : 0 ≤ y ∧ y < 4294967296) : num_Add.f (k + 5) x y = some (addF x y) := by
  unfold num_Add.f addF
  simp only [count_f, Option.bind_some, num_Add.j0]
  by_cases h1 : x ≤ 1048576
  · by_cases h2 : y ≤ 1048576
    · rw [show (x + y) % 4294967296 = x + y from by omega]
      simp [h1, h2]
      repeat' split
      all_goals first | rfl | omega
    · simp [h1, h2]
  · simp [h1]
def nextF (e d a b c : Int) : T6 := if chk e d a b c ≠ 0 then noT (chk e d a b c) else if d = 0 then noT 10 else if d = 1 then (if a = 1048576 then noT 9 else (e, 1, a + 1, b, c, 0)) else if d = 2 then (if b = 1048576 then noT 9 else (e, 2, a, b + 1, c, 0)) else (if c = 1048576 then noT 9 else (e, 3, a, b, c + 1, 0))
theorem Next_f (k : Nat) (e d a b c : Int) (ha : 0 ≤ a) (hb : 0 ≤ b) (hc : 0 ≤ c) : stamp_Next.f (k + 12) e d a b c = some (nextF e d a b c) := by
  unfold stamp_Next.f nextF
  rw [inner_f]
  by_cases h : chk e d a b c = 0
  · have := chk_ok h
    obtain rfl | rfl | rfl | rfl : d = 0 ∨ d = 1 ∨ d = 2 ∨ d = 3 := by omega
    · simp [h, noT]
    all_goals
      simp [h, noT]
      rw [Add_f (k + 7) _ _ (by omega) (by omega)]
      unfold addF
      simp
      repeat' split
      all_goals first | rfl | omega | (simp_all; omega)
  · simp [h, noT]
theorem refNext_f (k : Nat) (e d a b c : Int) (ha : 0 ≤ a) (hb : 0 ≤ b) (hc : 0 ≤ c) : watershedref04_Next.f (k + 12) e d a b c = some (nextF e d a b c) := by
  unfold watershedref04_Next.f nextF
  rw [refCheck_f]
  by_cases h : chk e d a b c = 0
  · have := chk_ok h
    rw [show (a + 1) % 4294967296 = a + 1 from by omega, show (b + 1) % 4294967296 = b + 1 from by omega, show (c + 1) % 4294967296 = c + 1 from by omega]
    obtain rfl | rfl | rfl | rfl : d = 0 ∨ d = 1 ∨ d = 2 ∨ d = 3 := by omega
    all_goals
      simp [h, noT, w00, w11, w22]
    all_goals (split <;> rfl)
  · simp [h, noT]
def laterF (e d a b c n : Int) : T6 := if chk e d a b c ≠ 0 then noT (chk e d a b c) else if n > 1048576 then noT 1 else if e + n > 1048576 then noT 9 else (e + n, d, a, b, c, 0)
theorem Later_f (k : Nat) (e d a b c n : Int) (he : 0 ≤ e ∧ e < 4294967296) (hn : 0 ≤ n ∧ n < 4294967296) : stamp_Later.f (k + 12) e d a b c n = some (laterF e d a b c n) := by
  unfold stamp_Later.f laterF
  rw [Check_f]
  by_cases h : chk e d a b c = 0
  · have := chk_ok h
    simp [h, noT, Add_f (k + 7) e n he hn, addF]
    repeat' split
    all_goals first | rfl | omega | (simp_all; done) | (simp_all; omega)
  · simp [h, noT]
theorem refLater_f (k : Nat) (e d a b c n : Int) (he : 0 ≤ e ∧ e < 4294967296) (hn : 0 ≤ n ∧ n < 4294967296) : watershedref04_Later.f (k + 12) e d a b c n = some (laterF e d a b c n) := by
  unfold watershedref04_Later.f laterF
  rw [refCheck_f]
  by_cases h : chk e d a b c = 0
  · have := chk_ok h
    simp [h, noT]
    rw [show (1048576 - e) % 4294967296 = 1048576 - e from by omega]
    by_cases h1 : n > 1048576
    · simp [h1]
    · rw [show (e + n) % 4294967296 = e + n from by omega]
      by_cases h2 : e + n > 1048576
      · have : n > 1048576 - e := by omega
        simp [h1, h2, this]
      · have : ¬ n > 1048576 - e := by omega
        simp [h1, h2, this]
  · simp [h, noT]
/-- Five numbers that make a time. -/
abbrev T5 := Int × Int × Int × Int × Int
def kT : Kd T5 := Kd.pair (Kd.int .u32) (Kd.pair (Kd.int .i64) (Kd.pair (Kd.int .u32) (Kd.pair (Kd.int .u32) (Kd.int .u32))))
def okT (x : T5) : Prop := (Lit.int .u32 x.1).wf = true ∧ (Lit.int .i64 x.2.1).wf = true ∧ (Lit.int .u32 x.2.2.1).wf = true ∧ (Lit.int .u32 x.2.2.2.1).wf = true ∧ (Lit.int .u32 x.2.2.2.2).wf = true
theorem opens_T : Open.Opens Try.prog 25 kT okT :=
  Open.opens_struct Try.underlying25 (by kernel_rfl)
    (Open.opensF_cons (by kernel_rfl) (by rfl) (Open.opens_int (P := Try.prog) (by kernel_rfl))
      (Open.opensF_cons (by kernel_rfl) (by rfl) (Open.opens_int (P := Try.prog) (by kernel_rfl))
        (Open.opensF_last (by kernel_rfl) (Open.opens_array Try.underlying23 (by kernel_rfl)
          (Open.opensF_cons (by kernel_rfl) (by rfl) (Open.opens_int (P := Try.prog) (by kernel_rfl))
            (Open.opensF_cons (by kernel_rfl) (by rfl) (Open.opens_int (P := Try.prog) (by kernel_rfl))
              (Open.opensF_last (by kernel_rfl) (Open.opens_int (P := Try.prog) (by kernel_rfl)))))))))
theorem kT_open {w : World} {x : T5} {cs : List Value} (h : kT.K w x cs) : cs = [.int .u32 x.1, .int .i64 x.2.1, .int .u32 x.2.2.1, .int .u32 x.2.2.2.1, .int .u32 x.2.2.2.2] := by
  obtain ⟨_, _, rfl, rfl, _, _, rfl, rfl, _, _, rfl, rfl, _, _, rfl, rfl, rfl⟩ := h
  rfl
theorem u32_of {x : Int} (h : (Lit.int .u32 x).wf = true) : 0 ≤ x ∧ x < 4294967296 := by
  have := bounds_u32 h
  omega
theorem StampMoves_pure (a0 a1 a2 a3 a4 b0 b1 b2 b3 b4 n : Int) (h0 : 0 ≤ a0 ∧ a0 < 4294967296) (h2 : 0 ≤ a2) (h3 : 0 ≤ a3) (h4 : 0 ≤ a4) (hn : 0 ≤ n ∧ n < 4294967296) : watershedlaw04_StampMoves.f 1000 a0 a1 a2 a3 a4 b0 b1 b2 b3 b4 n = some true := by
  unfold watershedlaw04_StampMoves.f
  simp [Join_f 988, refJoin_f 988, Meet_f 988, refMeet_f 988, Enter_f 988, refEnter_f 988, Leave_f 988, refLeave_f 988, Next_f 988 _ _ _ _ _ h2 h3 h4, refNext_f 988 _ _ _ _ _ h2 h3 h4, Later_f 988 _ _ _ _ _ _ h0 hn, refLater_f 988 _ _ _ _ _ _ h0 hn]
end Go.Proofs.Ytjkbgcdhhiakmaa.P04
