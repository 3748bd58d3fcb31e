import Derived.Test.YtmpgknemhmoboaaS17
import Derived.Test.YtmpgknemhmoboaaC17
/- Contracts of package hop and of the document's answer for it, by hand: what makes a sender (printed by wip/senders2.py). -/
namespace Go.Proofs.Ytmpgknemhmoboaa.S17
set_option linter.unusedSimpArgs false
set_option linter.unusedVariables false
open Go.RowKit Go.Proofs.YtmpgknemhmoboaaW.PrintWords Go.Proofs.YtmpgknemhmoboaaW.PrintLast Go.Proofs.YtmpgknemhmoboaaW.PrintMore Go.Proofs.Ytmpgknemhmoboaa.Base Go.Proofs.Ytmpgknemhmoboaa.Q17h Go.Proofs.Ytmpgknemhmoboaa.Pl Go.Proofs.Ytmpgknemhmoboaa.C17
def NewOk (ep ac wd wt : Int) : Prop := (1 ≤ ep ∧ ep ≤ 1073741824) ∧ (0 ≤ ac ∧ ac ≤ 1099511627776) ∧ (1 ≤ wd ∧ wd ≤ 16) ∧ (1 ≤ wt ∧ wt ≤ 100)
set_option maxHeartbeats 1000000 in
theorem ref_epoch (n : Int) (w : World) :
    Calls Try.prog 45 #[.int .i64 n] w fun e w' => e = .returned (.bool (decide (1 ≤ n ∧ n ≤ 1073741824))) ∧ w = w' := by
  by_cases c : 1 ≤ n
  · have c0 : decide (n ≥ 1) = true := decide_eq_true c
    have HX : Aside0 (decide (1 ≤ n ∧ n ≤ 1073741824) = decide (n ≤ 1073741824)) := ⟨by rw [Bool.eq_iff_iff]; simp; omega⟩
    clear c
    go_enter Try.func45, Try.ntmps45
    go_wp2
    go_ret
    exact ⟨by rw [HX.out]; rfl, rfl⟩
  · have c0 : decide (n ≥ 1) = false := decide_eq_false c
    have HX : Aside0 (decide (1 ≤ n ∧ n ≤ 1073741824) = false) := ⟨by simp; omega⟩
    clear c
    go_enter Try.func45, Try.ntmps45
    go_wp2
    go_ret
    exact ⟨by rw [HX.out]; rfl, rfl⟩
set_option maxHeartbeats 2000000 in
theorem A_New (ep ac wd wt : Int) (w : World) :
    Calls Try.prog 17 #[.int .i64 ep, .int .i64 ac, .int .i64 wd, .int .i64 wt] w fun e w' => (NewOk ep ac wd wt → ∃ g, w.heap.size ≤ g ∧ e = .returned (.tuple #[.pointer (some ⟨g, 0, none⟩), .int .i64 0]) ∧ IsA w' g ep ac ac none 0 0 0 wd wt) ∧ (¬ NewOk ep ac wd wt → e = .returned (.tuple #[.pointer none, .int .i64 1])) ∧ Below w.heap.size w w' := by
  have HB := Aside0.mk (Below.refl w.heap.size w)
  by_cases c1 : 1 ≤ ep ∧ ep ≤ 1073741824
  · have d1 : decide (1 ≤ ep ∧ ep ≤ 1073741824) = true := decide_eq_true c1
    by_cases c2 : 0 ≤ ac ∧ ac ≤ 1099511627776
    · have d2 : decide (0 ≤ ac ∧ ac ≤ 1099511627776) = true := decide_eq_true c2
      by_cases c3 : 1 ≤ wd ∧ wd ≤ 16
      · have d3 : decide (1 ≤ wd ∧ wd ≤ 16) = true := decide_eq_true c3
        by_cases c4 : 1 ≤ wt ∧ wt ≤ 100
        · have d4 : decide (1 ≤ wt ∧ wt ≤ 100) = true := decide_eq_true c4
          have HC : Aside0 (NewOk ep ac wd wt) := ⟨⟨c1, c2, c3, c4⟩⟩
          (try clear q)
          (try clear c1)
          (try clear c2)
          (try clear c3)
          (try clear c4)
          go_enter Try.func17, Try.ntmps17
          go_wp2_with fail
          refine (hop_within _ _ _ _).mono ?_
          rintro e w1 ⟨rfl, rfl⟩
          rw [d1]
          go_wp2_with fail
          refine (hop_within _ _ _ _).mono ?_
          rintro e w1 ⟨rfl, rfl⟩
          rw [d2]
          go_wp2_with fail
          refine (hop_within _ _ _ _).mono ?_
          rintro e w1 ⟨rfl, rfl⟩
          rw [d3]
          go_wp2_with fail
          refine (hop_within _ _ _ _).mono ?_
          rintro e w1 ⟨rfl, rfl⟩
          rw [d4]
          go_wp2
          go_ret2
          exact ⟨fun _ => ⟨_, Nat.le_refl _, rfl, blk_new _ _⟩, fun h => absurd HC.out h, (by repeat (first | (with_reducible first | exact HB.out | apply below_alloc | apply pw_below_drewN | apply below_drew1) | exact HB.out))⟩
        · have d4 : decide (1 ≤ wt ∧ wt ≤ 100) = false := decide_eq_false c4
          have HC : Aside0 (¬ NewOk ep ac wd wt) := ⟨fun h => c4 h.2.2.2⟩
          (try clear q)
          (try clear c1)
          (try clear c2)
          (try clear c3)
          (try clear c4)
          go_enter Try.func17, Try.ntmps17
          go_wp2_with fail
          refine (hop_within _ _ _ _).mono ?_
          rintro e w1 ⟨rfl, rfl⟩
          rw [d1]
          go_wp2_with fail
          refine (hop_within _ _ _ _).mono ?_
          rintro e w1 ⟨rfl, rfl⟩
          rw [d2]
          go_wp2_with fail
          refine (hop_within _ _ _ _).mono ?_
          rintro e w1 ⟨rfl, rfl⟩
          rw [d3]
          go_wp2_with fail
          refine (hop_within _ _ _ _).mono ?_
          rintro e w1 ⟨rfl, rfl⟩
          rw [d4]
          go_wp2
          go_ret2
          exact ⟨fun h => absurd h HC.out, fun _ => rfl, HB.out⟩
      · have d3 : decide (1 ≤ wd ∧ wd ≤ 16) = false := decide_eq_false c3
        have HC : Aside0 (¬ NewOk ep ac wd wt) := ⟨fun h => c3 h.2.2.1⟩
        (try clear q)
        (try clear c1)
        (try clear c2)
        (try clear c3)
        (try clear c4)
        go_enter Try.func17, Try.ntmps17
        go_wp2_with fail
        refine (hop_within _ _ _ _).mono ?_
        rintro e w1 ⟨rfl, rfl⟩
        rw [d1]
        go_wp2_with fail
        refine (hop_within _ _ _ _).mono ?_
        rintro e w1 ⟨rfl, rfl⟩
        rw [d2]
        go_wp2_with fail
        refine (hop_within _ _ _ _).mono ?_
        rintro e w1 ⟨rfl, rfl⟩
        rw [d3]
        go_wp2
        go_ret2
        exact ⟨fun h => absurd h HC.out, fun _ => rfl, HB.out⟩
    · have d2 : decide (0 ≤ ac ∧ ac ≤ 1099511627776) = false := decide_eq_false c2
      have HC : Aside0 (¬ NewOk ep ac wd wt) := ⟨fun h => c2 h.2.1⟩
      (try clear q)
      (try clear c1)
      (try clear c2)
      (try clear c3)
      (try clear c4)
      go_enter Try.func17, Try.ntmps17
      go_wp2_with fail
      refine (hop_within _ _ _ _).mono ?_
      rintro e w1 ⟨rfl, rfl⟩
      rw [d1]
      go_wp2_with fail
      refine (hop_within _ _ _ _).mono ?_
      rintro e w1 ⟨rfl, rfl⟩
      rw [d2]
      go_wp2
      go_ret2
      exact ⟨fun h => absurd h HC.out, fun _ => rfl, HB.out⟩
  · have d1 : decide (1 ≤ ep ∧ ep ≤ 1073741824) = false := decide_eq_false c1
    have HC : Aside0 (¬ NewOk ep ac wd wt) := ⟨fun h => c1 h.1⟩
    (try clear q)
    (try clear c1)
    (try clear c2)
    (try clear c3)
    (try clear c4)
    go_enter Try.func17, Try.ntmps17
    go_wp2_with fail
    refine (hop_within _ _ _ _).mono ?_
    rintro e w1 ⟨rfl, rfl⟩
    rw [d1]
    go_wp2
    go_ret2
    exact ⟨fun h => absurd h HC.out, fun _ => rfl, HB.out⟩
set_option maxHeartbeats 2000000 in
theorem B_New (ep ac wd wt : Int) (w : World) :
    Calls Try.prog 18 #[.int .i64 ep, .int .i64 ac, .int .i64 wd, .int .i64 wt] w fun e w' => (NewOk ep ac wd wt → ∃ g, w.heap.size ≤ g ∧ e = .returned (.tuple #[.pointer (some ⟨g, 0, none⟩), .int .i64 0]) ∧ IsB w' g ep ac ac none 0 0 0 wd wt) ∧ (¬ NewOk ep ac wd wt → e = .returned (.tuple #[.pointer none, .int .i64 1])) ∧ Below w.heap.size w w' := by
  have HB := Aside0.mk (Below.refl w.heap.size w)
  by_cases c1 : 1 ≤ ep ∧ ep ≤ 1073741824
  · have d1 : decide (1 ≤ ep ∧ ep ≤ 1073741824) = true := decide_eq_true c1
    by_cases c2 : 0 ≤ ac ∧ ac ≤ 1099511627776
    · have d2 : decide (0 ≤ ac ∧ ac ≤ 1099511627776) = true := decide_eq_true c2
      have l2 : decide (ac < 0) = false := decide_eq_false (by omega)
      have g2 : decide (ac > 1099511627776) = false := decide_eq_false (by omega)
      by_cases c3 : 1 ≤ wd ∧ wd ≤ 16
      · have d3 : decide (1 ≤ wd ∧ wd ≤ 16) = true := decide_eq_true c3
        have l3 : decide (wd < 1) = false := decide_eq_false (by omega)
        have g3 : decide (wd > 16) = false := decide_eq_false (by omega)
        by_cases c4 : 1 ≤ wt ∧ wt ≤ 100
        · have d4 : decide (1 ≤ wt ∧ wt ≤ 100) = true := decide_eq_true c4
          have l4 : decide (wt < 1) = false := decide_eq_false (by omega)
          have g4 : decide (wt > 100) = false := decide_eq_false (by omega)
          have HC : Aside0 (NewOk ep ac wd wt) := ⟨⟨c1, c2, c3, c4⟩⟩
          (try clear q)
          (try clear c1)
          (try clear c2)
          (try clear c3)
          (try clear c4)
          go_enter Try.func18, Try.ntmps18
          go_wp2_with fail
          refine (ref_epoch _ _).mono ?_
          rintro e w1 ⟨rfl, rfl⟩
          rw [d1]
          go_wp2
          go_ret2
          exact ⟨fun _ => ⟨_, Nat.le_refl _, rfl, blk_new _ _⟩, fun h => absurd HC.out h, (by repeat (first | (with_reducible first | exact HB.out | apply below_alloc | apply pw_below_drewN | apply below_drew1) | exact HB.out))⟩
        · have HC : Aside0 (¬ NewOk ep ac wd wt) := ⟨fun h => c4 h.2.2.2⟩
          by_cases q : wt < 1
          · have l4 : decide (wt < 1) = true := decide_eq_true q
            (try clear q)
            (try clear c1)
            (try clear c2)
            (try clear c3)
            (try clear c4)
            go_enter Try.func18, Try.ntmps18
            go_wp2_with fail
            refine (ref_epoch _ _).mono ?_
            rintro e w1 ⟨rfl, rfl⟩
            rw [d1]
            go_wp2
            go_ret2
            exact ⟨fun h => absurd h HC.out, fun _ => rfl, HB.out⟩
          · have l4 : decide (wt < 1) = false := decide_eq_false q
            have g4 : decide (wt > 100) = true := decide_eq_true (by omega)
            (try clear q)
            (try clear c1)
            (try clear c2)
            (try clear c3)
            (try clear c4)
            go_enter Try.func18, Try.ntmps18
            go_wp2_with fail
            refine (ref_epoch _ _).mono ?_
            rintro e w1 ⟨rfl, rfl⟩
            rw [d1]
            go_wp2
            go_ret2
            exact ⟨fun h => absurd h HC.out, fun _ => rfl, HB.out⟩
      · have HC : Aside0 (¬ NewOk ep ac wd wt) := ⟨fun h => c3 h.2.2.1⟩
        by_cases q : wd < 1
        · have l3 : decide (wd < 1) = true := decide_eq_true q
          (try clear q)
          (try clear c1)
          (try clear c2)
          (try clear c3)
          (try clear c4)
          go_enter Try.func18, Try.ntmps18
          go_wp2_with fail
          refine (ref_epoch _ _).mono ?_
          rintro e w1 ⟨rfl, rfl⟩
          rw [d1]
          go_wp2
          go_ret2
          exact ⟨fun h => absurd h HC.out, fun _ => rfl, HB.out⟩
        · have l3 : decide (wd < 1) = false := decide_eq_false q
          have g3 : decide (wd > 16) = true := decide_eq_true (by omega)
          (try clear q)
          (try clear c1)
          (try clear c2)
          (try clear c3)
          (try clear c4)
          go_enter Try.func18, Try.ntmps18
          go_wp2_with fail
          refine (ref_epoch _ _).mono ?_
          rintro e w1 ⟨rfl, rfl⟩
          rw [d1]
          go_wp2
          go_ret2
          exact ⟨fun h => absurd h HC.out, fun _ => rfl, HB.out⟩
    · have HC : Aside0 (¬ NewOk ep ac wd wt) := ⟨fun h => c2 h.2.1⟩
      by_cases q : ac < 0
      · have l2 : decide (ac < 0) = true := decide_eq_true q
        (try clear q)
        (try clear c1)
        (try clear c2)
        (try clear c3)
        (try clear c4)
        go_enter Try.func18, Try.ntmps18
        go_wp2_with fail
        refine (ref_epoch _ _).mono ?_
        rintro e w1 ⟨rfl, rfl⟩
        rw [d1]
        go_wp2
        go_ret2
        exact ⟨fun h => absurd h HC.out, fun _ => rfl, HB.out⟩
      · have l2 : decide (ac < 0) = false := decide_eq_false q
        have g2 : decide (ac > 1099511627776) = true := decide_eq_true (by omega)
        (try clear q)
        (try clear c1)
        (try clear c2)
        (try clear c3)
        (try clear c4)
        go_enter Try.func18, Try.ntmps18
        go_wp2_with fail
        refine (ref_epoch _ _).mono ?_
        rintro e w1 ⟨rfl, rfl⟩
        rw [d1]
        go_wp2
        go_ret2
        exact ⟨fun h => absurd h HC.out, fun _ => rfl, HB.out⟩
  · have d1 : decide (1 ≤ ep ∧ ep ≤ 1073741824) = false := decide_eq_false c1
    have HC : Aside0 (¬ NewOk ep ac wd wt) := ⟨fun h => c1 h.1⟩
    (try clear q)
    (try clear c1)
    (try clear c2)
    (try clear c3)
    (try clear c4)
    go_enter Try.func18, Try.ntmps18
    go_wp2_with fail
    refine (ref_epoch _ _).mono ?_
    rintro e w1 ⟨rfl, rfl⟩
    rw [d1]
    go_wp2
    go_ret2
    exact ⟨fun h => absurd h HC.out, fun _ => rfl, HB.out⟩
end Go.Proofs.Ytmpgknemhmoboaa.S17
