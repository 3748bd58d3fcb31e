import Derived.Test.YtmpgknemhmoboaaProg
import Derived.Test.YtmpgknemhmoboaaWMore
import Derived.Test.YtmpgknemhmoboaaBase
/- Contracts of package hop and of the document's answer for it: the other end of a flow. -/
namespace Go.Proofs.Ytmpgknemhmoboaa.C17
open Go.RowKit Go.Proofs.YtmpgknemhmoboaaW.PrintWords Go.Proofs.YtmpgknemhmoboaaW.PrintLast Go.Proofs.YtmpgknemhmoboaaW.PrintMore Go.Proofs.Ytmpgknemhmoboaa.Base

set_option maxHeartbeats 1000000 in
theorem hop_within (n l h : Int) (w : World) :
    Calls Try.prog 43 #[.int .i64 n, .int .i64 l, .int .i64 h] w fun e w' => e = .returned (.bool (decide (l ≤ n ∧ n ≤ h))) ∧ w = w' := by
  by_cases c : l ≤ n
  · have c0 : decide (l ≤ n) = true := decide_eq_true c
    have HX : Aside0 (decide (l ≤ n ∧ n ≤ h) = decide (n ≤ h)) := ⟨by rw [Bool.eq_iff_iff]; simp; omega⟩
    clear c
    go_enter Try.func43, Try.ntmps43
    go_wp2
    go_ret
    exact ⟨by rw [HX.out]; rfl, rfl⟩
  · have c0 : decide (l ≤ n) = false := decide_eq_false c
    have HX : Aside0 (decide (l ≤ n ∧ n ≤ h) = false) := ⟨by simp; omega⟩
    clear c
    go_enter Try.func43, Try.ntmps43
    go_wp2
    go_ret
    exact ⟨by rw [HX.out]; rfl, rfl⟩

/-- The program's other end, the epoch and the last number. -/
def RV (w : World) (g : Nat) (e l : Int) : Prop := w.heap[g]? = some (.cells #[.int .i64 e, .int .i64 l] 93 (0, 0))
/-- The document's. -/
def RW (w : World) (g : Nat) (e l : Int) : Prop := w.heap[g]? = some (.cells #[.int .i64 e, .int .i64 l] 34 (0, 0))

/-- What comes of an item. -/
def took (e l ep n : Int) : Bool × Int × Int := if ep < e then (false, e, l) else if n = l + 1 then (true, ep, n) else (false, ep, l)

set_option maxHeartbeats 1000000 in
theorem hop_NewReceiver (l : Int) (w : World) :
    Calls Try.prog 10 #[.int .i64 l] w fun en w' => (0 ≤ l ∧ l ≤ 1099511627776 → ∃ g, w.heap.size ≤ g ∧ en = .returned (.tuple #[.pointer (some ⟨g, 0, none⟩), .int .i64 0]) ∧ RV w' g 0 l) ∧ (¬ (0 ≤ l ∧ l ≤ 1099511627776) → en = .returned (.tuple #[.pointer none, .int .i64 1])) ∧ Below w.heap.size w w' := by
  have HB := Aside0.mk (Below.refl w.heap.size w)
  by_cases c : 0 ≤ l ∧ l ≤ 1099511627776
  · have HC := Aside0.mk c
    have c0 : decide (0 ≤ l ∧ l ≤ 1099511627776) = true := decide_eq_true c
    clear c
    go_enter Try.func10, Try.ntmps10
    go_wp2_with fail
    refine (hop_within _ _ _ _).mono ?_
    rintro e w1 ⟨rfl, rfl⟩
    rw [c0]
    go_wp2
    go_ret2
    exact ⟨fun _ => ⟨_, Nat.le_refl _, rfl, blk_new _ _⟩, fun h => absurd HC.out h, (by repeat (first | (with_reducible first | exact HB.out | apply below_alloc | apply pw_below_drewN | apply below_drew1) | exact HB.out))⟩
  · have HC := Aside0.mk c
    have c0 : decide (0 ≤ l ∧ l ≤ 1099511627776) = false := decide_eq_false c
    clear c
    go_enter Try.func10, Try.ntmps10
    go_wp2_with fail
    refine (hop_within _ _ _ _).mono ?_
    rintro e w1 ⟨rfl, rfl⟩
    rw [c0]
    go_wp2
    go_ret2
    exact ⟨fun h => absurd h HC.out, fun _ => rfl, HB.out⟩

set_option maxHeartbeats 1000000 in
theorem ref_NewReceiver (l : Int) (w : World) :
    Calls Try.prog 11 #[.int .i64 l] w fun en w' => (0 ≤ l ∧ l ≤ 1099511627776 → ∃ g, w.heap.size ≤ g ∧ en = .returned (.tuple #[.pointer (some ⟨g, 0, none⟩), .int .i64 0]) ∧ RW w' g 0 l) ∧ (¬ (0 ≤ l ∧ l ≤ 1099511627776) → en = .returned (.tuple #[.pointer none, .int .i64 1])) ∧ Below w.heap.size w w' := by
  have HB := Aside0.mk (Below.refl w.heap.size w)
  by_cases c : 0 ≤ l ∧ l ≤ 1099511627776
  · have HC := Aside0.mk c
    have c0 : decide (l < 0) = false := decide_eq_false (by omega)
    have c1 : decide (1099511627776 < l) = false := decide_eq_false (by omega)
    clear c
    go_enter Try.func11, Try.ntmps11
    go_wp2
    go_ret2
    exact ⟨fun _ => ⟨_, Nat.le_refl _, rfl, blk_new _ _⟩, fun h => absurd HC.out h, (by repeat (first | (with_reducible first | exact HB.out | apply below_alloc | apply pw_below_drewN | apply below_drew1) | exact HB.out))⟩
  · have HC := Aside0.mk c
    by_cases d : l < 0
    · have c0 : decide (l < 0) = true := decide_eq_true d
      clear c d
      go_enter Try.func11, Try.ntmps11
      go_wp2
      go_ret2
      exact ⟨fun h => absurd h HC.out, fun _ => rfl, HB.out⟩
    · have c0 : decide (l < 0) = false := decide_eq_false d
      have c1 : decide (1099511627776 < l) = true := decide_eq_true (by omega)
      clear c d
      go_enter Try.func11, Try.ntmps11
      go_wp2
      go_ret2
      exact ⟨fun h => absurd h HC.out, fun _ => rfl, HB.out⟩

set_option maxHeartbeats 1000000 in
theorem hop_Take (g : Nat) (e l ep n : Int) (w : World) (hR : RV w g e l) (hl : 0 ≤ l ∧ l < 4611686018427387904) :
    Calls Try.prog 12 #[.pointer (some ⟨g, 0, none⟩), .int .i64 ep, .int .i64 n] w fun en w' => en = .returned (.bool (took e l ep n).1) ∧ RV w' g (took e l ep n).2.1 (took e l ep n).2.2 ∧ Upd (· = g) w w' := by
  have hc0 := blk_at hR (i := 0) rfl
  have hc1 := blk_at hR (i := 1) rfl
  have hf0 := blk_frozen hR 0
  have hf1 := blk_frozen hR 1
  have HG := Aside0.mk hR
  have hl0 := hl.1
  have hl1 := hl.2
  clear hR hl
  by_cases c : ep < e
  · have c0 : decide (ep < e) = true := decide_eq_true c
    have HX : Aside0 (took e l ep n = (false, e, l)) := ⟨by unfold took; rw [if_pos c]⟩
    clear c
    go_enter Try.func12, Try.ntmps12
    go_wp2
    go_ret
    rw [HX.out]
    exact ⟨rfl, HG.out, Upd.refl _ _⟩
  · have c0 : decide (ep < e) = false := decide_eq_false c
    by_cases d : n = l + 1
    · have c1 : (n == l + 1) = true := beq_iff_eq.mpr d
      have HX : Aside0 (took e l ep n = (true, ep, n)) := ⟨by unfold took; rw [if_neg c, if_pos d]⟩
      clear c d
      go_enter Try.func12, Try.ntmps12
      go_wp2
      go_ret
      rw [HX.out]
      exact ⟨rfl, blk_set (blk_set HG.out 0 _) 1 _, ((Upd.refl (· = g) _).setCell (p := ⟨g, 0, none⟩) (fun _ => rfl) _).setCell (p := ⟨g, 1, none⟩) (fun _ => rfl) _⟩
    · have c1 : (n == l + 1) = false := beq_eq_false_iff_ne.mpr d
      have HX : Aside0 (took e l ep n = (false, ep, l)) := ⟨by unfold took; rw [if_neg c, if_neg d]⟩
      clear c d
      go_enter Try.func12, Try.ntmps12
      go_wp2
      go_ret
      rw [HX.out]
      exact ⟨rfl, blk_set HG.out 0 _, (Upd.refl (· = g) _).setCell (p := ⟨g, 0, none⟩) (fun _ => rfl) _⟩

set_option maxHeartbeats 1000000 in
theorem ref_Take (g : Nat) (e l ep n : Int) (w : World) (hR : RW w g e l) (hl : 0 ≤ l ∧ l < 4611686018427387904) (hn : n < 9223372036854775808) :
    Calls Try.prog 13 #[.pointer (some ⟨g, 0, none⟩), .int .i64 ep, .int .i64 n] w fun en w' => en = .returned (.bool (took e l ep n).1) ∧ RW w' g (took e l ep n).2.1 (took e l ep n).2.2 ∧ Upd (· = g) w w' := by
  have hc0 := blk_at hR (i := 0) rfl
  have hc1 := blk_at hR (i := 1) rfl
  have hf0 := blk_frozen hR 0
  have hf1 := blk_frozen hR 1
  have HG := Aside0.mk hR
  have HL := Aside0.mk hl
  clear hR hl
  by_cases c : ep < e
  · have c0 : decide (ep < e) = true := decide_eq_true c
    have HX : Aside0 (took e l ep n = (false, e, l)) := ⟨by unfold took; rw [if_pos c]⟩
    clear c
    go_enter Try.func13, Try.ntmps13
    go_wp2
    go_ret
    rw [HX.out]
    exact ⟨rfl, HG.out, Upd.refl _ _⟩
  · have c0 : decide (ep < e) = false := decide_eq_false c
    by_cases n1 : n < 1
    · have c2 : decide (n < 1) = true := decide_eq_true n1
      have HX : Aside0 (took e l ep n = (false, ep, l)) := ⟨by unfold took; rw [if_neg c, if_neg (by have := HL.out; omega)]⟩
      clear c n1 hn
      go_enter Try.func13, Try.ntmps13
      go_wp2
      go_ret
      rw [HX.out]
      exact ⟨rfl, blk_set HG.out 0 _, (Upd.refl (· = g) _).setCell (p := ⟨g, 0, none⟩) (fun _ => rfl) _⟩
    · have c2 : decide (n < 1) = false := decide_eq_false n1
      have n2 : 1 ≤ n := by omega
      by_cases d : n = l + 1
      · have c1 : (n - 1 == l) = true := beq_iff_eq.mpr (by omega)
        have HX : Aside0 (took e l ep n = (true, ep, n)) := ⟨by unfold took; rw [if_neg c, if_pos d]⟩
        clear c d n1
        go_enter Try.func13, Try.ntmps13
        go_wp2
        go_ret
        rw [HX.out]
        exact ⟨rfl, blk_set (blk_set HG.out 0 _) 1 _, ((Upd.refl (· = g) _).setCell (p := ⟨g, 0, none⟩) (fun _ => rfl) _).setCell (p := ⟨g, 1, none⟩) (fun _ => rfl) _⟩
      · have c1 : (n - 1 == l) = false := beq_eq_false_iff_ne.mpr (by omega)
        have HX : Aside0 (took e l ep n = (false, ep, l)) := ⟨by unfold took; rw [if_neg c, if_neg d]⟩
        clear c d n1
        go_enter Try.func13, Try.ntmps13
        go_wp2
        go_ret
        rw [HX.out]
        exact ⟨rfl, blk_set HG.out 0 _, (Upd.refl (· = g) _).setCell (p := ⟨g, 0, none⟩) (fun _ => rfl) _⟩

set_option maxHeartbeats 1000000 in
theorem hop_Last (g : Nat) (e l : Int) (w : World) (hR : RV w g e l) :
    Calls Try.prog 14 #[.pointer (some ⟨g, 0, none⟩)] w fun en w' => en = .returned (.tuple #[.int .i64 e, .int .i64 l]) ∧ ∃ n, w' = w.drewN n := by
  have hc0 := blk_at hR (i := 0) rfl
  have hc1 := blk_at hR (i := 1) rfl
  have HG := Aside0.mk hR
  clear hR
  go_enter Try.func14, Try.ntmps14
  go_wp2
  go_quiet (fail)
  go_wp2
  go_ret2
  exact ⟨rfl, _, rfl⟩

theorem RV.lt {w : World} {g : Nat} {e l : Int} (h : RV w g e l) : g < w.heap.size := (Array.getElem?_eq_some_iff.1 h).1
theorem RW.lt {w : World} {g : Nat} {e l : Int} (h : RW w g e l) : g < w.heap.size := (Array.getElem?_eq_some_iff.1 h).1
theorem RV.upd {F : Nat → Prop} {w w' : World} {g : Nat} {e l : Int} (h : RV w g e l) (k : Upd F w w') (hn : ¬ F g) : RV w' g e l := k.blk h hn
theorem RW.upd {F : Nat → Prop} {w w' : World} {g : Nat} {e l : Int} (h : RW w g e l) (k : Upd F w w') (hn : ¬ F g) : RW w' g e l := k.blk h hn

end Go.Proofs.Ytmpgknemhmoboaa.C17
