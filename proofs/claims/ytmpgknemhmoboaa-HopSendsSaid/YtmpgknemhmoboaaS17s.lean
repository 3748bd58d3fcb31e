import Derived.Test.YtmpgknemhmoboaaS17n
import Derived.Test.YtmpgknemhmoboaaS17o
import Derived.Test.YtmpgknemhmoboaaS17q
/- Chapter 17: both senders, one beside the other: what a call to one leaves of the other. -/
namespace Go.Proofs.Ytmpgknemhmoboaa.S17
set_option linter.unusedSimpArgs false
set_option linter.unusedVariables false
open Go.RowKit Go.Proofs.YtmpgknemhmoboaaW.PrintWords Go.Proofs.YtmpgknemhmoboaaW.PrintLast Go.Proofs.YtmpgknemhmoboaaW.PrintMore Go.Proofs.Ytmpgknemhmoboaa.Base Go.Proofs.Ytmpgknemhmoboaa.Q17h Go.Proofs.Ytmpgknemhmoboaa.Pl
/-- A call that changes one sender's block and its items' leaves what lies in blocks of other types. -/
theorem carry {α β : Type} {d1 : Kd α} {d2 : Kd β} {T1 T2 E1 E2 base g1 g2 : Nat} {W W' : World} {v1 v2 : Value} {cs1 cs2 : Array Value} {xs1 : List α} {xs2 : List β} (hd2 : d2.E = []) (hne : T2 ≠ T1 ∧ T2 ≠ E1 ∧ E2 ≠ T1 ∧ E2 ≠ E1)
    (b1 : W.heap[g1]? = some (.cells cs1 T1 (0, 0))) (q1 : Kd.Q d1 E1 W base (fun _ => True) v1 xs1) (b2 : W.heap[g2]? = some (.cells cs2 T2 (0, 0))) (q2 : Kd.Q d2 E2 W base (fun _ => True) v2 xs2) (hu : Upd (fun k => k = g1 ∨ some k = v1.ownBlock) W W') :
    W'.heap[g2]? = some (.cells cs2 T2 (0, 0)) ∧ Kd.Q d2 E2 W' base (fun _ => True) v2 xs2 := by
  have ty : ∀ (k t : Nat) (cells : Array Value), W.heap[k]? = some (.cells cells t (0, 0)) → t ≠ T1 → t ≠ E1 → ¬ (k = g1 ∨ some k = v1.ownBlock) := by
    rintro k t cells hk h1 h2 (rfl | h)
    · rw [b1] at hk
      injection hk with hk
      injection hk with _ hk
      exact h1 hk.symm
    · obtain ⟨cells', hc⟩ := Kd.Q_typed q1 k h.symm
      rw [hc] at hk
      injection hk with hk
      injection hk with _ hk
      exact h2 hk.symm
  refine ⟨hu.blk b2 (ty g2 T2 cs2 b2 hne.1 hne.2.1), Kd.Q_mono (Kd.Q_step (Kd.Q_bound q2) (fun k hk hlt => ?_)) (fun _ _ => trivial)⟩
  obtain ⟨_, _, _, q, hq, cells, hc⟩ := hk
  rw [hd2] at hq
  obtain rfl : q = E2 := by simpa using hq
  exact hu.block k hlt (ty k q cells hc hne.2.2.1 hne.2.2.2)
theorem carry_below {α : Type} {d1 : Kd α} {E1 base g1 : Nat} {w W W' : World} {v1 : Value} {xs1 : List α} (h : Below base w W) (hb : base ≤ W.heap.size) (hg : base ≤ g1) (q1 : Kd.Q d1 E1 W base (fun _ => True) v1 xs1) (hu : Upd (fun k => k = g1 ∨ some k = v1.ownBlock) W W') : Below base w W' :=
  Upd.after h hu hb (fun i hi hF => by
    rcases hF with rfl | hF
    · omega
    · have := Kd.Q_base q1 i hF.symm
      omega)
def conv (x : S87) : S98 := ⟨x.f0, x.f1⟩
/-- Both senders hold the same. -/
structure SB (w W : World) (ga gb : Nat) (f0 h s t wd wt : Int) (xs : List S87) (A : Option Addr) (c : Nat) (B : Option Addr) (d : Nat) : Prop where
  a : IsA W ga f0 h s A xs.length c t wd wt
  b : IsB W gb f0 h s B xs.length d t wd wt
  qa : Kd.Q k87 87 W w.heap.size (fun _ => True) (.slice A xs.length c) xs
  qb : Kd.Q k98 98 W w.heap.size (fun _ => True) (.slice B xs.length d) (xs.map conv)
  ga : w.heap.size ≤ ga
  gb : w.heap.size ≤ gb
  lo : Below w.heap.size w W
  num : ∀ i : Nat, i < xs.length → (rd_T87 xs (i : Int)).f0 = h + 1 + i
  has : 0 ≤ h ∧ h + xs.length ≤ 1099511627776 ∧ xs.length ≤ 64
  sent : h ≤ s ∧ s ≤ h + xs.length
  tick : 0 ≤ t ∧ t < wt
  wd : 1 ≤ wd ∧ wd ≤ 16
  wt : 1 ≤ wt ∧ wt ≤ 100
theorem neA : (60 : Nat) ≠ 96 ∧ (60 : Nat) ≠ 87 ∧ (98 : Nat) ≠ 96 ∧ (98 : Nat) ≠ 87 := by decide
theorem neB : (96 : Nat) ≠ 60 ∧ (96 : Nat) ≠ 98 ∧ (87 : Nat) ≠ 60 ∧ (87 : Nat) ≠ 98 := by decide
/-- What a call to the program's sender leaves of the document's. -/
theorem carryA {w W W' : World} {ga gb n m c d : Nat} {f0 f1 f2 f4 f5 f6 e0 e1 e2 e4 e5 e6 : Int} {A B : Option Addr} {xs : List S87} {ys : List S98} (a : IsA W ga f0 f1 f2 A n c f4 f5 f6) (qa : Kd.Q k87 87 W w.heap.size (fun _ => True) (.slice A n c) xs) (b : IsB W gb e0 e1 e2 B m d e4 e5 e6) (qb : Kd.Q k98 98 W w.heap.size (fun _ => True) (.slice B m d) ys) (hg : w.heap.size ≤ ga) (lo : Below w.heap.size w W) (hu : Upd (fun k => k = ga ∨ some k = (Value.slice A n c).ownBlock) W W') :
    IsB W' gb e0 e1 e2 B m d e4 e5 e6 ∧ Kd.Q k98 98 W' w.heap.size (fun _ => True) (.slice B m d) ys ∧ Below w.heap.size w W' := by
  obtain ⟨h1, h2⟩ := carry (d1 := k87) (d2 := k98) rfl neA a qa b qb hu
  exact ⟨h1, h2, carry_below lo lo.size hg qa hu⟩
theorem carryB {w W W' : World} {ga gb n m c d : Nat} {f0 f1 f2 f4 f5 f6 e0 e1 e2 e4 e5 e6 : Int} {A B : Option Addr} {xs : List S87} {ys : List S98} (a : IsA W ga f0 f1 f2 A n c f4 f5 f6) (qa : Kd.Q k87 87 W w.heap.size (fun _ => True) (.slice A n c) xs) (b : IsB W gb e0 e1 e2 B m d e4 e5 e6) (qb : Kd.Q k98 98 W w.heap.size (fun _ => True) (.slice B m d) ys) (hg : w.heap.size ≤ gb) (lo : Below w.heap.size w W) (hu : Upd (fun k => k = gb ∨ some k = (Value.slice B m d).ownBlock) W W') :
    IsA W' ga f0 f1 f2 A n c f4 f5 f6 ∧ Kd.Q k87 87 W' w.heap.size (fun _ => True) (.slice A n c) xs ∧ Below w.heap.size w W' := by
  obtain ⟨h1, h2⟩ := carry (d1 := k98) (d2 := k87) rfl neB b qb a qa hu
  exact ⟨h1, h2, carry_below lo lo.size hg qb hu⟩
end Go.Proofs.Ytmpgknemhmoboaa.S17
