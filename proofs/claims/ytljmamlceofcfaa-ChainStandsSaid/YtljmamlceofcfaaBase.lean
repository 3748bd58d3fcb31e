import Derived.Test.YtljmamlceofcfaaVMore
import Derived.WalkKit
import Derived.KernelRfl
import Derived.Deep.LoopGhost
import Derived.Deep.QuietTactic
import Derived.BigQuiet
import Derived.OwnWalk
/- Words for what a call changes: the blocks of a set, and new ones. -/
namespace Go.Proofs.Ytljmamlceofcfaa.Base
open Go.RowKit Go.Proofs.YtljmamlceofcfaaW.PrintWords Go.Proofs.YtljmamlceofcfaaW.PrintLast Go.Proofs.YtljmamlceofcfaaW.PrintMore

/-- What may have changed from w to w': the blocks of F, and what is new. -/
structure Upd (F : Nat → Prop) (w w' : World) : Prop where
  os : w'.os = w.os
  tape : w'.tape = w.tape
  output : w'.output = w.output
  size : w.heap.size ≤ w'.heap.size
  block : ∀ k, k < w.heap.size → ¬ F k → w'.heap[k]? = w.heap[k]?

theorem Upd.refl (F : Nat → Prop) (w : World) : Upd F w w := ⟨rfl, rfl, rfl, Nat.le_refl _, fun _ _ _ => rfl⟩
theorem Upd.of_below {F : Nat → Prop} {w w' : World} (h : Below w.heap.size w w') : Upd F w w' := ⟨h.os, h.tape, h.output, h.size, fun k hk _ => h.block k hk⟩
theorem Upd.trans {F F' : Nat → Prop} {a b c : World} (h : Upd F a b) (k : Upd F' b c) (hF : ∀ i, i < a.heap.size → F' i → F i) : Upd F a c :=
  ⟨k.os.trans h.os, k.tape.trans h.tape, k.output.trans h.output, Nat.le_trans h.size k.size, fun i hi hn => (k.block i (Nat.lt_of_lt_of_le hi h.size) (fun hf => hn (hF i hi hf))).trans (h.block i hi hn)⟩
theorem Upd.then_ {F : Nat → Prop} {a b c : World} (h : Upd F a b) (k : Upd F b c) : Upd F a c := h.trans k (fun _ _ hf => hf)
theorem Upd.below_ {F : Nat → Prop} {a b c : World} (h : Upd F a b) (k : Below b.heap.size b c) : Upd F a c := h.then_ (.of_below k)
theorem Upd.mono {F F' : Nat → Prop} {w w' : World} (h : Upd F w w') (hF : ∀ i, i < w.heap.size → F i → F' i) : Upd F' w w' := (Upd.refl F' w).trans h hF
theorem Upd.alloc {F : Nat → Prop} {a w : World} (h : Upd F a w) (o : Obj) : Upd F a (w.alloc o) := h.below_ ((Below.refl _ _).alloc (Nat.le_refl _) o)
theorem Upd.drew {F : Nat → Prop} {a w : World} (h : Upd F a w) : Upd F a w.drew := h.below_ (Below.refl _ _).drew
theorem Upd.drewN {F : Nat → Prop} {a w : World} (h : Upd F a w) (n : Nat) : Upd F a (w.drewN n) := h.below_ (pw_below_drewN (Below.refl _ _) n)
theorem Upd.setCell {F : Nat → Prop} {a w : World} (h : Upd F a w) {p : Addr} (hp : p.block < a.heap.size → F p.block) (u : Value) : Upd F a (w.setCell p u) := by
  have hs := h.size
  refine ⟨h.os, h.tape, h.output, ?_, fun k hk hn => ?_⟩
  · have : (w.setCell p u).heap.size = w.heap.size := by unfold World.setCell; split <;> simp
    omega
  · refine (Below.heap_setCell w p u k ?_).trans (h.block k hk hn)
    rintro rfl
    exact hn (hp hk)
theorem Upd.grown {F : Nat → Prop} {a w w' : World} {row : Option Nat} (h : Upd F a w) (hg : w.grownBy w' row) (hr : ∀ k, row = some k → k < a.heap.size → F k) : Upd F a w' :=
  ⟨hg.os.trans h.os, hg.tape.trans h.tape, hg.output.trans h.output, Nat.le_trans h.size hg.size, fun k hk hn => (hg.block k (Nat.lt_of_lt_of_le hk h.size) (by
    rintro rfl
    exact hn (hr k rfl hk))).trans (h.block k hk hn)⟩
theorem Upd.below {F : Nat → Prop} {w w' : World} {B : Nat} (h : Upd F w w') (hB : B ≤ w.heap.size) (hF : ∀ i, i < B → ¬ F i) : Below B w w' :=
  ⟨h.os, h.tape, h.output, h.size, fun k hk => h.block k (Nat.lt_of_lt_of_le hk hB) (hF k hk)⟩
theorem Upd.blk {F : Nat → Prop} {w w' : World} {g : Nat} {o : Obj} (h : Upd F w w') (hb : w.heap[g]? = some o) (hg : ¬ F g) : w'.heap[g]? = some o :=
  (h.block g (Array.getElem?_eq_some_iff.1 hb).1 hg).trans hb
theorem Upd.cell {F : Nat → Prop} {w w' : World} {p : Addr} {v : Value} (h : Upd F w w') (hc : w.cell? p = some v) (hg : ¬ F p.block) : w'.cell? p = some v :=
  (World.cell?_of_block (w := w) (h.block p.block (World.block_lt_of_cell? w p hc) hg)).trans hc

/-- Where a call changes nothing that was there. -/
theorem Upd.of_below_then {F : Nat → Prop} {a b c : World} (h : Below a.heap.size a b) (k : Upd F b c) (hF : ∀ i, i < a.heap.size → ¬ F i) : Below a.heap.size a c :=
  Upd.below (F := F) ((Upd.of_below h).then_ k) (Nat.le_refl _) hF

theorem blk_next {w : World} {g : Nat} {t : TypeId} {cs : Array Value} (h : w.heap[g]? = some (.cells cs t (0, 0))) : g < w.heap.size := (Array.getElem?_eq_some_iff.1 h).1
theorem blk_alloc {w : World} {g : Nat} {o : Obj} (h : w.heap[g]? = some o) (o' : Obj) : (w.alloc o').heap[g]? = some o := (Below.heap_alloc w o' g (Array.getElem?_eq_some_iff.1 h).1).trans h
theorem blk_drewN {w : World} {g : Nat} {o : Obj} (h : w.heap[g]? = some o) (n : Nat) : (w.drewN n).heap[g]? = some o := h
theorem blk_drew {w : World} {g : Nat} {o : Obj} (h : w.heap[g]? = some o) : w.drew.heap[g]? = some o := h

theorem blk_at {w : World} {g : Nat} {t : TypeId} {cs : Array Value} (h : w.heap[g]? = some (.cells cs t (0, 0))) {i : Nat} {v : Value} (hv : cs[i]? = some v) : w.cell? ⟨g, i, none⟩ = some v := (blk_cell h i).trans hv

theorem Upd.after {F : Nat → Prop} {B : Nat} {w0 w1 w2 : World} (h : Below B w0 w1) (k : Upd F w1 w2) (hB : B ≤ w1.heap.size) (hF : ∀ i, i < B → ¬ F i) : Below B w0 w2 :=
  h.trans (k.below hB hF)
/-- The same, of one block that is newer. -/
theorem Upd.after1 {g : Nat} {w0 w1 w2 : World} (h : Below w0.heap.size w0 w1) (k : Upd (· = g) w1 w2) (hg : w0.heap.size ≤ g) : Below w0.heap.size w0 w2 :=
  k.after h h.size (fun i hi he => by omega)

/-- A region that draws its order, where what its loads lean on is shown later. -/
theorem start0_ {P : Program} {ops : Array Oper} {Q : Exit → Act → World → Prop} {S : World → Prop} {ds : List Nat} {id n : Nat} {a : Act} {w : World} (l : Array Bool) (hm : P.follows .mixedOrders = true) (hn : ops.size = n) (hl : Array.replicate n false = l)
    (h : wpAnyLast P .any ops Q S ds n l a w.drew) : (Code.region id ops true).wp P Q a w := by
  subst hn
  subst hl
  exact wp_region_last hm h
end Go.Proofs.Ytljmamlceofcfaa.Base
