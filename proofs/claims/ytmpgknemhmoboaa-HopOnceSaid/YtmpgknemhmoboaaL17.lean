import Derived.Test.YtmpgknemhmoboaaProg
import Derived.Test.YtmpgknemhmoboaaS17w
import Derived.Test.YtmpgknemhmoboaaOpen
import Derived.Test.YtmpgknemhmoboaaPl
section
/- Places in a function's code, named by projections. -/
namespace Go.Proofs.Ytmpgknemhmoboaa.Path
open Go
def seqL : Code → Code | .seq a _ => a | c => c
def seqR : Code → Code | .seq _ b => b | c => c
def condT : Code → Code | .cond _ a _ => a | c => c
def condF : Code → Code | .cond _ _ b => b | c => c
def blockB : Code → Code | .block _ c => c | c => c
def loopB : Code → Code | .loop c => c | c => c
def bodyOf (f : Func) : Code := f.body.getD .skip
theorem t44 : ∃ o d, condT (seqR (condF (seqR (condF (seqR (condF (seqR (blockB (seqR (seqR (blockB (seqL (seqR (loopB (blockB (seqR (seqL (seqR (seqR (seqR (seqR (seqR (seqR (seqR (seqR (seqR (bodyOf Try.f8))))))))))))))))))))))))))) = .region 44 o d := ⟨_, _, rfl⟩
end Go.Proofs.Ytmpgknemhmoboaa.Path
end
section
/- Chapter 17, plain: items that are numbered, and a round in which nothing is lost. -/
namespace Go.Proofs.Ytmpgknemhmoboaa.M17
set_option linter.unusedSimpArgs false
set_option linter.unusedVariables false
open Go.RowKit S17 Base Q17h Go.Proofs.YtmpgknemhmoboaaW.PrintWords Go.Proofs.YtmpgknemhmoboaaW.PrintLast Go.Proofs.YtmpgknemhmoboaaW.PrintMore
/-- A letter. -/
def chr (n : Int) : ByteArray := strOfNums [n % 256]
theorem chr_size (n : Int) : (chr n).size = 1 := by unfold chr; rw [strOfNums_size]; rfl
def item (h : Int) (i : Nat) : S87 := ⟨h + 1 + i, chr (h + 1 + i)⟩
/-- The items behind h, n of them. -/
def items (h : Int) (n : Nat) : List S87 := (List.range n).map (item h)
theorem items_len (h : Int) (n : Nat) : (items h n).length = n := by unfold items; simp
theorem items_drop (h : Int) (n k : Nat) : (items h n).drop k = items (h + k) (n - k) := by
  unfold items
  refine List.ext_getElem (by simp) (fun i h1 h2 => ?_)
  simp at h1
  simp only [List.getElem_drop, List.getElem_map, List.getElem_range]
  unfold item
  have : h + 1 + ((k + i : Nat) : Int) = h + k + 1 + i := by omega
  rw [this]
theorem items_take (h : Int) (n k : Nat) : (items h n).take k = items h (min k n) := by
  unfold items
  rw [← List.map_take, List.take_range]
theorem items_snoc (h : Int) (n : Nat) : items h n ++ [item h n] = items h (n + 1) := by
  unfold items
  rw [List.range_succ, List.map_append]
  rfl
theorem items_rd (h : Int) (n i : Nat) (hi : i < n) : rd_T87 (items h n) (i : Int) = item h i := by
  unfold rd_T87 items
  rw [Int.toNat_natCast, List.getD_eq_getElem?_getD, List.getElem?_map, List.getElem?_range hi]
  rfl
theorem put_items (h : Int) (n : Nat) (hn : n < 64) (hh : h + n + 1 ≤ 1099511627776) : putL h (items h n) (chr (h + n + 1)) = items h (n + 1) ∧ putFA h n (chr (h + n + 1)) = (h + n + 1, 0) := by
  have hp : putFA h n (chr (h + n + 1)) = (h + n + 1, 0) := by
    unfold putFA
    rw [chr_size, if_neg (by decide), if_neg (by omega)]
  refine ⟨?_, hp⟩
  unfold putL
  rw [items_len, hp, if_pos rfl, ← items_snoc]
  unfold item
  rw [show h + (n : Int) + 1 = h + 1 + n from by omega]
theorem put_full (h : Int) (n : Nat) (hn : ¬ n < 64) : putL h (items h n) (chr (h + n + 1)) = items h n ∧ putFA h n (chr (h + n + 1)) = (0, 2) := by
  have hp : putFA h n (chr (h + n + 1)) = (0, 2) := by
    unfold putFA
    rw [chr_size, if_neg (by decide), if_pos (by omega)]
  refine ⟨?_, hp⟩
  unfold putL
  rw [items_len, hp, if_neg (by decide)]
/-- How many are sent now. -/
def outN (n : Nat) (h s wd : Int) : Nat := (outTo n h s wd - (s - h)).toNat
theorem out_items (n : Nat) (h s wd : Int) (hs : h ≤ s ∧ s ≤ h + n) (hw : 1 ≤ wd) : outL h s wd (items h n) = items s (outN n h s wd) := by
  have hb : s - h ≤ outTo n h s wd ∧ outTo n h s wd ≤ n := by
    unfold outTo mx mn
    repeat' split
    all_goals omega
  unfold outL
  rw [items_len, items_take, items_drop]
  unfold outN
  rw [show h + ((s - h).toNat : Int) = s from by omega]
  congr 1
  omega
/-- How far it is to the end. -/
def far (put h s t wt : Int) : Int := 10 * (put - h) + (if s = h then 0 else wt - t)
/-- What holds behind j items of a round: h0, s0, t0 behind the tick, s1 behind what is sent. -/
def mid (put h0 l0 s0 s1 t0 : Int) (j : Nat) (h s t l : Int) : Prop :=
  l0 ≤ l ∧ l ≤ put ∧ (s0 = h0 → h0 + j ≤ l) ∧ ((j = 0 ∧ h = h0 ∧ l = l0 ∧ s = s1 ∧ t = t0) ∨ (0 < j ∧ h = l ∧ s = mx s1 l ∧ t = if h0 < l then 0 else t0))
theorem mid_start (put h0 l0 s0 s1 t0 : Int) (h1 : h0 ≤ l0) (h2 : l0 ≤ put) : mid put h0 l0 s0 s1 t0 0 h0 s1 t0 l0 := ⟨Int.le_refl _, h2, fun _ => by omega, .inl ⟨rfl, rfl, rfl, rfl, rfl⟩⟩
/-- An item comes, and its word is heard. -/
theorem mid_step {put h0 l0 s0 s1 t0 h s t l e ep : Int} {j n : Nat} (H : mid put h0 l0 s0 s1 t0 j h s t l) (hn : h + n = put) (h1 : h0 ≤ l0) (hs0 : h0 ≤ s0) (hs : s0 + 1 + j ≤ put) (hs1 : h0 ≤ s1) (he : e ≤ ep) :
    let l' := (C17.took e l ep (s0 + 1 + j)).2.2
    let b := ackB ep ep h n l'
    (C17.took e l ep (s0 + 1 + j)).2.1 = ep ∧ mid put h0 l0 s0 s1 t0 (j + 1) (if b then l' else h) (if b then mx s l' else s) (if b then 0 else t) l' ∧ l ≤ l' ∧ l' ≤ put := by
  have ht : C17.took e l ep (s0 + 1 + j) = (decide (s0 + 1 + j = l + 1), ep, if s0 + 1 + j = l + 1 then s0 + 1 + j else l) := by
    unfold C17.took
    rw [if_neg (by omega)]
    split
    · rename_i q; simp [q]
    · rename_i q; simp [q]
  rw [ht]
  simp only
  obtain ⟨a1, a2, a3, a4⟩ := H
  generalize hl' : (if s0 + 1 + (j : Int) = l + 1 then s0 + 1 + (j : Int) else l) = l'
  have hl : l ≤ l' ∧ l' ≤ put ∧ (s0 = h0 → h0 + (j + 1 : Nat) ≤ l') := by
    subst hl'
    split
    · exact ⟨by omega, by omega, fun q => by omega⟩
    · exact ⟨by omega, by omega, fun q => by have := a3 q; omega⟩
  refine ⟨by first | rfl | trivial, ⟨by omega, hl.2.1, hl.2.2, .inr ⟨by omega, ?_⟩⟩, hl.1, hl.2.1⟩
  have hbd : (ackB ep ep h n l' = true) = (h < l') := by
    unfold ackB
    rw [decide_eq_true_eq]
    exact propext ⟨fun q => q.2.1, fun q => ⟨rfl, q, by omega⟩⟩
  simp only [hbd]
  unfold mx at a4 ⊢
  rcases a4 with ⟨b1, b2, b3, b4, b5⟩ | ⟨b1, b2, b3, b4⟩
  · subst b2 b3 b4 b5
    refine ⟨?_, ?_, ?_⟩
    · split <;> omega
    · repeat' split
      all_goals omega
    · repeat' split
      all_goals omega
  · refine ⟨?_, ?_, ?_⟩
    · split <;> omega
    · repeat' split at b3
      all_goals (repeat' split)
      all_goals omega
    · repeat' split at b4
      all_goals (repeat' split)
      all_goals omega
/-- A whole round. -/
theorem round_far {put h0 l0 s t wt wd : Int} {n : Nat} {h' s' t' l' : Int} (hn : h0 + n = put) (hs : h0 ≤ s ∧ s ≤ h0 + n) (ht : 0 ≤ t ∧ t < wt) (hw : 1 ≤ wt ∧ wt ≤ 9) (hd : 1 ≤ wd ∧ wd ≤ 16) (hl : h0 ≤ l0)
    (H : mid put h0 l0 (tickF h0 s t wt).1 (h0 + outTo n h0 (tickF h0 s t wt).1 wd) (tickF h0 s t wt).2 (outN n h0 (tickF h0 s t wt).1 wd) h' s' t' l') : far put h' s' t' wt ≤ far put h0 s t wt - 1 ∨ far put h' s' t' wt = 0 := by
  obtain ⟨a1, a2, a3, a4⟩ := H
  unfold far
  by_cases c1 : s = h0
  · have e1 : tickF h0 s t wt = (s, t) := by unfold tickF; rw [if_pos c1]
    rw [e1] at a3 a4
    simp only at a3 a4
    subst c1
    have e2 : outTo n s s wd = mn n wd := by unfold outTo mx mn; repeat' split <;> omega
    unfold outN at a3 a4
    rw [e2] at a3 a4
    have e3 : mn (n : Int) wd ≤ n ∧ 0 ≤ mn (n : Int) wd ∧ (1 ≤ n → 1 ≤ mn (n : Int) wd) ∧ (n = 0 → mn (n : Int) wd = 0) := by unfold mn; split <;> omega
    have a3 := a3 (by first | rfl | trivial)
    generalize mn (n : Int) wd = q at *
    unfold mx at a4
    rcases a4 with ⟨b1, b2, b3, b4, b5⟩ | ⟨b1, b2, b3, b4⟩
    · right
      rw [if_pos (by omega)]
      omega
    · have : s' = h' := by
        split at b3 <;> omega
      rw [if_pos this, if_pos rfl]
      omega
  · by_cases c2 : t + 1 ≥ wt
    · have e1 : tickF h0 s t wt = (h0, 0) := by unfold tickF; rw [if_neg c1, if_pos c2]
      rw [e1] at a3 a4
      simp only at a3 a4
      have e2 : outTo n h0 h0 wd = mn n wd := by unfold outTo mx mn; repeat' split <;> omega
      unfold outN at a3 a4
      rw [e2] at a3 a4
      have e3 : mn (n : Int) wd ≤ n ∧ 1 ≤ mn (n : Int) wd := by unfold mn; split <;> omega
      have a3 := a3 (by first | rfl | trivial)
      generalize mn (n : Int) wd = q at *
      unfold mx at a4
      rcases a4 with ⟨b1, b2, b3, b4, b5⟩ | ⟨b1, b2, b3, b4⟩
      · omega
      · have : s' = h' := by
          split at b3 <;> omega
        rw [if_pos this, if_neg c1]
        omega
    · have e1 : tickF h0 s t wt = (s, t + 1) := by unfold tickF; rw [if_neg c1, if_neg c2]
      rw [e1] at a4
      simp only at a4
      have e3 : s - h0 ≤ outTo n h0 s wd ∧ outTo n h0 s wd ≤ n := by unfold outTo mx mn; repeat' split <;> omega
      unfold outN at a4
      generalize outTo n h0 s wd = q at *
      left
      rw [if_neg c1]
      unfold mx at a4
      rcases a4 with ⟨b1, b2, b3, b4, b5⟩ | ⟨b1, b2, b3, b4⟩
      · rw [if_neg (by omega)]
        omega
      · by_cases c3 : h0 < l'
        · rw [if_pos c3] at b4
          split <;> omega
        · rw [if_neg c3] at b4
          have : s' ≠ h' := by
            split at b3 <;> omega
          rw [if_neg this]
          omega
end Go.Proofs.Ytmpgknemhmoboaa.M17
end
section
/- Chapter 17: what HopOnce holds, round by round. -/
namespace Go.Proofs.Ytmpgknemhmoboaa.L17
set_option linter.unusedSimpArgs false
set_option linter.unusedVariables false
open Go.RowKit S17 M17 Base Q17h Go.Proofs.YtmpgknemhmoboaaW.PrintWords Go.Proofs.YtmpgknemhmoboaaW.PrintLast Go.Proofs.YtmpgknemhmoboaaW.PrintMore
structure SFr where
  kind : Int
  fl : Int
  ep : Int
  n : Int
  s : ByteArray
def zFr : SFr := ⟨(0 : Int), (0 : Int), (0 : Int), (0 : Int), (ByteArray.empty : ByteArray)⟩
def kFr : Kd SFr := Kd.iso (Kd.pair (Kd.int .i64) (Kd.pair (Kd.int .i64) (Kd.pair (Kd.int .i64) (Kd.pair (Kd.int .i64) (Kd.string))))) (fun x : SFr => (x.kind, x.fl, x.ep, x.n, x.s))
theorem kFr_open {w : World} {x : SFr} {cs : List Value} (h : kFr.K w x cs) : cs = [.int .i64 x.kind, .int .i64 x.fl, .int .i64 x.ep, .int .i64 x.n, .string x.s] := by
  obtain ⟨_, _, rfl, rfl, ⟨_, _, rfl, rfl, ⟨_, _, rfl, rfl, ⟨_, _, rfl, rfl, rfl⟩⟩⟩⟩ := h
  exact rfl
theorem kFr_openM {w : World} {base : Nat} {ok : Nat → Prop} {x : SFr} {cs : List Value} (h : kFr.M w base ok x cs) : cs = [.int .i64 x.kind, .int .i64 x.fl, .int .i64 x.ep, .int .i64 x.n, .string x.s] := by
  obtain ⟨_, _, rfl, rfl, ⟨_, _, rfl, rfl, ⟨_, _, rfl, rfl, ⟨_, _, rfl, rfl, rfl⟩⟩⟩⟩ := h
  exact rfl
theorem kFr_mk (w : World) (x : SFr) : kFr.K w x [.int .i64 x.kind, .int .i64 x.fl, .int .i64 x.ep, .int .i64 x.n, .string x.s] := ⟨[.int .i64 x.kind], [.int .i64 x.fl, .int .i64 x.ep, .int .i64 x.n, .string x.s], rfl, rfl, ⟨[.int .i64 x.fl], [.int .i64 x.ep, .int .i64 x.n, .string x.s], rfl, rfl, ⟨[.int .i64 x.ep], [.int .i64 x.n, .string x.s], rfl, rfl, ⟨[.int .i64 x.n], [.string x.s], rfl, rfl, rfl⟩⟩⟩⟩
theorem kFr_mkM (w : World) (base : Nat) (ok : Nat → Prop) (x : SFr) : kFr.M w base ok x [.int .i64 x.kind, .int .i64 x.fl, .int .i64 x.ep, .int .i64 x.n, .string x.s] := ⟨[.int .i64 x.kind], [.int .i64 x.fl, .int .i64 x.ep, .int .i64 x.n, .string x.s], rfl, rfl, ⟨[.int .i64 x.fl], [.int .i64 x.ep, .int .i64 x.n, .string x.s], rfl, rfl, ⟨[.int .i64 x.ep], [.int .i64 x.n, .string x.s], rfl, rfl, ⟨[.int .i64 x.n], [.string x.s], rfl, rfl, rfl⟩⟩⟩⟩
def rd_Fr (xs : List SFr) (i : Int) : SFr := xs.getD i.toNat zFr
theorem at_Fr {w : World} {A : Option Addr} {n : Nat} {xs : List SFr} (h : Kd.C kFr w A n xs) (i : Int) (h0 : 0 ≤ i) (h1 : i < n) : ∃ ad, A = some ad ∧ w.cell? (ad.add (i.toNat * 5)) = some (.int .i64 (rd_Fr xs i).kind) ∧ w.cell? ⟨(ad.add (i.toNat * 5)).block, (ad.add (i.toNat * 5)).off + 1, none⟩ = some (.int .i64 (rd_Fr xs i).fl) ∧ w.cell? ⟨(ad.add (i.toNat * 5)).block, (ad.add (i.toNat * 5)).off + 2, none⟩ = some (.int .i64 (rd_Fr xs i).ep) ∧ w.cell? ⟨(ad.add (i.toNat * 5)).block, (ad.add (i.toNat * 5)).off + 3, none⟩ = some (.int .i64 (rd_Fr xs i).n) ∧ w.cell? ⟨(ad.add (i.toNat * 5)).block, (ad.add (i.toNat * 5)).off + 4, none⟩ = some (.string (rd_Fr xs i).s) := by
  obtain ⟨ad, c, e, _, hK, hc0⟩ := Kd.C_get h zFr i h0 h1
  have hc : ∀ j u, c[j]? = some u → w.cell? (ad.add (i.toNat * 5 + j)) = some u := hc0
  obtain rfl := kFr_open hK
  exact ⟨ad, e, hc 0 _ rfl, by rw [← add_field _ _ 1 (by omega)]; exact hc 1 _ rfl, by rw [← add_field _ _ 2 (by omega)]; exact hc 2 _ rfl, by rw [← add_field _ _ 3 (by omega)]; exact hc 3 _ rfl, by rw [← add_field _ _ 4 (by omega)]; exact hc 4 _ rfl⟩
structure SLk where
  kind : Int
  at_ : Int
def zLk : SLk := ⟨(0 : Int), (0 : Int)⟩
def kLk : Kd SLk := Kd.iso (Kd.pair (Kd.int .i64) (Kd.int .i64)) (fun x : SLk => (x.kind, x.at_))
theorem kLk_open {w : World} {x : SLk} {cs : List Value} (h : kLk.K w x cs) : cs = [.int .i64 x.kind, .int .i64 x.at_] := by
  obtain ⟨_, _, rfl, rfl, rfl⟩ := h
  exact rfl
theorem kLk_openM {w : World} {base : Nat} {ok : Nat → Prop} {x : SLk} {cs : List Value} (h : kLk.M w base ok x cs) : cs = [.int .i64 x.kind, .int .i64 x.at_] := by
  obtain ⟨_, _, rfl, rfl, rfl⟩ := h
  exact rfl
theorem kLk_mk (w : World) (x : SLk) : kLk.K w x [.int .i64 x.kind, .int .i64 x.at_] := ⟨[.int .i64 x.kind], [.int .i64 x.at_], rfl, rfl, rfl⟩
theorem kLk_mkM (w : World) (base : Nat) (ok : Nat → Prop) (x : SLk) : kLk.M w base ok x [.int .i64 x.kind, .int .i64 x.at_] := ⟨[.int .i64 x.kind], [.int .i64 x.at_], rfl, rfl, rfl⟩
def rd_Lk (xs : List SLk) (i : Int) : SLk := xs.getD i.toNat zLk
theorem at_Lk {w : World} {A : Option Addr} {n : Nat} {xs : List SLk} (h : Kd.C kLk w A n xs) (i : Int) (h0 : 0 ≤ i) (h1 : i < n) : ∃ ad, A = some ad ∧ w.cell? (ad.add (i.toNat * 2)) = some (.int .i64 (rd_Lk xs i).kind) ∧ w.cell? ⟨(ad.add (i.toNat * 2)).block, (ad.add (i.toNat * 2)).off + 1, none⟩ = some (.int .i64 (rd_Lk xs i).at_) := by
  obtain ⟨ad, c, e, _, hK, hc0⟩ := Kd.C_get h zLk i h0 h1
  have hc : ∀ j u, c[j]? = some u → w.cell? (ad.add (i.toNat * 2 + j)) = some u := hc0
  obtain rfl := kLk_open hK
  exact ⟨ad, e, hc 0 _ rfl, by rw [← add_field _ _ 1 (by omega)]; exact hc 1 _ rfl⟩
theorem opens_Lk : Open.Opens Try.prog 85 kLk (fun x => (Lit.int .i64 x.kind).wf = true ∧ (Lit.int .i64 x.at_).wf = true) :=
  Open.Opens.iso (Open.opens_struct Try.underlying85 (by kernel_rfl) (Open.opensF_cons (by kernel_rfl) (by rfl) (Open.opens_int (P := Try.prog) (by kernel_rfl)) (Open.opensF_last (by kernel_rfl) (Open.opens_int (P := Try.prog) (by kernel_rfl))))) (fun x : SLk => (x.kind, x.at_)) (fun t => ⟨t.1, t.2⟩) (fun t => rfl)
theorem infoF : (Try.prog.info? 72).map (fun i => (i.zero, i.size, i.bytes)) = some (some (.agg #[.int .i64 0, .int .i64 0, .int .i64 0, .int .i64 0, .string ByteArray.empty]), 5, 48) := by kernel_rfl
theorem TU.r {α : Type} {d : Kd α} {T : List Nat} {W W' : World} {E base : Nat} {v : Value} {xs : List α} (h : TU T W W') (hE : d.E = []) (q : Kd.R d E W base (fun _ => True) v xs) (ht : E ∉ T) : Kd.R d E W' base (fun _ => True) v xs := by
  refine Kd.R_mono (Kd.R_step (Kd.R_bound q) (fun k hk hlt => ?_)) (fun _ _ => trivial)
  obtain ⟨_, _, _, y, hq, cells, hc⟩ := hk
  rw [hE] at hq
  obtain rfl : y = E := by simpa using hq
  exact h.blk k y cells hc ht
theorem TU.of_grown {α : Type} {d : Kd α} {T : List Nat} {W W' : World} {E base : Nat} {v : Value} {xs : List α} (hg : W.grownBy W' v.ownBlock) (q : Kd.R d E W base (fun _ => True) v xs) (hE : E ∈ T) : TU T W W' :=
  ⟨hg.size, fun k t cells hk ht => hg.block k (Array.getElem?_eq_some_iff.1 hk).1 (by
    intro h
    obtain ⟨cells', hc⟩ := Kd.Q_typed (Kd.Q_of_R q) k h.symm
    rw [hc] at hk
    injection hk with hk
    injection hk with _ hk
    exact ht (hk ▸ hE))⟩
theorem reads1 (W : World) (t : TypeId) (a : Int) : ReadsInt (W.alloc (.cells #[.int .u8 a] t)) .u8 (some ⟨W.heap.size, 0, none⟩) 1 [a] := by
  have hb := blk_new W (.cells #[.int .u8 a] t)
  refine ⟨rfl, by omega, fun _ => ⟨_, rfl, fun i hi => ?_⟩⟩
  rw [add_plain, blk_cell hb]
  match i, hi with
  | 0, _ => rfl
theorem chr_conv (n : Int) (W : World) (t : TypeId) : Sem.run Try.prog (convert 88 9 (.slice (some ⟨W.heap.size, 0, none⟩) 1 1)) (W.alloc (.cells #[.int .u8 (n % 256)] t)) = .ok (.string (chr n)) (W.alloc (.cells #[.int .u8 (n % 256)] t)) :=
  string_of_reads Try.underlying88 Try.underlying5 Try.underlying9 (reads1 W t _)
/-- What holds ahead of each act: two ends, what is on the way, and what was said. -/
structure LK (w W : World) (ga gr : Nat) (ep h s t wd wt : Int) (n : Nat) (e l : Int) (v13 v14 : Value) (ws gs : List SFr) (x : Nat) : Prop where
  S : S1 w W ga ep h s t wd wt (items h n)
  R : R1 w W gr e l
  way : Kd.R kFr 72 W w.heap.size (fun _ => True) v13 ws
  words : Kd.R kFr 72 W w.heap.size (fun _ => True) v14 gs
  ne : ∀ k, v13.ownBlock = some k → some k ≠ v14.ownBlock
  hep : 1 ≤ ep ∧ ep ≤ x + 1
  hput : h + n ≤ x
  hl : h ≤ l ∧ l ≤ h + n
  he : 0 ≤ e ∧ e ≤ ep
  wsb : ∀ f ∈ ws, f.n ≤ h + n ∧ f.ep ≤ ep
  gsb : ∀ f ∈ gs, f.n ≤ l
  wsl : ws.length ≤ 64 * x
  gsl : gs.length ≤ x
  hx : x ≤ 200
  wt9 : wt ≤ 9
theorem LK.n64 {w W : World} {ga gr : Nat} {ep h s t wd wt : Int} {n : Nat} {e l : Int} {v13 v14 : Value} {ws gs : List SFr} {x : Nat} (H : LK w W ga gr ep h s t wd wt n e l v13 v14 ws gs x) : n ≤ 64 := by
  have := H.S.has.2.2
  rwa [items_len] at this
theorem LK.below {w W W' : World} {ga gr : Nat} {ep h s t wd wt : Int} {n : Nat} {e l : Int} {v13 v14 : Value} {ws gs : List SFr} {x : Nat} (H : LK w W ga gr ep h s t wd wt n e l v13 v14 ws gs x) (hb : Below W.heap.size W W') : LK w W' ga gr ep h s t wd wt n e l v13 v14 ws gs x :=
  ⟨H.S.below hb, H.R.below hb, Kd.R_below H.way hb, Kd.R_below H.words hb, H.ne, H.hep, H.hput, H.hl, H.he, H.wsb, H.gsb, H.wsl, H.gsl, H.hx, H.wt9⟩
theorem LK.next {w W : World} {ga gr : Nat} {ep h s t wd wt : Int} {n : Nat} {e l : Int} {v13 v14 : Value} {ws gs : List SFr} {x : Nat} (H : LK w W ga gr ep h s t wd wt n e l v13 v14 ws gs x) (hx : x < 200) : LK w W ga gr ep h s t wd wt n e l v13 v14 ws gs (x + 1) :=
  ⟨H.S, H.R, H.way, H.words, H.ne, by have := H.hep; omega, by have := H.hput; omega, H.hl, H.he, H.wsb, H.gsb, by have := H.wsl; omega, by have := H.gsl; omega, by omega, H.wt9⟩
/-- The sender alone changed. -/
theorem LK.sent {w W W' : World} {ga gr : Nat} {ep h s t wd wt : Int} {n : Nat} {e l : Int} {v13 v14 : Value} {ws gs : List SFr} {x : Nat} (H : LK w W ga gr ep h s t wd wt n e l v13 v14 ws gs x) {s' t' : Int} (hs : S1 w W' ga ep h s' t' wd wt (items h n)) (hu : TU [96] W W') : LK w W' ga gr ep h s' t' wd wt n e l v13 v14 ws gs x :=
  ⟨hs, H.R.tu hu (by decide), TU.r hu rfl H.way (by decide), TU.r hu rfl H.words (by decide), H.ne, H.hep, H.hput, H.hl, H.he, H.wsb, H.gsb, H.wsl, H.gsl, H.hx, H.wt9⟩
/-- Word was heard. -/
theorem LK.acked {w W W' : World} {ga gr : Nat} {ep h s t wd wt : Int} {n : Nat} {e l : Int} {v13 v14 : Value} {ws gs : List SFr} {x : Nat} (H : LK w W ga gr ep h s t wd wt n e l v13 v14 ws gs x) {ea k : Int} (hk : k ≤ l) (hs : S1 w W' ga ep (if ackB ea ep h (items h n).length k then k else h) (if ackB ea ep h (items h n).length k then mx s k else s) (if ackB ea ep h (items h n).length k then 0 else t) wd wt (if ackB ea ep h (items h n).length k then (items h n).drop (k - h).toNat else items h n)) (hu : TU [96] W W') : ∃ h' s' t' n', LK w W' ga gr ep h' s' t' wd wt n' e l v13 v14 ws gs x ∧ h' + n' = h + n := by
  rw [items_len] at hs
  cases hb : ackB ea ep h n k with
  | false =>
    rw [hb] at hs
    exact ⟨h, s, t, n, H.sent hs hu, rfl⟩
  | true =>
    rw [hb] at hs
    simp only [if_true] at hs
    rw [items_drop] at hs
    have hy : h < k ∧ k ≤ h + n := (of_decide_eq_true hb).2
    have e1 : h + ((k - h).toNat : Int) = k := by omega
    rw [e1] at hs
    have e2 : k + ((n - (k - h).toNat : Nat) : Int) = h + n := by omega
    refine ⟨k, mx s k, 0, n - (k - h).toNat, ⟨hs, H.R.tu hu (by decide), TU.r hu rfl H.way (by decide), TU.r hu rfl H.words (by decide), H.ne, H.hep, by rw [e2]; exact H.hput, by rw [e2]; exact ⟨hk, H.hl.2⟩, H.he, by rw [e2]; exact H.wsb, H.gsb, H.wsl, H.gsl, H.hx, H.wt9⟩, e2⟩
/-- An item was put. -/
theorem LK.put1 {w W W' : World} {ga gr : Nat} {ep h s t wd wt : Int} {n : Nat} {e l : Int} {v13 v14 : Value} {ws gs : List SFr} {x : Nat} (H : LK w W ga gr ep h s t wd wt n e l v13 v14 ws gs x) (hx : x < 200) (hs : S1 w W' ga ep h s t wd wt (items h (n + 1))) (hu : TU [96, 87] W W') : LK w W' ga gr ep h s t wd wt (n + 1) e l v13 v14 ws gs (x + 1) :=
  ⟨hs, H.R.tu hu (by decide), TU.r hu rfl H.way (by decide), TU.r hu rfl H.words (by decide), H.ne, by have := H.hep; omega, by have := H.hput; omega, by have := H.hl; omega, H.he, fun f hf => by have := H.wsb f hf; omega, H.gsb, by have := H.wsl; omega, by have := H.gsl; omega, by omega, H.wt9⟩
/-- An item came to the other end. -/
theorem LK.took {w W W' : World} {ga gr : Nat} {ep h s t wd wt : Int} {n : Nat} {e l : Int} {v13 v14 : Value} {ws gs : List SFr} {x : Nat} (H : LK w W ga gr ep h s t wd wt n e l v13 v14 ws gs x) {ea k : Int} (h1 : ea ≤ ep) (h2 : k ≤ h + n) (hr : R1 w W' gr (C17.took e l ea k).2.1 (C17.took e l ea k).2.2) (hl : Below w.heap.size w W') (hu : TU [93] W W') : LK w W' ga gr ep h s t wd wt n (C17.took e l ea k).2.1 (C17.took e l ea k).2.2 v13 v14 ws gs x ∧ l ≤ (C17.took e l ea k).2.2 ∧ (C17.took e l ea k).2.2 ≤ h + n ∧ (C17.took e l ea k).1 = decide ((C17.took e l ea k).2.2 ≠ l) ∧ ((C17.took e l ea k).1 = true → (C17.took e l ea k).2.2 = l + 1) := by
  have hH := H.hl
  have hE := H.he
  have key : l ≤ (C17.took e l ea k).2.2 ∧ (C17.took e l ea k).2.2 ≤ h + n ∧ 0 ≤ (C17.took e l ea k).2.1 ∧ (C17.took e l ea k).2.1 ≤ ep ∧ (C17.took e l ea k).1 = decide ((C17.took e l ea k).2.2 ≠ l) ∧ ((C17.took e l ea k).1 = true → (C17.took e l ea k).2.2 = l + 1) := by
    unfold C17.took
    split
    · exact ⟨by simp, by simp only; omega, by simp only; omega, by simp only; omega, by simp, by simp⟩
    · split
      · exact ⟨by simp only; omega, by simp only; omega, by simp only; omega, by simp only; omega, by simp only; rw [eq_comm, decide_eq_true_eq]; omega, fun _ => by simp only; omega⟩
      · exact ⟨by simp, by simp only; omega, by simp only; omega, by simp only; omega, by simp, by simp⟩
  obtain ⟨k1, k2, k3, k4, k5, k6⟩ := key
  exact ⟨⟨H.S.tu hu hl (by decide) (by decide), hr, TU.r hu rfl H.way (by decide), TU.r hu rfl H.words (by decide), H.ne, H.hep, H.hput, ⟨by omega, k2⟩, ⟨k3, k4⟩, H.wsb, fun f hf => by have := H.gsb f hf; omega, H.wsl, H.gsl, H.hx, H.wt9⟩, k1, k2, k5, k6⟩
/-- A letter was laid on the way. -/
theorem LK.laid {w W W' : World} {ga gr : Nat} {ep h s t wd wt : Int} {n : Nat} {e l : Int} {v13 v14 : Value} {ws gs : List SFr} {x : Nat} (H : LK w W ga gr ep h s t wd wt n e l v13 v14 ws gs x) {v : Value} {ws' : List SFr} (hw : Kd.R kFr 72 W' w.heap.size (fun _ => True) v ws') (hl : Below w.heap.size w W') (hg : W.grownBy W' v13.ownBlock) (hat : v.ownBlock = v13.ownBlock ∨ ∃ b, v.ownBlock = some b ∧ W.heap.size ≤ b) (hb : ∀ f ∈ ws', f.n ≤ h + n ∧ f.ep ≤ ep) (hlen : ws'.length ≤ 64 * x) : LK w W' ga gr ep h s t wd wt n e l v v14 ws' gs x := by
  have hu : TU [72] W W' := TU.of_grown hg H.way (by simp)
  refine ⟨H.S.tu hu hl (by decide) (by decide), H.R.tu hu (by decide), hw, Kd.R_grown2 H.words rfl hg H.ne, fun k hk => ?_, H.hep, H.hput, H.hl, H.he, hb, H.gsb, hlen, H.gsl, H.hx, H.wt9⟩
  rcases hat with q | ⟨b, q, hq⟩
  · exact H.ne k (by rw [← q]; exact hk)
  · intro hk2
    have := Kd.R_lt H.words k hk2.symm
    rw [q] at hk
    injection hk with hk
    omega
/-- A letter was taken off the way. -/
theorem LK.cut {w W W' : World} {ga gr : Nat} {ep h s t wd wt : Int} {n : Nat} {e l : Int} {v13 v14 : Value} {ws gs : List SFr} {x : Nat} (H : LK w W ga gr ep h s t wd wt n e l v13 v14 ws gs x) {v : Value} {ws' : List SFr} (hb : Below W.heap.size W W') (hw : Kd.R kFr 72 W' W.heap.size (fun _ => True) v ws') (hs : ∀ f ∈ ws', f ∈ ws) (hlen : ws'.length ≤ ws.length) : LK w W' ga gr ep h s t wd wt n e l v v14 ws' gs x :=
  ⟨H.S.below hb, H.R.below hb, Kd.R_lower hw H.S.lo.size, Kd.R_below H.words hb, fun k hk hk2 => by
    have h1 := Kd.R_base hw k hk
    have h2 := Kd.R_lt H.words k hk2.symm
    omega, H.hep, H.hput, H.hl, H.he, fun f hf => H.wsb f (hs f hf), H.gsb, by have := H.wsl; omega, H.gsl, H.hx, H.wt9⟩
/-- A word was said. -/
theorem LK.said {w W W' : World} {ga gr : Nat} {ep h s t wd wt : Int} {n : Nat} {e l : Int} {v13 v14 : Value} {ws gs : List SFr} {x : Nat} (H : LK w W ga gr ep h s t wd wt n e l v13 v14 ws gs x) (hx : x < 200) {v : Value} {p : SFr} (hp : p.n ≤ l) (hw : Kd.R kFr 72 W' w.heap.size (fun _ => True) v (gs ++ [p])) (hl : Below w.heap.size w W') (hg : W.grownBy W' v14.ownBlock) (hat : v.ownBlock = v14.ownBlock ∨ ∃ b, v.ownBlock = some b ∧ W.heap.size ≤ b) : LK w W' ga gr ep h s t wd wt n e l v13 v ws (gs ++ [p]) (x + 1) := by
  have hu : TU [72] W W' := TU.of_grown hg H.words (by simp)
  refine ⟨H.S.tu hu hl (by decide) (by decide), H.R.tu hu (by decide), Kd.R_grown2 H.way rfl hg (fun k hk hk2 => H.ne k hk2.symm hk.symm), hw, fun k hk hk2 => ?_, by have := H.hep; omega, by have := H.hput; omega, H.hl, H.he, H.wsb, fun f hf => ?_, by have := H.wsl; omega, by have := H.gsl; simp; omega, by omega, H.wt9⟩
  · rcases hat with q | ⟨b, q, hq⟩
    · exact H.ne k hk (by rw [← q]; exact hk2)
    · have := Kd.R_lt H.way k hk
      rw [q] at hk2
      injection hk2 with hk2
      omega
  · rcases List.mem_append.1 hf with q | q
    · exact H.gsb f q
    · simp at q
      subst q
      exact hp
theorem LK.sent2 {w W W' : World} {ga gr : Nat} {ep h s t wd wt : Int} {n : Nat} {e l : Int} {v13 v14 : Value} {ws gs : List SFr} {x : Nat} (H : LK w W ga gr ep h s t wd wt n e l v13 v14 ws gs x) (hs : S1 w W' ga ep h s t wd wt (items h n)) (hu : TU [96, 87] W W') : LK w W' ga gr ep h s t wd wt n e l v13 v14 ws gs x :=
  ⟨hs, H.R.tu hu (by decide), TU.r hu rfl H.way (by decide), TU.r hu rfl H.words (by decide), H.ne, H.hep, H.hput, H.hl, H.he, H.wsb, H.gsb, H.wsl, H.gsl, H.hx, H.wt9⟩
/-- The sender began anew. -/
theorem LK.anew {w W W' : World} {ga ga2 gr : Nat} {ep h s t wd wt : Int} {n : Nat} {e l : Int} {v13 v14 : Value} {ws gs : List SFr} {x : Nat} (H : LK w W ga gr ep h s t wd wt n e l v13 v14 ws gs x) (hx : x < 200) (hs : S1 w W' ga2 (ep + 1) h h 0 wd wt (items h n)) (hu : TU [96, 87] W W') : LK w W' ga2 gr (ep + 1) h h 0 wd wt n e l v13 v14 ws gs (x + 1) :=
  ⟨hs, H.R.tu hu (by decide), TU.r hu rfl H.way (by decide), TU.r hu rfl H.words (by decide), H.ne, by have := H.hep; omega, by have := H.hput; omega, H.hl, by have := H.he; omega, fun f hf => by have := H.wsb f hf; omega, H.gsb, by have := H.wsl; omega, by have := H.gsl; omega, by omega, H.wt9⟩
theorem ack_items {w W : World} {ga : Nat} {ep h wd wt k ea f0 : Int} {n : Nat} {s2 t2 : Int} (hs : S1 w W ga f0 (if ackB ea ep h (items h n).length k then k else h) s2 t2 wd wt (if ackB ea ep h (items h n).length k then (items h n).drop (k - h).toNat else items h n)) : ∃ n', S1 w W ga f0 (if ackB ea ep h n k then k else h) s2 t2 wd wt (items (if ackB ea ep h n k then k else h) n') ∧ (if ackB ea ep h n k then k else h) + n' = h + n := by
  rw [items_len] at hs
  cases hb : ackB ea ep h n k with
  | false =>
    rw [hb] at hs
    exact ⟨n, hs, rfl⟩
  | true =>
    rw [hb] at hs
    simp only [if_true] at hs ⊢
    rw [items_drop] at hs
    have hy : h < k ∧ k ≤ h + n := (of_decide_eq_true hb).2
    rw [show h + ((k - h).toNat : Int) = k from by omega] at hs
    exact ⟨_, hs, by omega⟩
theorem umod2 (x : Int) (m : Nat) (h : 0 < m ∧ m ≤ 1000000) : ∃ K : Nat, wrap64 ((IntKind.u64.wrap x).tmod (m : Int)) = K ∧ K < m := by
  have h1 : IntKind.u64.wrap x = x % 18446744073709551616 := IntKind.wrap_u64 x
  have h2 : 0 ≤ x % 18446744073709551616 := Int.emod_nonneg _ (by omega)
  rw [h1]
  have h3 := Int.tmod_nonneg (m : Int) h2
  have h4 := Int.tmod_lt_of_pos (x % 18446744073709551616) (show (0 : Int) < m by omega)
  generalize (x % 18446744073709551616).tmod (m : Int) = y at h3 h4 ⊢
  exact ⟨y.toNat, by rw [Pl.w64 (by omega) (by omega)]; omega, by omega⟩
theorem u64_nat (m : Nat) (h : m ≤ 1000000) : IntKind.u64.wrap (m : Int) = m := (IntKind.wrap_u64 _).trans (by omega)
theorem rd_mem (l : List SFr) (i : Nat) (hi : i < l.length) : rd_Fr l (i : Int) ∈ l := by
  unfold rd_Fr
  rw [Int.toNat_natCast, List.getD_eq_getElem?_getD, List.getElem?_eq_getElem hi]
  exact List.getElem_mem hi
end Go.Proofs.Ytmpgknemhmoboaa.L17
end
