import Derived.Test.YtmpgknemhmoboaaS17n
import Derived.Test.YtmpgknemhmoboaaS17o
import Derived.Test.YtmpgknemhmoboaaC17
/- Chapter 17: one sender, told without where its items lie; and what a call leaves of blocks of other types. -/
namespace Go.Proofs.Ytmpgknemhmoboaa.S17
set_option linter.unusedSimpArgs false
set_option linter.unusedVariables false
open Go.RowKit Go.Proofs.YtmpgknemhmoboaaW.PrintWords Go.Proofs.YtmpgknemhmoboaaW.PrintLast Go.Proofs.YtmpgknemhmoboaaW.PrintMore Go.Proofs.Ytmpgknemhmoboaa.Base Go.Proofs.Ytmpgknemhmoboaa.Q17h Go.Proofs.Ytmpgknemhmoboaa.Pl
/-- What lies in blocks of other types stays. -/
structure TU (T : List Nat) (W W' : World) : Prop where
  size : W.heap.size ≤ W'.heap.size
  blk : ∀ (k t : Nat) (cells : Array Value), W.heap[k]? = some (.cells cells t (0, 0)) → t ∉ T → W'.heap[k]? = W.heap[k]?
theorem TU.refl (T : List Nat) (W : World) : TU T W W := ⟨Nat.le_refl _, fun _ _ _ _ _ => rfl⟩
theorem TU.trans {T : List Nat} {a b c : World} (h : TU T a b) (k : TU T b c) : TU T a c := ⟨Nat.le_trans h.size k.size, fun i t cells hi ht => (k.blk i t cells ((h.blk i t cells hi ht).trans hi) ht).trans (h.blk i t cells hi ht)⟩
theorem TU.mono {T T' : List Nat} {a b : World} (h : TU T a b) (hs : ∀ t, t ∈ T → t ∈ T') : TU T' a b := ⟨h.size, fun i t cells hi ht => h.blk i t cells hi (fun hm => ht (hs t hm))⟩
theorem TU.below {T : List Nat} {W W' : World} (hb : Below W.heap.size W W') : TU T W W' := ⟨hb.size, fun k t cells hk _ => hb.block k (Array.getElem?_eq_some_iff.1 hk).1⟩
theorem TU.at_ {T : List Nat} {W W' : World} (h : TU T W W') {g t : Nat} {cs : Array Value} (hb : W.heap[g]? = some (.cells cs t (0, 0))) (ht : t ∉ T) : W'.heap[g]? = some (.cells cs t (0, 0)) := (h.blk g t cs hb ht).trans hb
theorem TU.q {α : Type} {d : Kd α} {T : List Nat} {W W' : World} {E base : Nat} {v : Value} {xs : List α} (h : TU T W W') (hE : d.E = []) (q : Kd.Q d E W base (fun _ => True) v xs) (ht : E ∉ T) : Kd.Q d E W' base (fun _ => True) v xs := by
  refine Kd.Q_mono (Kd.Q_step (Kd.Q_bound q) (fun k hk hlt => ?_)) (fun _ _ => trivial)
  obtain ⟨_, _, _, y, hq, cells, hc⟩ := hk
  rw [hE] at hq
  obtain rfl : y = E := by simpa using hq
  exact h.blk k y cells hc ht
theorem TU.of_upd1 {T : List Nat} {W W' : World} {g t : Nat} {cs : Array Value} (hb : W.heap[g]? = some (.cells cs t (0, 0))) (ht : t ∈ T) (hu : Upd (· = g) W W') : TU T W W' :=
  ⟨hu.size, fun k q cells hk hq => hu.block k (Array.getElem?_eq_some_iff.1 hk).1 (by
    rintro rfl
    rw [hb] at hk
    injection hk with hk
    injection hk with _ hk
    exact hq (hk ▸ ht))⟩
theorem TU.of_upd2 {α : Type} {d : Kd α} {T : List Nat} {W W' : World} {g t E base : Nat} {v : Value} {xs : List α} {cs : Array Value} (hb : W.heap[g]? = some (.cells cs t (0, 0))) (ht : t ∈ T) (q : Kd.Q d E W base (fun _ => True) v xs) (hE : E ∈ T) (hu : Upd (fun k => k = g ∨ some k = v.ownBlock) W W') : TU T W W' :=
  ⟨hu.size, fun k q' cells hk hq => hu.block k (Array.getElem?_eq_some_iff.1 hk).1 (by
    rintro (rfl | h)
    · rw [hb] at hk
      injection hk with hk
      injection hk with _ hk
      exact hq (hk ▸ ht)
    · obtain ⟨cells', hc⟩ := Kd.Q_typed q k h.symm
      rw [hc] at hk
      injection hk with hk
      injection hk with _ hk
      exact hq (hk ▸ hE))⟩
/-- A sender, at ga. -/
structure S1 (w W : World) (ga : Nat) (f0 h s t wd wt : Int) (xs : List S87) : Prop where
  st : ∃ A c, IsA W ga f0 h s A xs.length c t wd wt ∧ Kd.Q k87 87 W w.heap.size (fun _ => True) (.slice A xs.length c) xs
  ga : w.heap.size ≤ ga
  lo : Below w.heap.size w W
  has : 0 ≤ h ∧ h + xs.length ≤ 1099511627776 ∧ xs.length ≤ 64
  sent : h ≤ s ∧ s ≤ h + xs.length
  tick : 0 ≤ t ∧ t < wt
  wd : 1 ≤ wd ∧ wd ≤ 16
  wt : 1 ≤ wt ∧ wt ≤ 100
theorem S1.below {w W W' : World} {ga : Nat} {f0 h s t wd wt : Int} {xs : List S87} (H : S1 w W ga f0 h s t wd wt xs) (hb : Below W.heap.size W W') : S1 w W' ga f0 h s t wd wt xs := by
  obtain ⟨A, c, ha, hq⟩ := H.st
  exact ⟨⟨A, c, A_below ha hb, Kd.Q_below hq hb⟩, H.ga, below_step H.lo hb, H.has, H.sent, H.tick, H.wd, H.wt⟩
theorem S1.tu {T : List Nat} {w W W' : World} {ga : Nat} {f0 h s t wd wt : Int} {xs : List S87} (H : S1 w W ga f0 h s t wd wt xs) (hu : TU T W W') (hl : Below w.heap.size w W') (h1 : 96 ∉ T) (h2 : 87 ∉ T) : S1 w W' ga f0 h s t wd wt xs := by
  obtain ⟨A, c, ha, hq⟩ := H.st
  exact ⟨⟨A, c, hu.at_ ha h1, hu.q rfl hq h2⟩, H.ga, hl, H.has, H.sent, H.tick, H.wd, H.wt⟩
theorem S1.rng {w W : World} {ga : Nat} {f0 h s t wd wt : Int} {xs : List S87} (H : S1 w W ga f0 h s t wd wt xs) : 0 ≤ h ∧ h ≤ 1099511627776 ∧ xs.length ≤ 64 := ⟨H.has.1, by have := H.has; omega, H.has.2.2⟩
theorem upd_lo1 {w W W' : World} {g : Nat} (lo : Below w.heap.size w W) (hg : w.heap.size ≤ g) (hu : Upd (· = g) W W') : Below w.heap.size w W' := Upd.after1 lo hu hg
theorem upd_lo2 {α : Type} {d : Kd α} {w W W' : World} {g E : Nat} {v : Value} {xs : List α} (lo : Below w.heap.size w W) (hg : w.heap.size ≤ g) (q : Kd.Q d E W w.heap.size (fun _ => True) v xs) (hu : Upd (fun k => k = g ∨ some k = v.ownBlock) W W') : Below w.heap.size w W' :=
  Upd.after lo hu lo.size (fun i hi hF => by
    rcases hF with rfl | hF
    · omega
    · have := Kd.Q_base q i hF.symm
      omega)
/-- What comes of an item that is put. -/
def putL (h : Int) (xs : List S87) (o : ByteArray) : List S87 := if (putFA h xs.length o).2 = 0 then xs ++ [⟨h + xs.length + 1, o⟩] else xs
theorem putFA_ok {h : Int} {xs : List S87} {o : ByteArray} (hp : (putFA h xs.length o).2 = 0) : xs.length < 64 ∧ h + xs.length + 1 ≤ 1099511627776 := by
  unfold putFA at hp
  split at hp
  · cases hp
  · split at hp
    · cases hp
    · omega
theorem s_put {w W : World} {ga : Nat} {f0 h s t wd wt : Int} {xs : List S87} (o : ByteArray) (H : S1 w W ga f0 h s t wd wt xs) :
    Calls Try.prog 19 #[.pointer (some ⟨ga, 0, none⟩), .string o] W fun e W' => e = .returned (.tuple #[.int .i64 (putFA h xs.length o).1, .int .i64 (putFA h xs.length o).2]) ∧ S1 w W' ga f0 h s t wd wt (putL h xs o) ∧ TU [96, 87] W W' := by
  obtain ⟨A, c, ha, hq⟩ := H.st
  refine (A_Put o ha hq H.lo.size H.rng).mono ?_
  rintro e W' ⟨rfl, hno, hyes⟩
  refine ⟨rfl, ?_⟩
  unfold putL
  by_cases hp : (putFA h xs.length o).2 = 0
  · obtain ⟨A2, c2, ha2, hq2, hu⟩ := hyes hp
    rw [if_pos hp]
    have hl : (xs ++ [(⟨h + xs.length + 1, o⟩ : S87)]).length = xs.length + 1 := by simp
    have hr := putFA_ok hp
    have hh := H.has
    have hs := H.sent
    exact ⟨⟨⟨A2, c2, by rw [hl]; exact ha2, by rw [hl]; exact hq2⟩, H.ga, upd_lo2 H.lo H.ga hq hu, by rw [hl]; omega, by rw [hl]; omega, H.tick, H.wd, H.wt⟩, TU.of_upd2 ha (by simp) hq (by simp) hu⟩
  · rw [if_neg hp]
    exact ⟨H.below (hno hp), TU.below (hno hp)⟩
theorem s_tick {w W : World} {ga : Nat} {f0 h s t wd wt : Int} {xs : List S87} (H : S1 w W ga f0 h s t wd wt xs) :
    Calls Try.prog 23 #[.pointer (some ⟨ga, 0, none⟩)] W fun e W' => e = .returned (.tuple #[]) ∧ S1 w W' ga f0 h (tickF h s t wt).1 (tickF h s t wt).2 wd wt xs ∧ TU [96] W W' := by
  obtain ⟨A, c, ha, hq⟩ := H.st
  have ht := H.tick
  have hwt := H.wt
  have hs := H.sent
  refine (A_Tick ha ⟨ht.1, by omega⟩).mono ?_
  rintro e W' ⟨rfl, ha2, hu⟩
  refine ⟨rfl, ⟨⟨A, c, ha2, A_Qupd ha hq hu⟩, H.ga, upd_lo1 H.lo H.ga hu, H.has, ?_, ?_, H.wd, H.wt⟩, TU.of_upd1 ha (by simp) hu⟩
  · unfold tickF
    repeat' split
    all_goals (simp only; omega)
  · unfold tickF
    repeat' split
    all_goals (simp only; omega)
/-- What is sent now. -/
def outL (h s wd : Int) (xs : List S87) : List S87 := (xs.take (outTo xs.length h s wd).toNat).drop (s - h).toNat
theorem s_out {w W : World} {ga : Nat} {f0 h s t wd wt : Int} {xs : List S87} (H : S1 w W ga f0 h s t wd wt xs) :
    Calls Try.prog 27 #[.pointer (some ⟨ga, 0, none⟩)] W fun e W' => (∃ A c, e = .returned (.slice A (outL h s wd xs).length c) ∧ Kd.Q k87 87 W' w.heap.size (fun _ => True) (.slice A (outL h s wd xs).length c) (outL h s wd xs)) ∧ S1 w W' ga f0 h (h + outTo xs.length h s wd) t wd wt xs ∧ TU [96] W W' := by
  obtain ⟨A, c, ha, hq⟩ := H.st
  have hs := H.sent
  have hw := H.wd
  refine (A_Out ha hq H.rng hs hw).mono ?_
  rintro e W' ⟨v, rfl, hr, ha2, hu⟩
  refine ⟨?_, ⟨⟨A, c, ha2, A_Qupd ha hq hu⟩, H.ga, upd_lo1 H.lo H.ga hu, H.has, ?_, H.tick, H.wd, H.wt⟩, TU.of_upd1 ha (by simp) hu⟩
  · obtain ⟨Av, cv, rfl⟩ := Kd.R_slice hr
    exact ⟨Av, cv, rfl, Kd.Q_lower (Kd.Q_of_R hr) H.lo.size⟩
  · unfold outTo mx mn
    repeat' split
    all_goals omega
/-- Is the word heard? -/
def ackB (ep f0 h : Int) (n : Nat) (k : Int) : Bool := decide (ep = f0 ∧ h < k ∧ k ≤ h + n)
theorem s_acked {w W : World} {ga : Nat} {f0 h s t wd wt : Int} {xs : List S87} (ep k : Int) (H : S1 w W ga f0 h s t wd wt xs) :
    Calls Try.prog 21 #[.pointer (some ⟨ga, 0, none⟩), .int .i64 ep, .int .i64 k] W fun e W' => e = .returned (.bool (ackB ep f0 h xs.length k)) ∧ S1 w W' ga f0 (if ackB ep f0 h xs.length k then k else h) (if ackB ep f0 h xs.length k then mx s k else s) (if ackB ep f0 h xs.length k then 0 else t) wd wt (if ackB ep f0 h xs.length k then xs.drop (k - h).toNat else xs) ∧ TU [96] W W' := by
  obtain ⟨A, c, ha, hq⟩ := H.st
  by_cases hy : ep = f0 ∧ h < k ∧ k ≤ h + xs.length
  · have e1 : ackB ep f0 h xs.length k = true := decide_eq_true hy
    rw [e1]
    simp only [if_true]
    obtain ⟨rfl, hy⟩ := hy
    have hl : (xs.drop (k - h).toNat).length = xs.length - (k - h).toNat := List.length_drop
    have hh := H.has
    have hs := H.sent
    have hw := H.wt
    refine (A_Acked k ha hq H.rng hy).mono ?_
    rintro e W' ⟨rfl, A2, c2, ha2, hq2, hu⟩
    refine ⟨rfl, ⟨⟨A2, c2, by rw [hl]; exact ha2, by rw [hl]; exact hq2⟩, H.ga, upd_lo1 H.lo H.ga hu, by rw [hl]; omega, ?_, by omega, H.wd, H.wt⟩, TU.of_upd1 ha (by simp) hu⟩
    rw [hl]
    unfold mx
    split <;> omega
  · have e1 : ackB ep f0 h xs.length k = false := decide_eq_false hy
    rw [e1]
    refine (A_Acked_no ep k ha H.rng hy).mono ?_
    rintro e W' ⟨rfl, hb⟩
    exact ⟨rfl, H.below hb, TU.below hb⟩
theorem s_state {w W : World} {ga : Nat} {f0 h s t wd wt : Int} {xs : List S87} (H : S1 w W ga f0 h s t wd wt xs) :
    Calls Try.prog 29 #[.pointer (some ⟨ga, 0, none⟩)] W fun e W' => e = .returned (.tuple #[.int .i64 h, .int .i64 (h + xs.length + 1), .int .i64 xs.length]) ∧ Below W.heap.size W W' := by
  obtain ⟨A, c, ha, hq⟩ := H.st
  exact A_State ha H.rng
theorem s_new {w W : World} (ep ac wd wt : Int) (hn : NewOk ep ac wd wt) (lo : Below w.heap.size w W) :
    Calls Try.prog 17 #[.int .i64 ep, .int .i64 ac, .int .i64 wd, .int .i64 wt] W fun e W' => (∃ ga, e = .returned (.tuple #[.pointer (some ⟨ga, 0, none⟩), .int .i64 0]) ∧ S1 w W' ga ep ac ac 0 wd wt []) ∧ Below W.heap.size W W' := by
  refine (A_New ep ac wd wt W).mono ?_
  rintro e W' ⟨hy, _, hb⟩
  obtain ⟨ga, hg, rfl, ha⟩ := hy hn
  have h2 := hn.2.1
  refine ⟨⟨ga, rfl, ⟨none, 0, ha, Kd.Q_nil _ _ _ _ _⟩, Nat.le_trans lo.size hg, below_step lo hb, by simp; omega, by simp, by have := hn.2.2.2; omega, hn.2.2.1, hn.2.2.2⟩, hb⟩
/-- The other end, at gr. -/
structure R1 (w W : World) (gr : Nat) (e l : Int) : Prop where
  at_ : C17.RV W gr e l
  ge : w.heap.size ≤ gr
theorem R1.below {w W W' : World} {gr : Nat} {e l : Int} (H : R1 w W gr e l) (hb : Below W.heap.size W W') : R1 w W' gr e l := ⟨blk_below H.at_ hb, H.ge⟩
theorem R1.tu {T : List Nat} {w W W' : World} {gr : Nat} {e l : Int} (H : R1 w W gr e l) (hu : TU T W W') (ht : 93 ∉ T) : R1 w W' gr e l := ⟨hu.at_ H.at_ ht, H.ge⟩
theorem r_new {w W : World} (l : Int) (hl : 0 ≤ l ∧ l ≤ 1099511627776) (lo : Below w.heap.size w W) :
    Calls Try.prog 10 #[.int .i64 l] W fun e W' => (∃ gr, e = .returned (.tuple #[.pointer (some ⟨gr, 0, none⟩), .int .i64 0]) ∧ R1 w W' gr 0 l) ∧ Below W.heap.size W W' := by
  refine (C17.hop_NewReceiver l W).mono ?_
  rintro e W' ⟨hy, _, hb⟩
  obtain ⟨gr, hg, rfl, hr⟩ := hy hl
  exact ⟨⟨gr, rfl, hr, Nat.le_trans lo.size hg⟩, hb⟩
theorem r_take {w W : World} {gr : Nat} {e l : Int} (ep n : Int) (H : R1 w W gr e l) (lo : Below w.heap.size w W) (hl : 0 ≤ l ∧ l < 4611686018427387904) :
    Calls Try.prog 12 #[.pointer (some ⟨gr, 0, none⟩), .int .i64 ep, .int .i64 n] W fun en W' => en = .returned (.bool (C17.took e l ep n).1) ∧ R1 w W' gr (C17.took e l ep n).2.1 (C17.took e l ep n).2.2 ∧ Below w.heap.size w W' ∧ TU [93] W W' := by
  refine (C17.hop_Take gr e l ep n W H.at_ hl).mono ?_
  rintro en W' ⟨rfl, hr, hu⟩
  exact ⟨rfl, ⟨hr, H.ge⟩, upd_lo1 lo H.ge hu, TU.of_upd1 H.at_ (by simp) hu⟩
theorem r_last {w W : World} {gr : Nat} {e l : Int} (H : R1 w W gr e l) :
    Calls Try.prog 14 #[.pointer (some ⟨gr, 0, none⟩)] W fun en W' => en = .returned (.tuple #[.int .i64 e, .int .i64 l]) ∧ Below W.heap.size W W' := by
  refine (C17.hop_Last gr e l W H.at_).mono ?_
  rintro en W' ⟨rfl, n, rfl⟩
  exact ⟨rfl, pw_below_drewN (Below.refl _ _) n⟩
end Go.Proofs.Ytmpgknemhmoboaa.S17
