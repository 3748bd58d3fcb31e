/- watershedlaw17.HopSends returns true for every input: whatever is put, heard and ticked, in any order, each answer and what is to be sent are the document's (at most 150 acts, as the law itself says). -/
import Derived.Test.YtmpgknemhmoboaaRows
import Derived.WalkKit
import Derived.ProofKit
import Derived.OpenShut
import Derived.ShutString
import Derived.ChangeOld
import Derived.Below
import Derived.SizedLaws
import Derived.Deep.CutBlock
import Derived.Deep.DeepCutAuto
import Derived.Test.YtmpgknemhmoboaaS17s
import Derived.Test.YtmpgknemhmoboaaOpen
namespace Go.Proofs.Ytmpgknemhmoboaa
set_option linter.unusedSimpArgs false
set_option linter.unusedVariables false
open Go.RowKit S17 Base Go.Proofs.YtmpgknemhmoboaaW.PrintWords Go.Proofs.YtmpgknemhmoboaaW.PrintLast Go.Proofs.YtmpgknemhmoboaaW.PrintMore Go.Proofs.Ytmpgknemhmoboaa.Q17h
theorem _root_.Go.Proofs.Ytmpgknemhmoboaa.S17.SB.below {w W W' : World} {ga gb : Nat} {f0 h s t wd wt : Int} {xs : List S87} {A : Option Addr} {c : Nat} {B : Option Addr} {d : Nat} (H : SB w W ga gb f0 h s t wd wt xs A c B d) (hb : Below W.heap.size W W') : SB w W' ga gb f0 h s t wd wt xs A c B d :=
  ⟨A_below H.a hb, B_below H.b hb, Kd.Q_below H.qa hb, Kd.Q_below H.qb hb, H.ga, H.gb, below_step H.lo hb, H.num, H.has, H.sent, H.tick, H.wd, H.wt⟩
theorem _root_.Go.Proofs.Ytmpgknemhmoboaa.S17.SB.put {w W W2 : World} {ga gb : Nat} {f0 h s t wd wt : Int} {xs : List S87} {A : Option Addr} {c : Nat} {B : Option Addr} {d : Nat} (H : SB w W ga gb f0 h s t wd wt xs A c B d) (o : ByteArray) {A2 B2 : Option Addr} {c2 d2 : Nat} (ha : IsA W2 ga f0 h s A2 (xs.length + 1) c2 t wd wt) (hqa : Kd.Q k87 87 W2 w.heap.size (fun _ => True) (.slice A2 (xs.length + 1) c2) (xs ++ [⟨h + xs.length + 1, o⟩])) (hb : IsB W2 gb f0 h s B2 (xs.length + 1) d2 t wd wt) (hqb : Kd.Q k98 98 W2 w.heap.size (fun _ => True) (.slice B2 (xs.length + 1) d2) (xs.map conv ++ [⟨h + xs.length + 1, o⟩])) (hlo : Below w.heap.size w W2) (hp : (putFA h xs.length o).2 = 0) : SB w W2 ga gb f0 h s t wd wt (xs ++ [⟨h + xs.length + 1, o⟩]) A2 c2 B2 d2 := by
  have hr : xs.length < 64 ∧ h + xs.length + 1 ≤ 1099511627776 := by
    unfold putFA at hp
    split at hp
    · cases hp
    · split at hp
      · cases hp
      · omega
  have hl : (xs ++ [(⟨h + xs.length + 1, o⟩ : S87)]).length = xs.length + 1 := by simp
  have hh := H.has
  have hs := H.sent
  refine ⟨by rw [hl]; exact ha, by rw [hl]; exact hb, by rw [hl]; exact hqa, by rw [hl, List.map_append]; exact hqb, H.ga, H.gb, hlo, fun i hi => ?_, by rw [hl]; omega, by rw [hl]; omega, H.tick, H.wd, H.wt⟩
  rw [hl] at hi
  have e : (rd_T87 (xs ++ [(⟨h + xs.length + 1, o⟩ : S87)]) (i : Int)) = if i < xs.length then rd_T87 xs (i : Int) else ⟨h + xs.length + 1, o⟩ := by
    unfold rd_T87
    rw [Int.toNat_natCast, List.getD_eq_getElem?_getD, List.getD_eq_getElem?_getD, List.getElem?_append]
    split
    · rfl
    · rw [show i - xs.length = 0 from by omega]
      rfl
  rw [e]
  split
  · rename_i q
    exact H.num i q
  · simp only
    omega
theorem _root_.Go.Proofs.Ytmpgknemhmoboaa.S17.B_Qupd {w w' : World} {base g n c n2 c2 : Nat} {f0 f1 f2 f4 f5 f6 : Int} {A A2 : Option Addr} {xs : List S98} (h : IsB w g f0 f1 f2 A n c f4 f5 f6) (hq : Kd.Q k98 98 w base (fun _ => True) (.slice A2 n2 c2) xs) (hu : Upd (· = g) w w') : Kd.Q k98 98 w' base (fun _ => True) (.slice A2 n2 c2) xs :=
  Kd.Q_mono (Kd.Q_step (Kd.Q_types hq h (fun q hq => by
    change q ∈ ([98] : List Nat) at hq
    simp at hq
    subst hq
    decide)) (fun k hk hlt => hu.block k hlt hk.2)) (fun _ _ => trivial)
theorem _root_.Go.Proofs.Ytmpgknemhmoboaa.S17.SB.ticked {w W W2 : World} {ga gb : Nat} {f0 h s t wd wt : Int} {xs : List S87} {A : Option Addr} {c : Nat} {B : Option Addr} {d : Nat} (H : SB w W ga gb f0 h s t wd wt xs A c B d) (ha : IsA W2 ga f0 h (tickF h s t wt).1 A xs.length c (tickF h s t wt).2 wd wt) (hqa : Kd.Q k87 87 W2 w.heap.size (fun _ => True) (.slice A xs.length c) xs) (hb : IsB W2 gb f0 h (tickF h s t wt).1 B xs.length d (tickF h s t wt).2 wd wt) (hqb : Kd.Q k98 98 W2 w.heap.size (fun _ => True) (.slice B xs.length d) (xs.map conv)) (hlo : Below w.heap.size w W2) : SB w W2 ga gb f0 h (tickF h s t wt).1 (tickF h s t wt).2 wd wt xs A c B d := by
  have hs := H.sent
  have ht := H.tick
  have hw := H.wt
  refine ⟨ha, hb, hqa, hqb, H.ga, H.gb, hlo, H.num, H.has, ?_, ?_, H.wd, H.wt⟩
  · unfold tickF
    repeat' split
    all_goals (simp only; omega)
  · unfold tickF
    repeat' split
    all_goals (simp only; omega)
theorem rd_conv (xs : List S87) (i : Nat) (h : i < xs.length) : (rd_T98 (xs.map conv) (i : Int)).f0 = (rd_T87 xs (i : Int)).f0 := by
  unfold rd_T98 rd_T87
  rw [Int.toNat_natCast, List.getD_eq_getElem?_getD, List.getD_eq_getElem?_getD, List.getElem?_map, List.getElem?_eq_getElem h]
  rfl
theorem From_l (l : List S87) (hl : l.length ≤ 64) : ∀ (m k i : Nat), i + m = l.length → m < k → watershedlaw17_From.l0 k l ((l.take i).map conv) (i : Int) = some (l.map conv)
  | 0, k, i, hm, hk => by
    obtain ⟨k, rfl⟩ : ∃ q, k = q + 1 := ⟨k - 1, by omega⟩
    rw [watershedlaw17_From.l0, if_neg (by omega), List.take_of_length_le (by omega)]
  | m + 1, k, i, hm, hk => by
    obtain ⟨k, rfl⟩ : ∃ q, k = q + 1 := ⟨k - 1, by omega⟩
    have ih := From_l l hl m k (i + 1) (by omega) (by omega)
    have ew : wrap64 ((i : Int) + 1) = ((i + 1 : Nat) : Int) := by rw [Pl.w64 (by omega) (by omega)]; omega
    rw [watershedlaw17_From.l0, if_pos (by omega), if_pos (by omega), if_pos (by simp; omega), ew]
    have e : (l.take (i + 1)).map conv = (l.take i).map conv ++ [(⟨(rd_T87 l (i : Int)).f0, (rd_T87 l (i : Int)).f1⟩ : S98)] := by
      rw [List.take_add_one, List.map_append, List.getElem?_eq_getElem (show i < l.length from by omega)]
      unfold rd_T87
      rw [Int.toNat_natCast, List.getD_eq_getElem?_getD, List.getElem?_eq_getElem (show i < l.length from by omega)]
      rfl
    rw [← e]
    exact ih
theorem From_f (l : List S87) (hl : l.length ≤ 64) : watershedlaw17_From.f 200 l = some (l.map conv) := From_l l hl l.length 200 0 (by omega) (by omega)
theorem Same_l (l : List S98) (hl : l.length ≤ 64) : ∀ (m k i : Nat), i + m = l.length → m < k → watershedref17_Same.l0 k l l (i : Int) = some true
  | 0, k, i, hm, hk => by
    obtain ⟨k, rfl⟩ : ∃ q, k = q + 1 := ⟨k - 1, by omega⟩
    rw [watershedref17_Same.l0, if_neg (by omega)]
  | m + 1, k, i, hm, hk => by
    obtain ⟨k, rfl⟩ : ∃ q, k = q + 1 := ⟨k - 1, by omega⟩
    have ew : wrap64 ((i : Int) + 1) = ((i + 1 : Nat) : Int) := by rw [Pl.w64 (by omega) (by omega)]; omega
    rw [watershedref17_Same.l0, if_pos (by omega), if_pos (by omega), if_pos (by omega), if_neg (by simp), ew]
    exact Same_l l hl m k (i + 1) (by omega) (by omega)
theorem Same_f (l : List S98) (hl : l.length ≤ 64) : watershedref17_Same.f 200 l l = some true := by
  unfold watershedref17_Same.f
  rw [if_pos rfl]
  exact Same_l l hl l.length 200 0 (by omega) (by omega)
theorem _root_.Go.Proofs.Ytmpgknemhmoboaa.S17.SB.outed {w W W2 : World} {ga gb : Nat} {f0 h s t wd wt : Int} {xs : List S87} {A : Option Addr} {c : Nat} {B : Option Addr} {d : Nat} (H : SB w W ga gb f0 h s t wd wt xs A c B d) (ha : IsA W2 ga f0 h (h + outTo xs.length h s wd) A xs.length c t wd wt) (hqa : Kd.Q k87 87 W2 w.heap.size (fun _ => True) (.slice A xs.length c) xs) (hb : IsB W2 gb f0 h (h + outTo xs.length h s wd) B xs.length d t wd wt) (hqb : Kd.Q k98 98 W2 w.heap.size (fun _ => True) (.slice B xs.length d) (xs.map conv)) (hlo : Below w.heap.size w W2) : SB w W2 ga gb f0 h (h + outTo xs.length h s wd) t wd wt xs A c B d := by
  have hs := H.sent
  have hw := H.wd
  refine ⟨ha, hb, hqa, hqb, H.ga, H.gb, hlo, H.num, H.has, ?_, H.tick, H.wd, H.wt⟩
  unfold outTo mx mn
  repeat' split
  all_goals omega
theorem _root_.Go.Proofs.Ytmpgknemhmoboaa.S17.SB.acked {w W W2 : World} {ga gb : Nat} {f0 h s t wd wt : Int} {xs : List S87} {A : Option Addr} {c : Nat} {B : Option Addr} {d : Nat} (H : SB w W ga gb f0 h s t wd wt xs A c B d) (n' : Int) (hy : h < n' ∧ n' ≤ h + xs.length) {A2 B2 : Option Addr} {c2 d2 : Nat} (ha : IsA W2 ga f0 n' (mx s n') A2 (xs.length - (n' - h).toNat) c2 0 wd wt) (hqa : Kd.Q k87 87 W2 w.heap.size (fun _ => True) (.slice A2 (xs.length - (n' - h).toNat) c2) (xs.drop (n' - h).toNat)) (hb : IsB W2 gb f0 n' (mx s n') B2 (xs.length - (n' - h).toNat) d2 0 wd wt) (hqb : Kd.Q k98 98 W2 w.heap.size (fun _ => True) (.slice B2 (xs.length - (n' - h).toNat) d2) ((xs.map conv).drop (n' - h).toNat)) (hlo : Below w.heap.size w W2) : SB w W2 ga gb f0 n' (mx s n') 0 wd wt (xs.drop (n' - h).toNat) A2 c2 B2 d2 := by
  have hl : (xs.drop (n' - h).toNat).length = xs.length - (n' - h).toNat := List.length_drop
  have hh := H.has
  have hs := H.sent
  have hw := H.wt
  refine ⟨by rw [hl]; exact ha, by rw [hl]; exact hb, by rw [hl]; exact hqa, by rw [hl, List.map_drop]; exact hqb, H.ga, H.gb, hlo, fun i hi => ?_, by rw [hl]; omega, ?_, by omega, H.wd, H.wt⟩
  · rw [hl] at hi
    have e : rd_T87 (xs.drop (n' - h).toNat) (i : Int) = rd_T87 xs (((n' - h).toNat + i : Nat) : Int) := by
      unfold rd_T87
      rw [Int.toNat_natCast, Int.toNat_natCast, List.getD_eq_getElem?_getD, List.getD_eq_getElem?_getD, List.getElem?_drop]
    rw [e, H.num _ (by omega)]
    omega
  · rw [hl]
    unfold mx
    split <;> omega
structure SOp where
  kind : Int
  s : ByteArray
  ep : Int
  n : Int
def zOp : SOp := ⟨(0 : Int), (ByteArray.empty : ByteArray), (0 : Int), (0 : Int)⟩
def kOp : Kd SOp := Kd.iso (Kd.pair (Kd.int .i64) (Kd.pair (Kd.string) (Kd.pair (Kd.int .i64) (Kd.int .i64)))) (fun x : SOp => (x.kind, x.s, x.ep, x.n))
theorem kOp_open {w : World} {x : SOp} {cs : List Value} (h : kOp.K w x cs) : cs = [.int .i64 x.kind, .string x.s, .int .i64 x.ep, .int .i64 x.n] := by
  obtain ⟨_, _, rfl, rfl, ⟨_, _, rfl, rfl, ⟨_, _, rfl, rfl, rfl⟩⟩⟩ := h
  exact rfl
theorem kOp_openM {w : World} {base : Nat} {ok : Nat → Prop} {x : SOp} {cs : List Value} (h : kOp.M w base ok x cs) : cs = [.int .i64 x.kind, .string x.s, .int .i64 x.ep, .int .i64 x.n] := by
  obtain ⟨_, _, rfl, rfl, ⟨_, _, rfl, rfl, ⟨_, _, rfl, rfl, rfl⟩⟩⟩ := h
  exact rfl
theorem kOp_mk (w : World) (x : SOp) : kOp.K w x [.int .i64 x.kind, .string x.s, .int .i64 x.ep, .int .i64 x.n] := ⟨[.int .i64 x.kind], [.string x.s, .int .i64 x.ep, .int .i64 x.n], rfl, rfl, ⟨[.string x.s], [.int .i64 x.ep, .int .i64 x.n], rfl, rfl, ⟨[.int .i64 x.ep], [.int .i64 x.n], rfl, rfl, rfl⟩⟩⟩
theorem kOp_mkM (w : World) (base : Nat) (ok : Nat → Prop) (x : SOp) : kOp.M w base ok x [.int .i64 x.kind, .string x.s, .int .i64 x.ep, .int .i64 x.n] := ⟨[.int .i64 x.kind], [.string x.s, .int .i64 x.ep, .int .i64 x.n], rfl, rfl, ⟨[.string x.s], [.int .i64 x.ep, .int .i64 x.n], rfl, rfl, ⟨[.int .i64 x.ep], [.int .i64 x.n], rfl, rfl, rfl⟩⟩⟩
def rd_Op (xs : List SOp) (i : Int) : SOp := xs.getD i.toNat zOp
theorem at_Op {w : World} {A : Option Addr} {n : Nat} {xs : List SOp} (h : Kd.C kOp w A n xs) (i : Int) (h0 : 0 ≤ i) (h1 : i < n) : ∃ ad, A = some ad ∧ w.cell? (ad.add (i.toNat * 4)) = some (.int .i64 (rd_Op xs i).kind) ∧ w.cell? ⟨(ad.add (i.toNat * 4)).block, (ad.add (i.toNat * 4)).off + 1, none⟩ = some (.string (rd_Op xs i).s) ∧ w.cell? ⟨(ad.add (i.toNat * 4)).block, (ad.add (i.toNat * 4)).off + 2, none⟩ = some (.int .i64 (rd_Op xs i).ep) ∧ w.cell? ⟨(ad.add (i.toNat * 4)).block, (ad.add (i.toNat * 4)).off + 3, none⟩ = some (.int .i64 (rd_Op xs i).n) := by
  obtain ⟨ad, c, e, _, hK, hc0⟩ := Kd.C_get h zOp i h0 h1
  have hc : ∀ j u, c[j]? = some u → w.cell? (ad.add (i.toNat * 4 + j)) = some u := hc0
  obtain rfl := kOp_open hK
  exact ⟨ad, e, hc 0 _ rfl, by rw [← add_field _ _ 1 (by omega)]; exact hc 1 _ rfl, by rw [← add_field _ _ 2 (by omega)]; exact hc 2 _ rfl, by rw [← add_field _ _ 3 (by omega)]; exact hc 3 _ rfl⟩
theorem opens_Op : Open.Opens Try.prog 48 kOp (fun x => (Lit.int .i64 x.kind).wf = true ∧ x.s.size ≤ 9223372036854775807 ∧ (Lit.int .i64 x.ep).wf = true ∧ (Lit.int .i64 x.n).wf = true) :=
  Open.Opens.iso (Open.opens_struct Try.underlying48 (by kernel_rfl) (Open.opensF_cons (by kernel_rfl) (by rfl) (Open.opens_int (P := Try.prog) (by kernel_rfl)) (Open.opensF_cons (by kernel_rfl) (by rfl) (Open.opens_string (P := Try.prog) (by kernel_rfl)) (Open.opensF_cons (by kernel_rfl) (by rfl) (Open.opens_int (P := Try.prog) (by kernel_rfl)) (Open.opensF_last (by kernel_rfl) (Open.opens_int (P := Try.prog) (by kernel_rfl))))))) (fun x : SOp => (x.kind, x.s, x.ep, x.n)) (fun t => ⟨t.1, t.2.1, t.2.2.1, t.2.2.2⟩) (fun t => rfl)
set_option maxRecDepth 100000 in
set_option maxHeartbeats 4000000 in
theorem HopSends_walk (ep ac wd wt : Int) (ops : List SOp) (A : Option Addr) (c : Nat) (w : World) (_b0 : -9223372036854775808 ≤ ep ∧ ep < 9223372036854775808) (_b1 : -9223372036854775808 ≤ ac ∧ ac < 9223372036854775808) (_b2 : -9223372036854775808 ≤ wd ∧ wd < 9223372036854775808) (_b3 : -9223372036854775808 ≤ wt ∧ wt < 9223372036854775808) (hx0 : ops.length ≤ c ∧ Kd.C kOp w A ops.length ops ∧ ops.length ≤ 9223372036854775807 ∧ ∀ x ∈ ops, (Lit.int .i64 x.kind).wf = true ∧ x.s.size ≤ 9223372036854775807 ∧ (Lit.int .i64 x.ep).wf = true ∧ (Lit.int .i64 x.n).wf = true) :
    Calls Try.prog 5 #[.int .i64 ep, .int .i64 ac, .int .i64 wd, .int .i64 wt, .slice A ops.length c] w fun e w' => e = .returned (.bool true) ∧ Below w.heap.size w w' := by
  have hx : ops.length ≤ c ∧ Kd.C kOp w A ops.length ops ∧ ops.length ≤ 9223372036854775807 := ⟨hx0.1, hx0.2.1, hx0.2.2.1⟩
  have HB := Aside0.mk (Below.refl w.heap.size w)
  have HX := Aside0.mk hx
  clear hx hx0
  by_cases hok : NewOk ep ac wd wt
  · have HOK := Aside0.mk hok
    clear hok
    go_enter Try.func5, Try.ntmps5
    go_wp2_with fail
    refine (A_New _ _ _ _ _).mono ?_
    rintro e w1 ⟨hy, _, hb⟩
    obtain ⟨ga, hga, rfl, hIA⟩ := hy HOK.out
    have HA := Aside0.mk hIA
    have HB1 := Aside0.mk hb
    have HGA := Aside0.mk hga
    clear hy hb hga hIA
    go_wp2_with fail
    refine (B_New _ _ _ _ _).mono ?_
    rintro e w2 ⟨hy, _, hb⟩
    obtain ⟨gb, hgb, rfl, hIB⟩ := hy HOK.out
    have HIB := Aside0.mk hIB
    have HA2 := Aside0.mk (A_below HA.out hb)
    have HB2 := Aside0.mk (below_step HB1.out hb)
    have HGB := Aside0.mk (Nat.le_trans HB1.out.size hgb)
    clear hy hb hgb hIB HA HB HB1
    have HSB : Aside0 (SB w w2 ga gb ep ac ac 0 wd wt [] none 0 none 0) := ⟨⟨HA2.out, HIB.out, Kd.Q_nil _ _ _ _ _, Kd.Q_nil _ _ _ _ _, HGA.out, HGB.out, HB2.out, fun i hi => absurd hi (Nat.not_lt_zero _), by
      have := HOK.out.2.1
      simp
      omega, by simp, by have := HOK.out.2.2.2; omega, HOK.out.2.2.1, HOK.out.2.2.2⟩⟩
    clear HA2 HIB HGA HGB HB2 HOK
    go_wp2
    go_loopg [15] (ops.length + 1) (fun kq v15 W' => ∃ (x : Nat) (h s t : Int) (xs : List S87) (A' : Option Addr) (c' : Nat) (B' : Option Addr) (d' : Nat), v15 = .int .i64 x ∧ Aside0 (x ≤ ops.length ∧ x + kq = ops.length + 1) ∧ Aside0 (SB w W' ga gb ep h s t wd wt xs A' c' B' d'))
    case atStart => exact ⟨0, ac, ac, 0, [], none, 0, none, 0, rfl, ⟨by omega⟩, HSB⟩
    case round =>
      clear HSB
      obtain ⟨x, h, s, t, xs, A', c', B', d', rfl, HK, HSB⟩ := hrel
      by_cases c1 : x < ops.length
      · have e1 : decide ((x : Int) < (ops.length : Int)) = true := decide_eq_true (by omega)
        by_cases c2 : (x : Int) < 150
        · have e2 : decide ((x : Int) < 150) = true := decide_eq_true c2
          obtain ⟨ad, rfl, hx0, hx1, hx2, hx3⟩ := at_Op HX.out.2.1 (x : Int) (by omega) (by omega)
          rw [Int.toNat_natCast] at hx0 hx1 hx2 hx3
          have HLT := Aside0.mk c1
          generalize rd_Op ops (x : Int) = o at hx0 hx1 hx2 hx3
          replace hx0 := (HSB.out.lo.cell (World.block_lt_of_cell? w _ hx0)).trans hx0
          replace hx1 := (HSB.out.lo.cell (World.block_lt_of_cell? w _ hx1)).trans hx1
          replace hx2 := (HSB.out.lo.cell (World.block_lt_of_cell? w _ hx2)).trans hx2
          replace hx3 := (HSB.out.lo.cell (World.block_lt_of_cell? w _ hx3)).trans hx3
          have p1 : ((x : Int) < (ops.length : Int)) = True := eq_true (by omega)
          have p2 : (x < ops.length) = True := eq_true c1
          have c2' := c2
          clear c1 c2
          have p3 : ((x : Int) < 150) = True := eq_true c2'
          go_upto_region 9 with (fail)
          have HG := Aside0.mk (blk_new wr (.cells #[.int .i64 o.kind, .string o.s, .int .i64 o.ep, .int .i64 o.n] 48))
          have HSB2 := Aside0.mk (HSB.out.below (below_alloc (Below.refl _ _) (.cells #[.int .i64 o.kind, .string o.s, .int .i64 o.ep, .int .i64 o.n] 48)))
          clear HSB hx0 hx1 hx2 hx3
          have HSB := HSB2
          clear HSB2
          obtain ⟨G, hG⟩ : ∃ G, G = wr.heap.size := ⟨_, rfl⟩
          rw [← hG] at HG ⊢
          generalize wr.alloc _ = wo at HG HSB ⊢
          clear hG
          have hc0 : wo.cell? ⟨G, 0, none⟩ = some (.int .i64 o.kind) := blk_at (i := 0) HG.out rfl
          have hc1 : wo.cell? ⟨G, 1, none⟩ = some (.string o.s) := blk_at (i := 1) HG.out rfl
          have HB := Aside0.mk HSB.out.lo
          by_cases c3 : o.s.size > 7000
          · have e3 : decide ((o.s.size : Int) > 7000) = true := decide_eq_true (by omega)
            clear c3
            go_wp2
            go_ret
            exact ⟨rfl, (by repeat (first | (with_reducible first | exact HB.out | apply below_alloc | apply pw_below_drewN | apply below_drew1) | exact HB.out))⟩
          · have e3 : decide ((o.s.size : Int) > 7000) = false := decide_eq_false (by omega)
            clear c3
            go_upto_block 2 with (fail)
            go_cut [15] (fun v15 wc => v15 = .int .i64 x ∧ ∃ (h s t : Int) (xs : List S87) (A' : Option Addr) (c' : Nat) (B' : Option Addr) (d' : Nat), Aside0 (SB w wc ga gb ep h s t wd wt xs A' c' B' d'))
            case first =>
              clear hc1 HB
              have HBD : Aside0 (0 ≤ h ∧ h ≤ 1099511627776 ∧ xs.length ≤ 64) := ⟨HSB.out.has.1, by have := HSB.out.has; omega, HSB.out.has.2.2⟩
              have hc1 : wo.cell? ⟨G, 1, none⟩ = some (.string o.s) := blk_at (i := 1) HG.out rfl
              by_cases n0 : o.kind = 0
              · have k0 : (o.kind == 0) = true := beq_iff_eq.mpr n0
                clear n0
                go_wp2_with fail
                refine (A_Put o.s HSB.out.a HSB.out.qa HSB.out.lo.size HBD.out).mono ?_
                rintro e w3 ⟨rfl, hno, hyes⟩
                by_cases hp : (putFA h xs.length o.s).2 = 0
                · obtain ⟨A2, k2, ha, hqa, hu⟩ := hyes hp
                  obtain ⟨hb', hqb, hlo⟩ := carryA HSB.out.a HSB.out.qa HSB.out.b HSB.out.qb HSB.out.ga HSB.out.lo hu
                  have hG3 := (carry (d1 := k87) (d2 := k98) (E2 := 98) rfl (by decide) HSB.out.a HSB.out.qa HG.out (Kd.Q_nil k98 _ _ _ _) hu).1
                  have HA3 := Aside0.mk ha
                  have HQA3 := Aside0.mk hqa
                  have HB3 := Aside0.mk hb'
                  have HQB3 := Aside0.mk hqb
                  have HLO3 := Aside0.mk hlo
                  have HP := Aside0.mk hp
                  have hc1 : w3.cell? ⟨G, 1, none⟩ = some (.string o.s) := blk_at (i := 1) hG3 rfl
                  clear ha hqa hb' hqb hlo hno hyes hu hp
                  go_wp2_with fail
                  refine (B_Put o.s HB3.out HQB3.out HLO3.out.size HBD.out).mono ?_
                  rintro e w4 ⟨rfl, _, hyes⟩
                  obtain ⟨B2, d2, hb2, hqb2, hu2⟩ := hyes HP.out
                  obtain ⟨ha2, hqa2, hlo2⟩ := carryB HA3.out HQA3.out HB3.out HQB3.out HSB.out.gb HLO3.out hu2
                  have HN := Aside0.mk (HSB.out.put o.s ha2 hqa2 hb2 hqb2 hlo2 HP.out)
                  clear hyes hb2 hqb2 hu2 ha2 hqa2 hlo2
                  have hpp : putFB h xs.length o.s = putFA h xs.length o.s := rfl
                  rw [hpp]
                  generalize (putFA h xs.length o.s).1 = r1
                  generalize (putFA h xs.length o.s).2 = r2
                  have b1 : (r1 != r1) = false := bne_self_eq_false r1
                  have b2 : (r2 != r2) = false := bne_self_eq_false r2
                  go_wp2
                  go_meet
                  case rel => exact ⟨by first | rfl | simp, _, _, _, _, _, _, _, _, HN⟩
                · have HSB3 := Aside0.mk (HSB.out.below (hno hp))
                  have hG3 := blk_below HG.out (hno hp)
                  have HP := Aside0.mk hp
                  have hc1 : w3.cell? ⟨G, 1, none⟩ = some (.string o.s) := blk_at (i := 1) hG3 rfl
                  clear hno hyes hp
                  go_wp2_with fail
                  refine (B_Put o.s HSB3.out.b HSB3.out.qb HSB3.out.lo.size HBD.out).mono ?_
                  rintro e w4 ⟨rfl, hno, _⟩
                  have HN := Aside0.mk (HSB3.out.below (hno HP.out))
                  clear hno
                  have hpp : putFB h xs.length o.s = putFA h xs.length o.s := rfl
                  rw [hpp]
                  generalize (putFA h xs.length o.s).1 = r1
                  generalize (putFA h xs.length o.s).2 = r2
                  have b1 : (r1 != r1) = false := bne_self_eq_false r1
                  have b2 : (r2 != r2) = false := bne_self_eq_false r2
                  go_wp2
                  go_meet
                  case rel => exact ⟨by first | rfl | simp, _, _, _, _, _, _, _, _, HN⟩
              · have k0 : (o.kind == 0) = false := beq_eq_false_iff_ne.mpr n0
                by_cases n1 : o.kind = 1
                · have k1 : (o.kind == 1) = true := beq_iff_eq.mpr n1
                  clear n0 n1
                  have hc2 : wo.cell? ⟨G, 2, none⟩ = some (.int .i64 o.ep) := blk_at (i := 2) HG.out rfl
                  have hc3 : wo.cell? ⟨G, 3, none⟩ = some (.int .i64 o.n) := blk_at (i := 3) HG.out rfl
                  by_cases hy : o.ep = ep ∧ h < o.n ∧ o.n ≤ h + xs.length
                  · have HE := Aside0.mk hy.1
                    have HY := Aside0.mk hy.2
                    rw [hy.1] at hc2
                    have HSBd := Aside0.mk (HSB.out.below (below_drew (Below.refl _ _)))
                    have HGd := Aside0.mk (show (World.drew wo).heap[G]? = _ from HG.out)
                    clear hy
                    go_wp2
                    refine start_ (n := 13) (S := fun w' => w'.cell? ⟨G, 2, none⟩ = some (.int .i64 ep) ∧ w'.cell? ⟨G, 3, none⟩ = some (.int .i64 o.n)) (ds := []) #[false, false, false, false, false, false, false, false, false, false, false, false, false] (by kernel_rfl) rfl rfl ⟨hc2, hc3⟩ (fun hHeld => ?_)
                    refine pure_ (i := 0) (N := some 115) (v := ?_) (a' := ?_) #[true, false, false, false, false, false, false, false, false, false, false, false, false] rfl rfl (by kernel_rfl) (fun _ _ _ h => h) (Or.inl ⟨by rfl, ?_⟩) ?_ ?_
                    rotate_left
                    · intro w'
                      go_simp
                      with_reducible rfl
                    rotate_left
                    · simp only [Act.put, List.setIfInBounds_toArray, List.set_cons_zero, List.set_cons_succ, i64_w, i32_w]
                      rfl
                    refine pure_ (i := 1) (N := some 116) (v := ?_) (a' := ?_) #[true, true, false, false, false, false, false, false, false, false, false, false, false] rfl rfl (by kernel_rfl) (fun _ _ _ h => h) (Or.inl ⟨by rfl, ?_⟩) ?_ ?_
                    rotate_left
                    · intro w'
                      go_simp
                      with_reducible rfl
                    rotate_left
                    · simp only [Act.put, List.setIfInBounds_toArray, List.set_cons_zero, List.set_cons_succ, i64_w, i32_w]
                      rfl
                    refine pure_ (i := 3) (N := some 118) (v := ?_) (a' := ?_) #[true, true, false, true, false, false, false, false, false, false, false, false, false] rfl rfl (by kernel_rfl) (fun _ _ _ h => h) (Or.inl ⟨by rfl, ?_⟩) ?_ ?_
                    rotate_left
                    · intro w'
                      go_simp
                      with_reducible rfl
                    rotate_left
                    · simp only [Act.put, List.setIfInBounds_toArray, List.set_cons_zero, List.set_cons_succ, i64_w, i32_w]
                      rfl
                    refine pure_ (i := 6) (N := some 121) (v := ?_) (a' := ?_) #[true, true, false, true, false, false, true, false, false, false, false, false, false] rfl rfl (by kernel_rfl) (fun _ _ _ h => h) (Or.inl ⟨by rfl, ?_⟩) ?_ ?_
                    rotate_left
                    · intro w'
                      go_simp
                      with_reducible rfl
                    rotate_left
                    · simp only [Act.put, List.setIfInBounds_toArray, List.set_cons_zero, List.set_cons_succ, i64_w, i32_w]
                      rfl
                    refine pure_ (i := 7) (N := some 122) (v := ?_) (a' := ?_) #[true, true, false, true, false, false, true, true, false, false, false, false, false] rfl rfl (by kernel_rfl) (fun _ _ _ h => h) (Or.inl ⟨by rfl, ?_⟩) ?_ ?_
                    rotate_left
                    · intro w'
                      go_simp
                      with_reducible rfl
                    rotate_left
                    · simp only [Act.put, List.setIfInBounds_toArray, List.set_cons_zero, List.set_cons_succ, i64_w, i32_w]
                      rfl
                    refine pure_ (i := 9) (N := some 124) (v := ?_) (a' := ?_) #[true, true, false, true, false, false, true, true, false, true, false, false, false] rfl rfl (by kernel_rfl) (fun _ _ _ h => h) (Or.inl ⟨by rfl, ?_⟩) ?_ ?_
                    rotate_left
                    · intro w'
                      go_simp
                      with_reducible rfl
                    rotate_left
                    · simp only [Act.put, List.setIfInBounds_toArray, List.set_cons_zero, List.set_cons_succ, i64_w, i32_w]
                      rfl
                    refine take_ (i := 2) (N := some 117) (v := ?_) (a' := ?_) #[true, true, true, true, false, false, true, true, false, true, false, false, false] rfl rfl (by kernel_rfl) (fun _ _ _ h => h) (Or.inl ⟨by rfl, ?_⟩) hHeld ?_ ?_
                    rotate_left
                    · rintro w' ⟨s0, s1⟩
                      go_simp
                      with_reducible rfl
                    rotate_left
                    · simp only [Act.put, List.setIfInBounds_toArray, List.set_cons_zero, List.set_cons_succ, i64_w, i32_w]
                      rfl
                    refine take_ (i := 4) (N := some 119) (v := ?_) (a' := ?_) #[true, true, true, true, true, false, true, true, false, true, false, false, false] rfl rfl (by kernel_rfl) (fun _ _ _ h => h) (Or.inl ⟨by rfl, ?_⟩) hHeld ?_ ?_
                    rotate_left
                    · rintro w' ⟨s0, s1⟩
                      go_simp
                      with_reducible rfl
                    rotate_left
                    · simp only [Act.put, List.setIfInBounds_toArray, List.set_cons_zero, List.set_cons_succ, i64_w, i32_w]
                      rfl
                    refine take_ (i := 8) (N := some 123) (v := ?_) (a' := ?_) #[true, true, true, true, true, false, true, true, true, true, false, false, false] rfl rfl (by kernel_rfl) (fun _ _ _ h => h) (Or.inl ⟨by rfl, ?_⟩) hHeld ?_ ?_
                    rotate_left
                    · rintro w' ⟨s0, s1⟩
                      go_simp
                      with_reducible rfl
                    rotate_left
                    · simp only [Act.put, List.setIfInBounds_toArray, List.set_cons_zero, List.set_cons_succ, i64_w, i32_w]
                      rfl
                    refine take_ (i := 10) (N := some 125) (v := ?_) (a' := ?_) #[true, true, true, true, true, false, true, true, true, true, true, false, false] rfl rfl (by kernel_rfl) (fun _ _ _ h => h) (Or.inl ⟨by rfl, ?_⟩) hHeld ?_ ?_
                    rotate_left
                    · rintro w' ⟨s0, s1⟩
                      go_simp
                      with_reducible rfl
                    rotate_left
                    · simp only [Act.put, List.setIfInBounds_toArray, List.set_cons_zero, List.set_cons_succ, i64_w, i32_w]
                      rfl
                    refine one_ (i := 5) (N := some 120) #[true, true, true, true, true, true, true, true, true, true, true, false, false] rfl rfl (by kernel_rfl) (by decide) (fun K hK => ?_)
                    refine goes_ Try.func21 (by kernel_rfl) rfl #[.pointer (some ⟨ga, 0, none⟩), .int .i64 ep, .int .i64 o.n] (by rfl) rfl rfl (by simp only [List.map_toArray, List.map_cons, List.map_nil]; rfl) ?_
                    with_reducible refine (A_Acked o.n HSBd.out.a HSBd.out.qa HBD.out HY.out).mono ?_
                    rintro e wa ⟨rfl, A2, k2, ha, hqa, hu⟩
                    refine ⟨_, rfl, ?_⟩
                    have HA3 := Aside0.mk ha
                    have HQA3 := Aside0.mk hqa
                    have hca := carryA HSBd.out.a HSBd.out.qa HSBd.out.b HSBd.out.qb HSBd.out.ga HSBd.out.lo (hu.mono (fun i _ hi => .inl hi))
                    have HB3 := Aside0.mk hca.1
                    have HQB3 := Aside0.mk hca.2.1
                    have HLO3 := Aside0.mk hca.2.2
                    have HGa := Aside0.mk (carry (d1 := k87) (d2 := k98) (E2 := 98) rfl (by decide) HSBd.out.a HSBd.out.qa HGd.out (Kd.Q_nil k98 _ _ _ _) (hu.mono (fun i _ hi => .inl hi))).1
                    refine hK.out _ _ ⟨(by rw [← HE.out]; exact blk_at (i := 2) HGa.out rfl), blk_at (i := 3) HGa.out rfl⟩ (fun hHeld => ?_)
                    clear hK K
                    refine norm_ (a' := ?_) ?_ ?_
                    rotate_left
                    · show Act.put _ (some 120) _ = _
                      simp only [Act.put, List.setIfInBounds_toArray, List.set_cons_zero, List.set_cons_succ, i64_w, i32_w]
                      rfl
                    refine one_ (i := 11) (N := some 126) #[true, true, true, true, true, true, true, true, true, true, true, true, false] rfl rfl (by kernel_rfl) (by decide) (fun K hK => ?_)
                    refine goes_ Try.func22 (by kernel_rfl) rfl #[.pointer (some ⟨gb, 0, none⟩), .int .i64 ep, .int .i64 o.n] (by rfl) rfl rfl (by simp only [List.map_toArray, List.map_cons, List.map_nil]; rfl) ?_
                    with_reducible refine (B_Acked o.n HB3.out HQB3.out HBD.out HY.out).mono ?_
                    rintro e wb ⟨rfl, B2, d2, hb2, hqb2, hu2⟩
                    refine ⟨_, rfl, ?_⟩
                    have hcb := carryB HA3.out HQA3.out HB3.out HQB3.out HSBd.out.gb HLO3.out (hu2.mono (fun i _ hi => .inl hi))
                    have HN := Aside0.mk (HSBd.out.acked o.n HY.out hcb.1 hcb.2.1 hb2 hqb2 hcb.2.2)
                    have HGb := Aside0.mk (carry (d1 := k98) (d2 := k87) (E2 := 87) rfl (by decide) HB3.out HQB3.out HGa.out (Kd.Q_nil k87 _ _ _ _) (hu2.mono (fun i _ hi => .inl hi))).1
                    refine hK.out _ _ ⟨(by rw [← HE.out]; exact blk_at (i := 2) HGb.out rfl), blk_at (i := 3) HGb.out rfl⟩ (fun hHeld => ?_)
                    clear hK K
                    refine norm_ (a' := ?_) ?_ ?_
                    rotate_left
                    · show Act.put _ (some 126) _ = _
                      simp only [Act.put, List.setIfInBounds_toArray, List.set_cons_zero, List.set_cons_succ, i64_w, i32_w]
                      rfl
                    refine pure_ (i := 12) (N := some 127) (v := ?_) (a' := ?_) #[true, true, true, true, true, true, true, true, true, true, true, true, true] rfl rfl (by kernel_rfl) (fun _ _ _ h => h) (Or.inl ⟨by rfl, ?_⟩) ?_ ?_
                    rotate_left
                    · intro w'
                      go_simp
                      with_reducible rfl
                    rotate_left
                    · simp only [Act.put, List.setIfInBounds_toArray, List.set_cons_zero, List.set_cons_succ, i64_w, i32_w]
                      rfl
                    refine done_ (by kernel_rfl) ?_
                    go_wp2
                    go_meet
                    case rel => exact ⟨by first | rfl | simp, _, _, _, _, _, _, _, _, HN⟩
                  · have HY := Aside0.mk hy
                    clear hy
                    go_wp2
                    refine start_ (n := 13) (S := fun w' => w'.cell? ⟨G, 2, none⟩ = some (.int .i64 o.ep) ∧ w'.cell? ⟨G, 3, none⟩ = some (.int .i64 o.n)) (ds := []) #[false, false, false, false, false, false, false, false, false, false, false, false, false] (by kernel_rfl) rfl rfl ⟨hc2, hc3⟩ (fun hHeld => ?_)
                    refine pure_ (i := 0) (N := some 115) (v := ?_) (a' := ?_) #[true, false, false, false, false, false, false, false, false, false, false, false, false] rfl rfl (by kernel_rfl) (fun _ _ _ h => h) (Or.inl ⟨by rfl, ?_⟩) ?_ ?_
                    rotate_left
                    · intro w'
                      go_simp
                      with_reducible rfl
                    rotate_left
                    · simp only [Act.put, List.setIfInBounds_toArray, List.set_cons_zero, List.set_cons_succ, i64_w, i32_w]
                      rfl
                    refine pure_ (i := 1) (N := some 116) (v := ?_) (a' := ?_) #[true, true, false, false, false, false, false, false, false, false, false, false, false] rfl rfl (by kernel_rfl) (fun _ _ _ h => h) (Or.inl ⟨by rfl, ?_⟩) ?_ ?_
                    rotate_left
                    · intro w'
                      go_simp
                      with_reducible rfl
                    rotate_left
                    · simp only [Act.put, List.setIfInBounds_toArray, List.set_cons_zero, List.set_cons_succ, i64_w, i32_w]
                      rfl
                    refine pure_ (i := 3) (N := some 118) (v := ?_) (a' := ?_) #[true, true, false, true, false, false, false, false, false, false, false, false, false] rfl rfl (by kernel_rfl) (fun _ _ _ h => h) (Or.inl ⟨by rfl, ?_⟩) ?_ ?_
                    rotate_left
                    · intro w'
                      go_simp
                      with_reducible rfl
                    rotate_left
                    · simp only [Act.put, List.setIfInBounds_toArray, List.set_cons_zero, List.set_cons_succ, i64_w, i32_w]
                      rfl
                    refine pure_ (i := 6) (N := some 121) (v := ?_) (a' := ?_) #[true, true, false, true, false, false, true, false, false, false, false, false, false] rfl rfl (by kernel_rfl) (fun _ _ _ h => h) (Or.inl ⟨by rfl, ?_⟩) ?_ ?_
                    rotate_left
                    · intro w'
                      go_simp
                      with_reducible rfl
                    rotate_left
                    · simp only [Act.put, List.setIfInBounds_toArray, List.set_cons_zero, List.set_cons_succ, i64_w, i32_w]
                      rfl
                    refine pure_ (i := 7) (N := some 122) (v := ?_) (a' := ?_) #[true, true, false, true, false, false, true, true, false, false, false, false, false] rfl rfl (by kernel_rfl) (fun _ _ _ h => h) (Or.inl ⟨by rfl, ?_⟩) ?_ ?_
                    rotate_left
                    · intro w'
                      go_simp
                      with_reducible rfl
                    rotate_left
                    · simp only [Act.put, List.setIfInBounds_toArray, List.set_cons_zero, List.set_cons_succ, i64_w, i32_w]
                      rfl
                    refine pure_ (i := 9) (N := some 124) (v := ?_) (a' := ?_) #[true, true, false, true, false, false, true, true, false, true, false, false, false] rfl rfl (by kernel_rfl) (fun _ _ _ h => h) (Or.inl ⟨by rfl, ?_⟩) ?_ ?_
                    rotate_left
                    · intro w'
                      go_simp
                      with_reducible rfl
                    rotate_left
                    · simp only [Act.put, List.setIfInBounds_toArray, List.set_cons_zero, List.set_cons_succ, i64_w, i32_w]
                      rfl
                    refine take_ (i := 2) (N := some 117) (v := ?_) (a' := ?_) #[true, true, true, true, false, false, true, true, false, true, false, false, false] rfl rfl (by kernel_rfl) (fun _ _ _ h => h) (Or.inl ⟨by rfl, ?_⟩) hHeld ?_ ?_
                    rotate_left
                    · rintro w' ⟨s0, s1⟩
                      go_simp
                      with_reducible rfl
                    rotate_left
                    · simp only [Act.put, List.setIfInBounds_toArray, List.set_cons_zero, List.set_cons_succ, i64_w, i32_w]
                      rfl
                    refine take_ (i := 4) (N := some 119) (v := ?_) (a' := ?_) #[true, true, true, true, true, false, true, true, false, true, false, false, false] rfl rfl (by kernel_rfl) (fun _ _ _ h => h) (Or.inl ⟨by rfl, ?_⟩) hHeld ?_ ?_
                    rotate_left
                    · rintro w' ⟨s0, s1⟩
                      go_simp
                      with_reducible rfl
                    rotate_left
                    · simp only [Act.put, List.setIfInBounds_toArray, List.set_cons_zero, List.set_cons_succ, i64_w, i32_w]
                      rfl
                    refine take_ (i := 8) (N := some 123) (v := ?_) (a' := ?_) #[true, true, true, true, true, false, true, true, true, true, false, false, false] rfl rfl (by kernel_rfl) (fun _ _ _ h => h) (Or.inl ⟨by rfl, ?_⟩) hHeld ?_ ?_
                    rotate_left
                    · rintro w' ⟨s0, s1⟩
                      go_simp
                      with_reducible rfl
                    rotate_left
                    · simp only [Act.put, List.setIfInBounds_toArray, List.set_cons_zero, List.set_cons_succ, i64_w, i32_w]
                      rfl
                    refine take_ (i := 10) (N := some 125) (v := ?_) (a' := ?_) #[true, true, true, true, true, false, true, true, true, true, true, false, false] rfl rfl (by kernel_rfl) (fun _ _ _ h => h) (Or.inl ⟨by rfl, ?_⟩) hHeld ?_ ?_
                    rotate_left
                    · rintro w' ⟨s0, s1⟩
                      go_simp
                      with_reducible rfl
                    rotate_left
                    · simp only [Act.put, List.setIfInBounds_toArray, List.set_cons_zero, List.set_cons_succ, i64_w, i32_w]
                      rfl
                    refine one_ (i := 5) (N := some 120) #[true, true, true, true, true, true, true, true, true, true, true, false, false] rfl rfl (by kernel_rfl) (by decide) (fun K hK => ?_)
                    refine goes_ Try.func21 (by kernel_rfl) rfl #[.pointer (some ⟨ga, 0, none⟩), .int .i64 o.ep, .int .i64 o.n] (by rfl) rfl rfl (by simp only [List.map_toArray, List.map_cons, List.map_nil]; rfl) ?_
                    with_reducible refine (A_Acked_no o.ep o.n (A_drew HSB.out.a) HBD.out HY.out).mono ?_
                    rintro e wa ⟨rfl, hb⟩
                    refine ⟨_, rfl, ?_⟩
                    have HBa := Aside0.mk (below_step (below_drew (Below.refl _ _)) hb)
                    have HGa := Aside0.mk (blk_below HG.out HBa.out)
                    refine hK.out _ _ ⟨blk_at (i := 2) HGa.out rfl, blk_at (i := 3) HGa.out rfl⟩ (fun hHeld => ?_)
                    clear hK K
                    refine norm_ (a' := ?_) ?_ ?_
                    rotate_left
                    · show Act.put _ (some 120) _ = _
                      simp only [Act.put, List.setIfInBounds_toArray, List.set_cons_zero, List.set_cons_succ, i64_w, i32_w]
                      rfl
                    refine one_ (i := 11) (N := some 126) #[true, true, true, true, true, true, true, true, true, true, true, true, false] rfl rfl (by kernel_rfl) (by decide) (fun K hK => ?_)
                    refine goes_ Try.func22 (by kernel_rfl) rfl #[.pointer (some ⟨gb, 0, none⟩), .int .i64 o.ep, .int .i64 o.n] (by rfl) rfl rfl (by simp only [List.map_toArray, List.map_cons, List.map_nil]; rfl) ?_
                    with_reducible refine (B_Acked_no o.ep o.n (HSB.out.below HBa.out).b HBD.out HY.out).mono ?_
                    rintro e wb ⟨rfl, hb⟩
                    refine ⟨_, rfl, ?_⟩
                    have HBb := Aside0.mk (below_step HBa.out hb)
                    have HGb := Aside0.mk (blk_below HG.out HBb.out)
                    refine hK.out _ _ ⟨blk_at (i := 2) HGb.out rfl, blk_at (i := 3) HGb.out rfl⟩ (fun hHeld => ?_)
                    clear hK K
                    refine norm_ (a' := ?_) ?_ ?_
                    rotate_left
                    · show Act.put _ (some 126) _ = _
                      simp only [Act.put, List.setIfInBounds_toArray, List.set_cons_zero, List.set_cons_succ, i64_w, i32_w]
                      rfl
                    refine pure_ (i := 12) (N := some 127) (v := ?_) (a' := ?_) #[true, true, true, true, true, true, true, true, true, true, true, true, true] rfl rfl (by kernel_rfl) (fun _ _ _ h => h) (Or.inl ⟨by rfl, ?_⟩) ?_ ?_
                    rotate_left
                    · intro w'
                      go_simp
                      with_reducible rfl
                    rotate_left
                    · simp only [Act.put, List.setIfInBounds_toArray, List.set_cons_zero, List.set_cons_succ, i64_w, i32_w]
                      rfl
                    refine done_ (by kernel_rfl) ?_
                    have HN := Aside0.mk (HSB.out.below HBb.out)
                    go_wp2
                    go_meet
                    case rel => exact ⟨by first | rfl | simp, _, _, _, _, _, _, _, _, HN⟩
                · have k1 : (o.kind == 1) = false := beq_eq_false_iff_ne.mpr n1
                  by_cases n2 : o.kind = 2
                  · have k2 : (o.kind == 2) = true := beq_iff_eq.mpr n2
                    clear n0 n1 n2
                    go_wp2_with fail
                    refine (A_Tick HSB.out.a ⟨HSB.out.tick.1, by have := HSB.out.tick; have := HSB.out.wt; omega⟩).mono ?_
                    rintro e w3 ⟨rfl, ha, hu⟩
                    have hqa := A_Qupd HSB.out.a HSB.out.qa hu
                    obtain ⟨hb', hqb, hlo⟩ := carryA HSB.out.a HSB.out.qa HSB.out.b HSB.out.qb HSB.out.ga HSB.out.lo (hu.mono (fun i _ hi => .inl hi))
                    have HA3 := Aside0.mk ha
                    have HQA3 := Aside0.mk hqa
                    have HB3 := Aside0.mk hb'
                    have HQB3 := Aside0.mk hqb
                    have HLO3 := Aside0.mk hlo
                    clear ha hqa hb' hqb hlo hu
                    go_wp2_with fail
                    refine (B_Tick HB3.out ⟨HSB.out.tick.1, by have := HSB.out.tick; have := HSB.out.wt; omega⟩).mono ?_
                    rintro e w4 ⟨rfl, hb2, hu2⟩
                    have hqb2 := B_Qupd HB3.out HQB3.out hu2
                    obtain ⟨ha2, hqa2, hlo2⟩ := carryB HA3.out HQA3.out HB3.out HQB3.out HSB.out.gb HLO3.out (hu2.mono (fun i _ hi => .inl hi))
                    have HN := Aside0.mk (HSB.out.ticked ha2 hqa2 hb2 hqb2 hlo2)
                    clear hb2 hu2 hqb2 ha2 hqa2 hlo2
                    go_wp2
                    go_meet
                    case rel => exact ⟨by first | rfl | simp, _, _, _, _, _, _, _, _, HN⟩
                  · have k2 : (o.kind == 2) = false := beq_eq_false_iff_ne.mpr n2
                    clear n0 n1 n2
                    go_wp2_with fail
                    refine (A_Out HSB.out.a HSB.out.qa HBD.out HSB.out.sent HSB.out.wd).mono ?_
                    rintro e w3 ⟨v, rfl, hr, ha, hu⟩
                    obtain ⟨Av, cv, rfl, hlv, hcv⟩ := Kd.R_reads hr
                    have hqa := A_Qupd HSB.out.a HSB.out.qa hu
                    obtain ⟨hb', hqb, hlo⟩ := carryA HSB.out.a HSB.out.qa HSB.out.b HSB.out.qb HSB.out.ga HSB.out.lo (hu.mono (fun i _ hi => .inl hi))
                    have HA3 := Aside0.mk ha
                    have HQA3 := Aside0.mk hqa
                    have HB3 := Aside0.mk hb'
                    have HQB3 := Aside0.mk hqb
                    have HLO3 := Aside0.mk hlo
                    have hL64 : (List.drop (s - h).toNat (List.take (outTo xs.length h s wd).toNat xs)).length ≤ 64 := by rw [List.length_drop, List.length_take]; have := HBD.out; omega
                    have hLm : List.drop (s - h).toNat (List.take (outTo xs.length h s wd).toNat (xs.map conv)) = (List.drop (s - h).toNat (List.take (outTo xs.length h s wd).toNat xs)).map conv := by rw [← List.map_take, ← List.map_drop]
                    clear hr
                    generalize List.drop (s - h).toNat (List.take (outTo xs.length h s wd).toNat xs) = L at hcv hlv hL64 hLm ⊢
                    have HCV := Aside0.mk hcv
                    have HLV := Aside0.mk hlv
                    have HL64 := Aside0.mk hL64
                    have HLM := Aside0.mk hLm
                    clear ha hqa hb' hqb hlo hu hcv hlv hL64 hLm
                    go_wp2_with fail
                    refine (watershedlaw17_From.calls 200 Av cv _ _ _ HCV.out HLV.out (From_f _ HL64.out)).mono ?_
                    rintro e w4 ⟨v2, rfl, hr, hb⟩
                    have HR4 := Aside0.mk hr
                    have HA4 := Aside0.mk (A_below HA3.out hb)
                    have HQA4 := Aside0.mk (Kd.Q_below HQA3.out hb)
                    have HB4 := Aside0.mk (B_below HB3.out hb)
                    have HQB4 := Aside0.mk (Kd.Q_below HQB3.out hb)
                    have HLO4 := Aside0.mk (below_step HLO3.out hb)
                    clear hr hb HA3 HQA3 HB3 HQB3 HLO3
                    go_wp2_with fail
                    refine (B_Out HB4.out HQB4.out HBD.out HSB.out.sent HSB.out.wd (fun i hi => by rw [rd_conv xs i hi]; exact HSB.out.num i hi)).mono ?_
                    rintro e w5 ⟨v3, rfl, hr, hb5, hu⟩
                    have hqb5 := B_Qupd HB4.out HQB4.out hu
                    obtain ⟨ha5, hqa5, hlo5⟩ := carryB HA4.out HQA4.out HB4.out HQB4.out HSB.out.gb HLO4.out (hu.mono (fun i _ hi => .inl hi))
                    have hr2 := Kd.R_step (Kd.R_types HR4.out HB4.out (fun q hq => by
                      change q ∈ ([98] : List Nat) at hq
                      simp at hq
                      subst hq
                      decide)) (fun k hk hlt => hu.block k hlt hk.2)
                    clear HR4
                    obtain ⟨A2, c2, rfl, hl2, hC2⟩ := Kd.R_reads hr2
                    rw [HLM.out] at hr
                    obtain ⟨A3, c3, rfl, hl3, hC3⟩ := Kd.R_reads hr
                    have hM64 : (L.map conv).length ≤ 64 := by rw [List.length_map]; exact HL64.out
                    generalize L.map conv = M at hC2 hl2 hC3 hl3 hM64 ⊢
                    have HM64 := Aside0.mk hM64
                    have HC2 := Aside0.mk hC2
                    have HC3 := Aside0.mk hC3
                    have HL2 := Aside0.mk hl2
                    have HL3 := Aside0.mk hl3
                    have HSB5 := Aside0.mk (HSB.out.outed ha5 hqa5 hb5 hqb5 hlo5)
                    clear hr hb5 hu hqb5 ha5 hqa5 hlo5 hr2 hl2 hC2 hl3 hC3 hM64
                    go_wp2_with fail
                    refine (watershedref17_Same.calls 200 A2 c2 _ A3 c3 _ _ _ HC2.out HL2.out HC3.out HL3.out (Same_f _ HM64.out)).mono ?_
                    rintro e w6 ⟨rfl, ⟨nd, rfl⟩⟩
                    have HN := Aside0.mk (HSB5.out.below (pw_below_drewN (Below.refl _ _) nd))
                    go_wp2
                    go_meet
                    case rel => exact ⟨by first | rfl | simp, _, _, _, _, _, _, _, _, HN⟩
            case rest =>
              obtain ⟨rfl, h, s, t, xs, A', c', B', d', HSB⟩ := hcut
              go_wp2_with fail
              refine (A_State HSB.out.a ⟨HSB.out.has.1, by have := HSB.out.has; omega, HSB.out.has.2.2⟩).mono ?_
              rintro e w3 ⟨rfl, hb⟩
              have HSB3 := Aside0.mk (HSB.out.below hb)
              clear HSB hb
              have HSB := HSB3
              clear HSB3
              have hd1 : w3.cell? ⟨gb, 1, none⟩ = some (.int .i64 h) := blk_at (i := 1) HSB.out.b rfl
              have hd3 : w3.cell? ⟨gb, 3, none⟩ = some (.slice B' xs.length d') := blk_at (i := 3) HSB.out.b rfl
              go_wp2_with fail
              refine (B_next HSB.out.b ⟨HSB.out.has.1, by have := HSB.out.has; omega, HSB.out.has.2.2⟩).mono ?_
              rintro e w4 ⟨rfl, hb⟩
              have HSB3 := Aside0.mk (HSB.out.below hb)
              clear HSB hb
              have HSB := HSB3
              clear HSB3
              have hd3 : w4.cell? ⟨gb, 3, none⟩ = some (.slice B' xs.length d') := blk_at (i := 3) HSB.out.b rfl
              go_wp2
              go_roundg (gk - 1)
              case measure => have := HK.out; omega
              case rel => exact ⟨x + 1, h, s, t, xs, A', c', B', d', by first | rfl | simp, ⟨by have := HK.out; have := HLT.out; omega⟩, HSB⟩
        · have e2 : decide ((x : Int) < 150) = false := decide_eq_false c2
          have HB := Aside0.mk HSB.out.lo
          have p2 : (x < ops.length) = True := eq_true c1
          have p4 : (x < 150) = False := eq_false (by omega)
          clear c1 c2
          go_wp2
          go_ret
          exact ⟨rfl, (by repeat (first | (with_reducible first | exact HB.out | apply below_alloc | apply pw_below_drewN | apply below_drew1) | exact HB.out))⟩
      · have e1 : decide ((x : Int) < (ops.length : Int)) = false := decide_eq_false (by omega)
        have HB := Aside0.mk HSB.out.lo
        have p2 : (x < ops.length) = False := eq_false c1
        clear c1
        go_wp2
        go_ret
        exact ⟨rfl, (by repeat (first | (with_reducible first | exact HB.out | apply below_alloc | apply pw_below_drewN | apply below_drew1) | exact HB.out))⟩
  · have HOK := Aside0.mk hok
    clear hok
    go_enter Try.func5, Try.ntmps5
    go_wp2_with fail
    refine (A_New _ _ _ _ _).mono ?_
    rintro e w1 ⟨_, hy, hb⟩
    obtain rfl := hy HOK.out
    have HB1 := Aside0.mk hb
    clear hy hb
    go_wp2_with fail
    refine (B_New _ _ _ _ _).mono ?_
    rintro e w2 ⟨_, hy, hb⟩
    obtain rfl := hy HOK.out
    have HB2 := Aside0.mk (below_step HB1.out hb)
    clear hy hb HB
    have HB := HB2
    go_wp2
    go_ret
    exact ⟨rfl, (by repeat (first | (with_reducible first | exact HB.out | apply below_alloc | apply pw_below_drewN | apply below_drew1) | exact HB.out))⟩
namespace hopSends
open Go.ChangeShapes Go.WideShapes Go.ChangeAt Go.RowKit
open Go.ChangeMaps (open_string shut_string)
set_option linter.unusedVariables false
theorem laidOut : laidOutB Try.prog = true := by kernel_rfl
theorem own : ownKnob Try.prog.godebug = none := by kernel_rfl
set_option maxRecDepth 100000 in
theorem lifted (os : Os) (started : os.Started) (H : Type) (enc : TypeId × Value → H) :
    ReturnsInHanded {} Try.checked os 5 .any (Rows.hopSendsSpec.pre6 enc Try.prog Try.f5 Rows.hopSendsRow.domain false) (Rows.hopSendsSpec.post enc Try.prog Try.f5 false true false false) := by
  refine returnsInHanded_of_change_sized (C := Try.checked) own started (by kernel_rfl) Try.func5
    (ChangeSpec.witness6 (enc := enc) (C := Try.checked) false ⟨#[], #[.int .i64 0, .int .i64 0, .int .i64 0, .int .i64 0, .slice none 0 0], []⟩ 8 (by kernel_rfl) (by kernel_rfl) (by kernel_rfl) (by kernel_rfl)) ?_
  intro W base args ds gs before hval0 hW hcnd hsz0 _
  have hsz : (DataW.weightsEach Try.prog (Try.f5.params.toList ++ Rows.hopSendsSpec.plain.varTypes Try.prog) (ds ++ gs)).all (· ≤ reachBytes) = true := hsz0
  have hval : ∀ (j : Nat) t v, Try.f5.params[j]? = some t → args[j]? = some v → Value.okWide Try.prog W .any base t v := hval0
  have hW' := hW
  obtain ⟨p, q, hA0, hV, rfl, hfz, hnd⟩ := hW
  have hA : DataW.TrodAll enc Try.prog W 0 (fun _ => true) true Try.f5.params.toList args.toList ds p := hA0
  rw [Try.params5] at hA hval hsz
  obtain ⟨v0, vs0, d0, ds0, p0, q0, hargs, rfl, rfl, h0, r0⟩ := trodAll_cons hA
  obtain ⟨v1, vs1, d1, ds1, p1, q1, rfl, rfl, rfl, h1, r1⟩ := trodAll_cons r0
  obtain ⟨v2, vs2, d2, ds2, p2, q2, rfl, rfl, rfl, h2, r2⟩ := trodAll_cons r1
  obtain ⟨v3, vs3, d3, ds3, p3, q3, rfl, rfl, rfl, h3, r3⟩ := trodAll_cons r2
  obtain ⟨v4, vs4, d4, ds4, p4, q4, rfl, rfl, rfl, h4, r4⟩ := trodAll_cons r3
  obtain ⟨rfl, rfl, rfl⟩ := trodAll_nil r4
  obtain rfl : args = #[v0, v1, v2, v3, v4] := by cases args; simp_all
  obtain ⟨rfl, rfl⟩ := trodVars_none hV
  obtain ⟨a0, rfl, rfl, rfl, w0⟩ := open_int Try.underlying3 (hval 0 3 v0 rfl rfl) h0
  have b0 : -9223372036854775808 ≤ a0 ∧ a0 < 9223372036854775808 := by have := bounds_i64 w0; omega
  obtain ⟨a1, rfl, rfl, rfl, w1⟩ := open_int Try.underlying3 (hval 1 3 v1 rfl rfl) h1
  have b1 : -9223372036854775808 ≤ a1 ∧ a1 < 9223372036854775808 := by have := bounds_i64 w1; omega
  obtain ⟨a2, rfl, rfl, rfl, w2⟩ := open_int Try.underlying3 (hval 2 3 v2 rfl rfl) h2
  have b2 : -9223372036854775808 ≤ a2 ∧ a2 < 9223372036854775808 := by have := bounds_i64 w2; omega
  obtain ⟨a3, rfl, rfl, rfl, w3⟩ := open_int Try.underlying3 (hval 3 3 v3 rfl rfl) h3
  have b3 : -9223372036854775808 ≤ a3 ∧ a3 < 9223372036854775808 := by have := bounds_i64 w3; omega
  have k4 := h4
  obtain ⟨a4, A4, c4, rfl, w4⟩ := Open.open_slice Try.underlying40 (Open.opens_slice Try.underlying40 (by kernel_rfl) opens_Op) (hval 4 40 v4 rfl rfl) h4
  clear hA0 hval0 hsz0 hsz
  refine (HopSends_walk a0 a1 a2 a3 a4 A4 c4 W b0 b1 b2 b3 w4).mono fun e W' ⟨he, bel⟩ => ?_
  subst he
  exact ⟨_, rfl, _, _, _, [], _, [], hW', trodAll_mk1 (shut_bool Try.underlying4 _), (trodAll_cons_mk (shut_int Try.underlying3 w0) (trodAll_cons_mk (shut_int Try.underlying3 w1) (trodAll_cons_mk (shut_int Try.underlying3 w2) (trodAll_cons_mk (shut_int Try.underlying3 w3) (trodAll_cons_mk (Open.trod_below laidOut (by kernel_rfl) (of_decide_eq_true (by kernel_rfl)) k4 bel) trodAll_mk0))))), rfl, bel.frame _, fun h => by cases h⟩
theorem over : Rows.hopSendsRow.holds Try.pinned (OpenSpec.ofChange Rows.hopSendsSpec) :=
  OpenClaim.holds_of_wide 5 Try.f5 rfl rfl rfl rfl rfl rfl rfl ⟨rfl, rfl, rfl, rfl, rfl⟩ rfl rfl rfl rfl rfl (by kernel_rfl) Try.func5 (by kernel_rfl)
    (of_decide_eq_true (by kernel_rfl)) (by unfold Func.isWrapper; first | (rw [if_pos (by decide +kernel)]; kernel_rfl) | (rw [if_neg (by decide +kernel)]; exact ⟨rfl, rfl⟩))
    (fun os started H enc _ => lifted os started H enc)
theorem proved : Rows.HopSendsSaid := over
#print axioms proved
end hopSends
/-- The row, under a short name, for the claim. -/
theorem hopSends_holds : Rows.HopSendsSaid := hopSends.proved
end Go.Proofs.Ytmpgknemhmoboaa
