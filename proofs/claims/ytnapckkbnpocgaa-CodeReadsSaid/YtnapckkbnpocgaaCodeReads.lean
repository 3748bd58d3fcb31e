/- watershedlaw02.CodeReads returns true for every input: whatever is read of any bytes, in any order, each answer, what is left and what was wrong first are those of the document's answer (a text of more than 10000 bytes is let go by the law itself, and only the first 60 acts are done). -/
import Derived.Test.YtnapckkbnpocgaaRows
import Derived.WalkKit
import Derived.ProofKit
import Derived.OpenShut
import Derived.ShutString
import Derived.ChangeOld
import Derived.Below
import Derived.SizedLaws
import Derived.Deep.CutBlock
import Derived.Deep.DeepCutAuto
import Derived.Test.YtnapckkbnpocgaaW02
import Derived.Test.YtnapckkbnpocgaaC02p
import Derived.Test.YtnapckkbnpocgaaOpen
namespace Go.Proofs.Ytnapckkbnpocgaa
set_option linter.unusedSimpArgs false
open Go.RowKit C02 M02 Base Go.Proofs.YtnapckkbnpocgaaW.PrintWords Go.Proofs.YtnapckkbnpocgaaW.PrintLast Go.Proofs.YtnapckkbnpocgaaW.PrintMore

structure SAsk where
  kind : Int
  most : Int
  n : Int
def zAsk : SAsk := ⟨(0 : Int), (0 : Int), (0 : Int)⟩
def kAsk : Kd SAsk := Kd.iso (Kd.pair (Kd.int .i64) (Kd.pair (Kd.int .i64) (Kd.int .i64))) (fun x : SAsk => (x.kind, x.most, x.n))
theorem kAsk_open {w : World} {x : SAsk} {cs : List Value} (h : kAsk.K w x cs) : cs = [.int .i64 x.kind, .int .i64 x.most, .int .i64 x.n] := by
  obtain ⟨_, _, rfl, rfl, ⟨_, _, rfl, rfl, rfl⟩⟩ := h
  exact rfl
theorem kAsk_openM {w : World} {base : Nat} {ok : Nat → Prop} {x : SAsk} {cs : List Value} (h : kAsk.M w base ok x cs) : cs = [.int .i64 x.kind, .int .i64 x.most, .int .i64 x.n] := by
  obtain ⟨_, _, rfl, rfl, ⟨_, _, rfl, rfl, rfl⟩⟩ := h
  exact rfl
theorem kAsk_mk (w : World) (x : SAsk) : kAsk.K w x [.int .i64 x.kind, .int .i64 x.most, .int .i64 x.n] := ⟨[.int .i64 x.kind], [.int .i64 x.most, .int .i64 x.n], rfl, rfl, ⟨[.int .i64 x.most], [.int .i64 x.n], rfl, rfl, rfl⟩⟩
theorem kAsk_mkM (w : World) (base : Nat) (ok : Nat → Prop) (x : SAsk) : kAsk.M w base ok x [.int .i64 x.kind, .int .i64 x.most, .int .i64 x.n] := ⟨[.int .i64 x.kind], [.int .i64 x.most, .int .i64 x.n], rfl, rfl, ⟨[.int .i64 x.most], [.int .i64 x.n], rfl, rfl, rfl⟩⟩
def rd_Ask (xs : List SAsk) (i : Int) : SAsk := xs.getD i.toNat zAsk
theorem at_Ask {w : World} {A : Option Addr} {n : Nat} {xs : List SAsk} (h : Kd.C kAsk w A n xs) (i : Int) (h0 : 0 ≤ i) (h1 : i < n) : ∃ ad, A = some ad ∧ w.cell? (ad.add (i.toNat * 3)) = some (.int .i64 (rd_Ask xs i).kind) ∧ w.cell? ⟨(ad.add (i.toNat * 3)).block, (ad.add (i.toNat * 3)).off + 1, none⟩ = some (.int .i64 (rd_Ask xs i).most) ∧ w.cell? ⟨(ad.add (i.toNat * 3)).block, (ad.add (i.toNat * 3)).off + 2, none⟩ = some (.int .i64 (rd_Ask xs i).n) := by
  obtain ⟨ad, c, e, _, hK, hc0⟩ := Kd.C_get h zAsk i h0 h1
  have hc : ∀ j u, c[j]? = some u → w.cell? (ad.add (i.toNat * 3 + j)) = some u := hc0
  obtain rfl := kAsk_open hK
  exact ⟨ad, e, hc 0 _ rfl, by rw [← add_field _ _ 1 (by omega)]; exact hc 1 _ rfl, by rw [← add_field _ _ 2 (by omega)]; exact hc 2 _ rfl⟩
theorem opens_Ask : Open.Opens Try.prog 46 kAsk (fun x => (Lit.int .i64 x.kind).wf = true ∧ (Lit.int .i64 x.most).wf = true ∧ (Lit.int .i64 x.n).wf = true) :=
  Open.Opens.iso (Open.opens_struct Try.underlying46 (by kernel_rfl) (Open.opensF_cons (by kernel_rfl) (by rfl) (Open.opens_int (P := Try.prog) (by kernel_rfl)) (Open.opensF_cons (by kernel_rfl) (by rfl) (Open.opens_int (P := Try.prog) (by kernel_rfl)) (Open.opensF_last (by kernel_rfl) (Open.opens_int (P := Try.prog) (by kernel_rfl)))))) (fun x : SAsk => (x.kind, x.most, x.n)) (fun t => ⟨t.1, t.2.1, t.2.2⟩) (fun t => rfl)

/-- Both readers, one beside the other: the same is left, the same is wrong. -/
def Both (w : World) (ga gb : Nat) (W : World) : Prop := ∃ l e, RD W ga l e ∧ RF W gb l e ∧ Below w.heap.size w W ∧ w.heap.size ≤ ga ∧ w.heap.size ≤ gb ∧ ga ≠ gb

theorem Both.below {w W W' : World} {ga gb : Nat} (h : Both w ga gb W) (k : Below W.heap.size W W') : Both w ga gb W' := by
  obtain ⟨l, e, h1, h2, h3, h4⟩ := h
  exact ⟨l, e, h1.below k, h2.below k, below_step h3 k, h4⟩

/-- Behind a step with both. -/
theorem Both.next {w W W1 W2 : World} {ga gb : Nat} {l' : List Int} {e' : Int} (hB : Below w.heap.size w W) (ha : w.heap.size ≤ ga) (hb : w.heap.size ≤ gb) (hne : ga ≠ gb)
    (h1 : RD W1 ga l' e') (u1 : Upd (· = ga) W W1) (h2 : RF W2 gb l' e') (u2 : Upd (· = gb) W1 W2) : Both w ga gb W2 :=
  ⟨l', e', h1.upd u2 hne, h2, u2.after1 (u1.after1 hB ha) hb, ha, hb, hne⟩

set_option maxRecDepth 100000 in
set_option maxHeartbeats 4000000 in
theorem CodeReads_walk (s : ByteArray) (xs : List SAsk) (A : Option Addr) (c : Nat) (w : World) (hs : s.size ≤ 140737488351232) (hx : xs.length ≤ c ∧ Kd.C kAsk w A xs.length xs ∧ xs.length ≤ 9223372036854775807 ∧ ∀ x ∈ xs, (Lit.int .i64 x.kind).wf = true ∧ (Lit.int .i64 x.most).wf = true ∧ (Lit.int .i64 x.n).wf = true) :
    Calls Try.prog 8 #[.string s, .slice A xs.length c] w fun e w' => e = .returned (.bool true) ∧ Below w.heap.size w w' := by
  have HB := Aside0.mk (Below.refl w.heap.size w)
  have HX := Aside0.mk hx
  clear hx
  by_cases c : (s.size : Int) > 10000
  · have c0 : decide (10000 < (s.size : Int)) = true := decide_eq_true c
    have c1 : decide (10000 < s.size) = true := decide_eq_true (by omega)
    clear c hs
    go_enter Try.func8, Try.ntmps8
    go_wp2
    go_ret
    exact ⟨rfl, HB.out⟩
  · have c0 : decide (10000 < (s.size : Int)) = false := decide_eq_false c
    have c1 : decide (10000 < s.size) = false := decide_eq_false (by omega)
    have HS := Aside0.mk hs
    clear c hs
    go_enter Try.func8, Try.ntmps8
    go_wp2_with fail
    refine (rd_New _ _ (by have := HS.out; omega)).mono ?_
    rintro e w1 ⟨ga, hga, rfl, hR, hb⟩
    replace HB := Aside0.mk (below_step HB.out hb)
    have HBoth : Aside0 (Both w ga w1.heap.size (w1.alloc (.cells #[.string s, .int .i64 0, .int .i64 0] 44))) := ⟨⟨bytesOf s, 0, hR.below (below_alloc (Below.refl _ _) _), ⟨s, 0, blk_new _ _, by omega, by omega, rfl, HS.out⟩, below_alloc HB.out _, hga, HB.out.size, by have := hR.lt; omega⟩⟩
    clear hR hb hga
    go_wp2_with fail
    generalize hgb : w1.heap.size = gb at HBoth ⊢
    generalize hW : w1.alloc _ = W at HBoth ⊢
    clear hgb hW
    go_loopg [7] 61 (fun kq v7 W' => ∃ x : Int, v7 = .int .i64 x ∧ Aside0 (0 ≤ x ∧ x ≤ 60 ∧ x ≤ xs.length ∧ x + kq = 61) ∧ Aside0 (Both w ga gb W'))
    case atStart => exact ⟨0, rfl, ⟨by omega⟩, HBoth⟩
    case round =>
      clear HBoth HB
      obtain ⟨x, rfl, HK, HBoth⟩ := hrel
      by_cases c : x < xs.length ∧ x < 60
      · have cb1 : decide (x < (xs.length : Int)) = true := decide_eq_true c.1
        have cb2 : decide (x < 60) = true := decide_eq_true c.2
        have hx0 : 0 ≤ x := HK.out.1
        obtain ⟨ad, rfl, h0, h1, h2⟩ := at_Ask HX.out.2.1 x hx0 c.1
        have hbel : Below w.heap.size w wr := by obtain ⟨_, _, _, _, h, _⟩ := HBoth.out; exact h
        replace h0 := (hbel.cell (World.block_lt_of_cell? w _ h0)).trans h0
        replace h1 := (hbel.cell (World.block_lt_of_cell? w _ h1)).trans h1
        replace h2 := (hbel.cell (World.block_lt_of_cell? w _ h2)).trans h2
        obtain ⟨o, ho⟩ : ∃ o, o = rd_Ask xs x := ⟨_, rfl⟩
        have HO : Aside0 ((-9223372036854775808 ≤ o.most ∧ o.most < 9223372036854775808)) := ⟨by
          have hm : o ∈ xs := by rw [ho]; unfold rd_Ask; rw [List.getD_eq_getElem?_getD, List.getElem?_eq_getElem (by omega)]; exact List.getElem_mem _
          have := bounds_i64 (HX.out.2.2.2 o hm).2.1
          omega⟩
        rw [← ho] at h0 h1 h2
        have hlt := c.1
        have HC := Aside0.mk c
        replace hx0 := eq_true hx0
        replace hlt := eq_true hlt
        clear ho hbel c
        go_upto_block 2 with (fail)
        go_cut [9] (fun v9 wc => v9 = .bool true ∧ Aside0 (Both w ga gb wc))
        case first =>
          obtain ⟨l, e, hRD, hRF, hB1, ha, hb, hne⟩ := HBoth.out
          have HG3 := Aside0.mk (blk_new wr (.cells #[.int .i64 o.kind, .int .i64 o.most, .int .i64 o.n] 46))
          have HRD := Aside0.mk (hRD.below (below_alloc (Below.refl _ _) (.cells #[.int .i64 o.kind, .int .i64 o.most, .int .i64 o.n] 46)))
          have HRF := Aside0.mk (hRF.below (below_alloc (Below.refl _ _) (.cells #[.int .i64 o.kind, .int .i64 o.most, .int .i64 o.n] 46)))
          have HB1 := Aside0.mk (below_alloc hB1 (.cells #[.int .i64 o.kind, .int .i64 o.most, .int .i64 o.n] 46))
          have HA := Aside0.mk ha
          have HBB := Aside0.mk hb
          have HNE := Aside0.mk hne
          have HGO : Aside0 (wr.heap.size ≠ ga ∧ wr.heap.size ≠ gb) := ⟨by have := hRD.lt; have := hRF.lt; omega⟩
          clear hRD hRF hB1 ha hb hne HBoth h0 h1 h2 cb1 cb2 hx0 hlt
          generalize hwo : wr.alloc _ = wo at HG3 HRD HRF HB1 ⊢
          clear hwo
          have hc1 := blk_at HG3.out (i := 1) rfl
          have hc2 := blk_at HG3.out (i := 2) rfl
          by_cases n0 : o.kind = 0
          · have k0 : (o.kind == 0) = true := beq_iff_eq.mpr n0
            clear n0
            go_wp2_with fail
            refine (rd_Num _ _ _ _ HRD.out).mono ?_
            rintro en wa ⟨rfl, hRa, hUa⟩
            have HRb := Aside0.mk (HRF.out.upd hUa (fun h => HNE.out h.symm))
            have HRa := Aside0.mk hRa
            have HUa := Aside0.mk hUa
            clear hRa hUa
            go_wp2_with fail
            refine (rf_Num _ _ _ _ HRb.out).mono ?_
            rintro en wb ⟨rfl, hRb, hUb⟩
            have HN := Aside0.mk (Both.next HB1.out HA.out HBB.out HNE.out HRa.out HUa.out hRb hUb)
            clear hRb hUb
            go_wp2
            go_meet
            case rel => exact ⟨by first | rfl | simp, HN⟩
          · have k0 : (o.kind == 0) = false := beq_eq_false_iff_ne.mpr n0
            clear n0
            by_cases n1 : o.kind = 1
            · have k1 : (o.kind == 1) = true := beq_iff_eq.mpr n1
              clear n1
              go_wp2_with fail
              refine start_ (n := 10) (S := fun w' => w'.cell? ⟨wr.heap.size, 1, none⟩ = some (.int .i64 o.most)) (ds := []) #[false, false, false, false, false, false, false, false, false, false] (by kernel_rfl) rfl rfl (blk_at (i := 1) HG3.out rfl) (fun hHeld => ?_)
              refine pure_ (i := 0) (N := some 50) (v := ?_) (a' := ?_) #[true, false, false, false, false, false, false, false, false, false] rfl rfl (by kernel_rfl) (fun _ _ _ h => h) (Or.inl ⟨by rfl, ?_⟩) ?_ ?_
              rotate_left
              · intro w'
                go_simp
                with_reducible rfl
              rotate_left
              · simp only [Act.put, List.setIfInBounds_toArray, List.set_cons_zero, List.set_cons_succ, i64_w, i32_w]
                rfl
              refine pure_ (i := 1) (N := some 51) (v := ?_) (a' := ?_) #[true, true, false, false, false, false, false, false, false, false] rfl rfl (by kernel_rfl) (fun _ _ _ h => h) (Or.inl ⟨by rfl, ?_⟩) ?_ ?_
              rotate_left
              · intro w'
                go_simp
                with_reducible rfl
              rotate_left
              · simp only [Act.put, List.setIfInBounds_toArray, List.set_cons_zero, List.set_cons_succ, i64_w, i32_w]
                rfl
              refine pure_ (i := 4) (N := some 54) (v := ?_) (a' := ?_) #[true, true, false, false, true, false, false, false, false, false] rfl rfl (by kernel_rfl) (fun _ _ _ h => h) (Or.inl ⟨by rfl, ?_⟩) ?_ ?_
              rotate_left
              · intro w'
                go_simp
                with_reducible rfl
              rotate_left
              · simp only [Act.put, List.setIfInBounds_toArray, List.set_cons_zero, List.set_cons_succ, i64_w, i32_w]
                rfl
              refine pure_ (i := 5) (N := some 55) (v := ?_) (a' := ?_) #[true, true, false, false, true, true, false, false, false, false] rfl rfl (by kernel_rfl) (fun _ _ _ h => h) (Or.inl ⟨by rfl, ?_⟩) ?_ ?_
              rotate_left
              · intro w'
                go_simp
                with_reducible rfl
              rotate_left
              · simp only [Act.put, List.setIfInBounds_toArray, List.set_cons_zero, List.set_cons_succ, i64_w, i32_w]
                rfl
              refine take_ (i := 2) (N := some 52) (v := ?_) (a' := ?_) #[true, true, true, false, true, true, false, false, false, false] rfl rfl (by kernel_rfl) (fun _ _ _ h => h) (Or.inl ⟨by rfl, ?_⟩) hHeld ?_ ?_
              rotate_left
              · intro w' s0
                go_simp
                with_reducible rfl
              rotate_left
              · simp only [Act.put, List.setIfInBounds_toArray, List.set_cons_zero, List.set_cons_succ, i64_w, i32_w]
                rfl
              refine take_ (i := 6) (N := some 56) (v := ?_) (a' := ?_) #[true, true, true, false, true, true, true, false, false, false] rfl rfl (by kernel_rfl) (fun _ _ _ h => h) (Or.inl ⟨by rfl, ?_⟩) hHeld ?_ ?_
              rotate_left
              · intro w' s0
                go_simp
                with_reducible rfl
              rotate_left
              · simp only [Act.put, List.setIfInBounds_toArray, List.set_cons_zero, List.set_cons_succ, i64_w, i32_w]
                rfl
              refine one_ (i := 3) (N := some 53) #[true, true, true, true, true, true, true, false, false, false] rfl rfl (by kernel_rfl) (by decide) (fun K hK => ?_)
              refine goes_ Try.func30 (by kernel_rfl) rfl #[.pointer (some ⟨ga, 0, none⟩), .int .i64 o.most] (by rfl) rfl rfl (by simp only [List.map_toArray, List.map_cons, List.map_nil]; rfl) ?_
              with_reducible refine (rd_Int _ _ _ _ _ (HRD.out.below (below_drew (Below.refl _ _))) HO.out).mono ?_
              rintro en wa ⟨rfl, hRa, hUa⟩
              refine ⟨_, rfl, ?_⟩
              have HRb := Aside0.mk ((HRF.out.below (below_drew (Below.refl _ _))).upd hUa (fun h => HNE.out h.symm))
              have HRa := Aside0.mk hRa
              have HUa := Aside0.mk hUa
              have HGa := Aside0.mk (show wa.heap[wr.heap.size]? = _ from hUa.blk (show wo.drew.heap[wr.heap.size]? = _ from HG3.out) (fun h => HGO.out.1 h))
              refine hK.out _ _ (blk_at (i := 1) HGa.out rfl) (fun hHeld => ?_)
              clear hK K
              refine norm_ (a' := ?_) ?_ ?_
              rotate_left
              · show Act.put _ (some 53) _ = _
                simp only [Act.put, List.setIfInBounds_toArray, List.set_cons_zero, List.set_cons_succ, i64_w, i32_w]
                rfl
              refine one_ (i := 7) (N := some 57) #[true, true, true, true, true, true, true, true, false, false] rfl rfl (by kernel_rfl) (by decide) (fun K hK => ?_)
              refine goes_ Try.func31 (by kernel_rfl) rfl #[.pointer (some ⟨gb, 0, none⟩), .int .i64 o.most] (by rfl) rfl rfl (by simp only [List.map_toArray, List.map_cons, List.map_nil]; rfl) ?_
              with_reducible refine (rf_Int _ _ _ _ _ HRb.out HO.out).mono ?_
              rintro en wb ⟨rfl, hRb, hUb⟩
              refine ⟨_, rfl, ?_⟩
              have HN := Aside0.mk (Both.next (w := w) (W := wo.drew) (below_drew HB1.out) HA.out HBB.out HNE.out HRa.out HUa.out hRb hUb)
              have HGb := Aside0.mk (show wb.heap[wr.heap.size]? = _ from hUb.blk HGa.out (fun h => HGO.out.2 h))
              refine hK.out _ _ (blk_at (i := 1) HGb.out rfl) (fun hHeld => ?_)
              clear hK K
              refine norm_ (a' := ?_) ?_ ?_
              rotate_left
              · show Act.put _ (some 57) _ = _
                simp only [Act.put, List.setIfInBounds_toArray, List.set_cons_zero, List.set_cons_succ, i64_w, i32_w]
                rfl
              refine pure_ (i := 8) (N := some 58) (v := ?_) (a' := ?_) #[true, true, true, true, true, true, true, true, true, false] rfl rfl (by kernel_rfl) (fun _ _ _ h => h) (Or.inl ⟨by rfl, ?_⟩) ?_ ?_
              rotate_left
              · intro w'
                go_simp
                with_reducible rfl
              rotate_left
              · simp only [Act.put, List.setIfInBounds_toArray, List.set_cons_zero, List.set_cons_succ, i64_w, i32_w]
                rfl
              refine pure_ (i := 9) (N := some 9) (v := ?_) (a' := ?_) #[true, true, true, true, true, true, true, true, true, true] rfl rfl (by kernel_rfl) (fun _ _ _ h => h) (Or.inl ⟨by rfl, ?_⟩) ?_ ?_
              rotate_left
              · intro w'
                go_simp
                with_reducible rfl
              rotate_left
              · simp only [Act.put, List.setIfInBounds_toArray, List.set_cons_zero, List.set_cons_succ, i64_w, i32_w]
                rfl
              refine done_ (by kernel_rfl) ?_
              go_wp2
              go_meet
              case rel => exact ⟨by first | rfl | simp, HN⟩
            · have k1 : (o.kind == 1) = false := beq_eq_false_iff_ne.mpr n1
              clear n1
              by_cases n2 : o.kind = 2
              · have k2 : (o.kind == 2) = true := beq_iff_eq.mpr n2
                clear n2
                go_wp2_with fail
                refine (rd_Signed _ _ _ _ HRD.out).mono ?_
                rintro en wa ⟨rfl, hRa, hUa⟩
                have HRb := Aside0.mk (HRF.out.upd hUa (fun h => HNE.out h.symm))
                have HRa := Aside0.mk hRa
                have HUa := Aside0.mk hUa
                clear hRa hUa
                go_wp2_with fail
                refine (rf_Signed _ _ _ _ HRb.out).mono ?_
                rintro en wb ⟨rfl, hRb, hUb⟩
                have HN := Aside0.mk (Both.next HB1.out HA.out HBB.out HNE.out HRa.out HUa.out hRb hUb)
                clear hRb hUb
                go_wp2
                go_meet
                case rel => exact ⟨by first | rfl | simp, HN⟩
              · have k2 : (o.kind == 2) = false := beq_eq_false_iff_ne.mpr n2
                clear n2
                by_cases n3 : o.kind = 3
                · have k3 : (o.kind == 3) = true := beq_iff_eq.mpr n3
                  clear n3
                  go_wp2_with fail
                  refine start_ (n := 10) (S := fun w' => w'.cell? ⟨wr.heap.size, 1, none⟩ = some (.int .i64 o.most)) (ds := []) #[false, false, false, false, false, false, false, false, false, false] (by kernel_rfl) rfl rfl (blk_at (i := 1) HG3.out rfl) (fun hHeld => ?_)
                  refine pure_ (i := 0) (N := some 68) (v := ?_) (a' := ?_) #[true, false, false, false, false, false, false, false, false, false] rfl rfl (by kernel_rfl) (fun _ _ _ h => h) (Or.inl ⟨by rfl, ?_⟩) ?_ ?_
                  rotate_left
                  · intro w'
                    go_simp
                    with_reducible rfl
                  rotate_left
                  · simp only [Act.put, List.setIfInBounds_toArray, List.set_cons_zero, List.set_cons_succ, i64_w, i32_w]
                    rfl
                  refine pure_ (i := 1) (N := some 69) (v := ?_) (a' := ?_) #[true, true, false, false, false, false, false, false, false, false] rfl rfl (by kernel_rfl) (fun _ _ _ h => h) (Or.inl ⟨by rfl, ?_⟩) ?_ ?_
                  rotate_left
                  · intro w'
                    go_simp
                    with_reducible rfl
                  rotate_left
                  · simp only [Act.put, List.setIfInBounds_toArray, List.set_cons_zero, List.set_cons_succ, i64_w, i32_w]
                    rfl
                  refine pure_ (i := 4) (N := some 72) (v := ?_) (a' := ?_) #[true, true, false, false, true, false, false, false, false, false] rfl rfl (by kernel_rfl) (fun _ _ _ h => h) (Or.inl ⟨by rfl, ?_⟩) ?_ ?_
                  rotate_left
                  · intro w'
                    go_simp
                    with_reducible rfl
                  rotate_left
                  · simp only [Act.put, List.setIfInBounds_toArray, List.set_cons_zero, List.set_cons_succ, i64_w, i32_w]
                    rfl
                  refine pure_ (i := 5) (N := some 73) (v := ?_) (a' := ?_) #[true, true, false, false, true, true, false, false, false, false] rfl rfl (by kernel_rfl) (fun _ _ _ h => h) (Or.inl ⟨by rfl, ?_⟩) ?_ ?_
                  rotate_left
                  · intro w'
                    go_simp
                    with_reducible rfl
                  rotate_left
                  · simp only [Act.put, List.setIfInBounds_toArray, List.set_cons_zero, List.set_cons_succ, i64_w, i32_w]
                    rfl
                  refine take_ (i := 2) (N := some 70) (v := ?_) (a' := ?_) #[true, true, true, false, true, true, false, false, false, false] rfl rfl (by kernel_rfl) (fun _ _ _ h => h) (Or.inl ⟨by rfl, ?_⟩) hHeld ?_ ?_
                  rotate_left
                  · intro w' s0
                    go_simp
                    with_reducible rfl
                  rotate_left
                  · simp only [Act.put, List.setIfInBounds_toArray, List.set_cons_zero, List.set_cons_succ, i64_w, i32_w]
                    rfl
                  refine take_ (i := 6) (N := some 74) (v := ?_) (a' := ?_) #[true, true, true, false, true, true, true, false, false, false] rfl rfl (by kernel_rfl) (fun _ _ _ h => h) (Or.inl ⟨by rfl, ?_⟩) hHeld ?_ ?_
                  rotate_left
                  · intro w' s0
                    go_simp
                    with_reducible rfl
                  rotate_left
                  · simp only [Act.put, List.setIfInBounds_toArray, List.set_cons_zero, List.set_cons_succ, i64_w, i32_w]
                    rfl
                  refine one_ (i := 3) (N := some 71) #[true, true, true, true, true, true, true, false, false, false] rfl rfl (by kernel_rfl) (by decide) (fun K hK => ?_)
                  refine goes_ Try.func34 (by kernel_rfl) rfl #[.pointer (some ⟨ga, 0, none⟩), .int .i64 o.most] (by rfl) rfl rfl (by simp only [List.map_toArray, List.map_cons, List.map_nil]; rfl) ?_
                  with_reducible refine (rd_Text _ _ _ _ _ (HRD.out.below (below_drew (Below.refl _ _))) HO.out).mono ?_
                  rintro en wa ⟨rfl, hRa, hUa⟩
                  refine ⟨_, rfl, ?_⟩
                  have HRb := Aside0.mk ((HRF.out.below (below_drew (Below.refl _ _))).upd hUa (fun h => HNE.out h.symm))
                  have HRa := Aside0.mk hRa
                  have HUa := Aside0.mk hUa
                  have HGa := Aside0.mk (show wa.heap[wr.heap.size]? = _ from hUa.blk (show wo.drew.heap[wr.heap.size]? = _ from HG3.out) (fun h => HGO.out.1 h))
                  refine hK.out _ _ (blk_at (i := 1) HGa.out rfl) (fun hHeld => ?_)
                  clear hK K
                  refine norm_ (a' := ?_) ?_ ?_
                  rotate_left
                  · show Act.put _ (some 71) _ = _
                    simp only [Act.put, List.setIfInBounds_toArray, List.set_cons_zero, List.set_cons_succ, i64_w, i32_w]
                    rfl
                  refine one_ (i := 7) (N := some 75) #[true, true, true, true, true, true, true, true, false, false] rfl rfl (by kernel_rfl) (by decide) (fun K hK => ?_)
                  refine goes_ Try.func35 (by kernel_rfl) rfl #[.pointer (some ⟨gb, 0, none⟩), .int .i64 o.most] (by rfl) rfl rfl (by simp only [List.map_toArray, List.map_cons, List.map_nil]; rfl) ?_
                  with_reducible refine (rf_Text _ _ _ _ _ HRb.out HO.out).mono ?_
                  rintro en wb ⟨rfl, hRb, hUb⟩
                  refine ⟨_, rfl, ?_⟩
                  have HN := Aside0.mk (Both.next (w := w) (W := wo.drew) (below_drew HB1.out) HA.out HBB.out HNE.out HRa.out HUa.out hRb hUb)
                  have HGb := Aside0.mk (show wb.heap[wr.heap.size]? = _ from hUb.blk HGa.out (fun h => HGO.out.2 h))
                  refine hK.out _ _ (blk_at (i := 1) HGb.out rfl) (fun hHeld => ?_)
                  clear hK K
                  refine norm_ (a' := ?_) ?_ ?_
                  rotate_left
                  · show Act.put _ (some 75) _ = _
                    simp only [Act.put, List.setIfInBounds_toArray, List.set_cons_zero, List.set_cons_succ, i64_w, i32_w]
                    rfl
                  refine pure_ (i := 8) (N := some 76) (v := ?_) (a' := ?_) #[true, true, true, true, true, true, true, true, true, false] rfl rfl (by kernel_rfl) (fun _ _ _ h => h) (Or.inl ⟨by rfl, ?_⟩) ?_ ?_
                  rotate_left
                  · intro w'
                    go_simp
                    with_reducible rfl
                  rotate_left
                  · simp only [Act.put, List.setIfInBounds_toArray, List.set_cons_zero, List.set_cons_succ, i64_w, i32_w]
                    rfl
                  refine pure_ (i := 9) (N := some 9) (v := ?_) (a' := ?_) #[true, true, true, true, true, true, true, true, true, true] rfl rfl (by kernel_rfl) (fun _ _ _ h => h) (Or.inl ⟨by rfl, ?_⟩) ?_ ?_
                  rotate_left
                  · intro w'
                    go_simp
                    with_reducible rfl
                  rotate_left
                  · simp only [Act.put, List.setIfInBounds_toArray, List.set_cons_zero, List.set_cons_succ, i64_w, i32_w]
                    rfl
                  refine done_ (by kernel_rfl) ?_
                  go_wp2
                  go_meet
                  case rel => exact ⟨by first | rfl | simp, HN⟩
                · have k3 : (o.kind == 3) = false := beq_eq_false_iff_ne.mpr n3
                  clear n3
                  by_cases n4 : o.kind = 4
                  · have k4 : (o.kind == 4) = true := beq_iff_eq.mpr n4
                    clear n4
                    go_wp2_with fail
                    refine (rd_Fail _ _ _ _ _ HRD.out).mono ?_
                    rintro en wa ⟨rfl, hRa, hUa⟩
                    have HRb := Aside0.mk (HRF.out.upd hUa (fun h => HNE.out h.symm))
                    have hc2 := hUa.cell (blk_at HG3.out (i := 2) rfl) (fun h => HGO.out.1 h)
                    have HRa := Aside0.mk hRa
                    have HUa := Aside0.mk hUa
                    clear hRa hUa
                    go_wp2_with fail
                    refine (rf_Fail _ _ _ _ _ HRb.out).mono ?_
                    rintro en wb ⟨rfl, hRb, hUb⟩
                    have HN := Aside0.mk (Both.next HB1.out HA.out HBB.out HNE.out HRa.out HUa.out hRb hUb)
                    clear hRb hUb
                    go_wp2
                    go_meet
                    case rel => exact ⟨by first | rfl | simp, HN⟩
                  · have k4 : (o.kind == 4) = false := beq_eq_false_iff_ne.mpr n4
                    clear n4
                    go_wp2_with fail
                    refine (rd_End _ _ _ _ HRD.out).mono ?_
                    rintro en wa ⟨rfl, hRa, hUa⟩
                    have HRb := Aside0.mk (HRF.out.upd hUa (fun h => HNE.out h.symm))
                    have HRa := Aside0.mk hRa
                    have HUa := Aside0.mk hUa
                    clear hRa hUa
                    go_wp2_with fail
                    refine (rf_End _ _ _ _ HRb.out).mono ?_
                    rintro en wb ⟨rfl, hRb, hUb⟩
                    have HN := Aside0.mk (Both.next HB1.out HA.out HBB.out HNE.out HRa.out HUa.out hRb hUb)
                    clear hRb hUb
                    go_wp2
                    go_meet
                    case rel => exact ⟨by first | rfl | simp, HN⟩
        case rest =>
          obtain ⟨rfl, HBoth⟩ := hcut
          have HBN := HBoth
          obtain ⟨l, e, hRD, hRF, _, _, _, _⟩ := HBoth.out
          have HRD := Aside0.mk hRD
          have HRF := Aside0.mk hRF
          obtain ⟨S, t, hG, _⟩ := hRF
          have HG := Aside0.mk hG
          clear hG hRD HBoth h0 h1 h2 cb1 cb2 hx0 hlt
          have hx0 : 0 ≤ x := HK.out.1
          have hx1 : x ≤ 60 := HK.out.2.1
          go_wp2_with fail
          refine start_ (n := 18) (S := fun w' => w'.cell? ⟨gb, 2, none⟩ = some (.int .i64 e)) (ds := []) #[false, false, false, false, false, false, false, false, false, false, false, false, false, false, false, false, false, false] (by kernel_rfl) rfl rfl (blk_at (i := 2) HG.out rfl) (fun hHeld => ?_)
          refine pure_ (i := 0) (N := some 87) (v := ?_) (a' := ?_) #[true, false, false, false, false, false, false, false, false, false, false, false, false, false, false, false, false, false] rfl rfl (by kernel_rfl) (fun _ _ _ h => h) (Or.inl ⟨by rfl, ?_⟩) ?_ ?_
          rotate_left
          · intro w'
            go_simp
            with_reducible rfl
          rotate_left
          · simp only [Act.put, List.setIfInBounds_toArray, List.set_cons_zero, List.set_cons_succ, i64_w, i32_w]
            rfl
          refine pure_ (i := 1) (N := some 88) (v := ?_) (a' := ?_) #[true, true, false, false, false, false, false, false, false, false, false, false, false, false, false, false, false, false] rfl rfl (by kernel_rfl) (fun _ _ _ h => h) (Or.inl ⟨by rfl, ?_⟩) ?_ ?_
          rotate_left
          · intro w'
            go_simp
            with_reducible rfl
          rotate_left
          · simp only [Act.put, List.setIfInBounds_toArray, List.set_cons_zero, List.set_cons_succ, i64_w, i32_w]
            rfl
          refine pure_ (i := 2) (N := some 89) (v := ?_) (a' := ?_) #[true, true, true, false, false, false, false, false, false, false, false, false, false, false, false, false, false, false] rfl rfl (by kernel_rfl) (fun _ _ _ h => h) (Or.inl ⟨by rfl, ?_⟩) ?_ ?_
          rotate_left
          · intro w'
            go_simp
            with_reducible rfl
          rotate_left
          · simp only [Act.put, List.setIfInBounds_toArray, List.set_cons_zero, List.set_cons_succ, i64_w, i32_w]
            rfl
          refine pure_ (i := 3) (N := some 90) (v := ?_) (a' := ?_) #[true, true, true, true, false, false, false, false, false, false, false, false, false, false, false, false, false, false] rfl rfl (by kernel_rfl) (fun _ _ _ h => h) (Or.inl ⟨by rfl, ?_⟩) ?_ ?_
          rotate_left
          · intro w'
            go_simp
            with_reducible rfl
          rotate_left
          · simp only [Act.put, List.setIfInBounds_toArray, List.set_cons_zero, List.set_cons_succ, i64_w, i32_w]
            rfl
          refine pure_ (i := 5) (N := some 92) (v := ?_) (a' := ?_) #[true, true, true, true, false, true, false, false, false, false, false, false, false, false, false, false, false, false] rfl rfl (by kernel_rfl) (fun _ _ _ h => h) (Or.inl ⟨by rfl, ?_⟩) ?_ ?_
          rotate_left
          · intro w'
            go_simp
            with_reducible rfl
          rotate_left
          · simp only [Act.put, List.setIfInBounds_toArray, List.set_cons_zero, List.set_cons_succ, i64_w, i32_w]
            rfl
          refine one_ (i := 4) (N := some 91) #[true, true, true, true, true, true, false, false, false, false, false, false, false, false, false, false, false, false] rfl rfl (by kernel_rfl) (by decide) (fun K hK => ?_)
          refine goes_ Try.func40 (by kernel_rfl) rfl #[.pointer (some ⟨ga, 0, none⟩)] (by rfl) rfl rfl (by simp only [List.map_toArray, List.map_cons, List.map_nil]; rfl) ?_
          with_reducible refine (rd_Left _ _ _ _ (HRD.out.below (below_drew (Below.refl _ _)))).mono ?_
          rintro en wa ⟨rfl, rfl⟩
          refine ⟨_, rfl, ?_⟩
          refine hK.out _ _ (blk_at (i := 2) HG.out rfl) (fun hHeld => ?_)
          clear hK K
          refine norm_ (a' := ?_) ?_ ?_
          rotate_left
          · show Act.put _ (some 91) _ = _
            simp only [Act.put, List.setIfInBounds_toArray, List.set_cons_zero, List.set_cons_succ, i64_w, i32_w]
            rfl
          refine one_ (i := 6) (N := some 93) #[true, true, true, true, true, true, true, false, false, false, false, false, false, false, false, false, false, false] rfl rfl (by kernel_rfl) (by decide) (fun K hK => ?_)
          refine goes_ Try.func41 (by kernel_rfl) rfl #[.pointer (some ⟨gb, 0, none⟩)] (by rfl) rfl rfl (by simp only [List.map_toArray, List.map_cons, List.map_nil]; rfl) ?_
          with_reducible refine (rf_Left _ _ _ _ (HRF.out.below (below_drew (Below.refl _ _)))).mono ?_
          rintro en wb ⟨rfl, nd, rfl⟩
          refine ⟨_, rfl, ?_⟩
          refine hK.out _ _ (blk_at (i := 2) HG.out rfl) (fun hHeld => ?_)
          clear hK K
          refine norm_ (a' := ?_) ?_ ?_
          rotate_left
          · show Act.put _ (some 93) _ = _
            simp only [Act.put, List.setIfInBounds_toArray, List.set_cons_zero, List.set_cons_succ, i64_w, i32_w]
            rfl
          refine pure_ (i := 7) (N := some 94) (v := ?_) (a' := ?_) #[true, true, true, true, true, true, true, true, false, false, false, false, false, false, false, false, false, false] rfl rfl (by kernel_rfl) (fun _ _ _ h => h) (Or.inl ⟨by rfl, ?_⟩) ?_ ?_
          rotate_left
          · intro w'
            go_simp
            with_reducible rfl
          rotate_left
          · simp only [Act.put, List.setIfInBounds_toArray, List.set_cons_zero, List.set_cons_succ, i64_w, i32_w]
            rfl
          refine pure_ (i := 8) (N := some 95) (v := ?_) (a' := ?_) #[true, true, true, true, true, true, true, true, true, false, false, false, false, false, false, false, false, false] rfl rfl (by kernel_rfl) (fun _ _ _ h => h) (Or.inl ⟨by rfl, ?_⟩) ?_ ?_
          rotate_left
          · intro w'
            go_simp
            with_reducible rfl
          rotate_left
          · simp only [Act.put, List.setIfInBounds_toArray, List.set_cons_zero, List.set_cons_succ, i64_w, i32_w]
            rfl
          refine pure_ (i := 9) (N := some 96) (v := ?_) (a' := ?_) #[true, true, true, true, true, true, true, true, true, true, false, false, false, false, false, false, false, false] rfl rfl (by kernel_rfl) (fun _ _ _ h => h) (Or.inl ⟨by rfl, ?_⟩) ?_ ?_
          rotate_left
          · intro w'
            go_simp
            with_reducible rfl
          rotate_left
          · simp only [Act.put, List.setIfInBounds_toArray, List.set_cons_zero, List.set_cons_succ, i64_w, i32_w]
            rfl
          refine pure_ (i := 10) (N := some 97) (v := ?_) (a' := ?_) #[true, true, true, true, true, true, true, true, true, true, true, false, false, false, false, false, false, false] rfl rfl (by kernel_rfl) (fun _ _ _ h => h) (Or.inl ⟨by rfl, ?_⟩) ?_ ?_
          rotate_left
          · intro w'
            go_simp
            with_reducible rfl
          rotate_left
          · simp only [Act.put, List.setIfInBounds_toArray, List.set_cons_zero, List.set_cons_succ, i64_w, i32_w]
            rfl
          refine pure_ (i := 12) (N := some 99) (v := ?_) (a' := ?_) #[true, true, true, true, true, true, true, true, true, true, true, false, true, false, false, false, false, false] rfl rfl (by kernel_rfl) (fun _ _ _ h => h) (Or.inl ⟨by rfl, ?_⟩) ?_ ?_
          rotate_left
          · intro w'
            go_simp
            with_reducible rfl
          rotate_left
          · simp only [Act.put, List.setIfInBounds_toArray, List.set_cons_zero, List.set_cons_succ, i64_w, i32_w]
            rfl
          refine pure_ (i := 13) (N := some 100) (v := ?_) (a' := ?_) #[true, true, true, true, true, true, true, true, true, true, true, false, true, true, false, false, false, false] rfl rfl (by kernel_rfl) (fun _ _ _ h => h) (Or.inl ⟨by rfl, ?_⟩) ?_ ?_
          rotate_left
          · intro w'
            go_simp
            with_reducible rfl
          rotate_left
          · simp only [Act.put, List.setIfInBounds_toArray, List.set_cons_zero, List.set_cons_succ, i64_w, i32_w]
            rfl
          refine pure_ (i := 14) (N := some 101) (v := ?_) (a' := ?_) #[true, true, true, true, true, true, true, true, true, true, true, false, true, true, true, false, false, false] rfl rfl (by kernel_rfl) (fun _ _ _ h => h) (Or.inl ⟨by rfl, ?_⟩) ?_ ?_
          rotate_left
          · intro w'
            go_simp
            with_reducible rfl
          rotate_left
          · simp only [Act.put, List.setIfInBounds_toArray, List.set_cons_zero, List.set_cons_succ, i64_w, i32_w]
            rfl
          refine take_ (i := 15) (N := some 102) (v := ?_) (a' := ?_) #[true, true, true, true, true, true, true, true, true, true, true, false, true, true, true, true, false, false] rfl rfl (by kernel_rfl) (fun _ _ _ h => h) (Or.inl ⟨by rfl, ?_⟩) hHeld ?_ ?_
          rotate_left
          · intro w' s0
            go_simp
            with_reducible rfl
          rotate_left
          · simp only [Act.put, List.setIfInBounds_toArray, List.set_cons_zero, List.set_cons_succ, i64_w, i32_w]
            rfl
          refine one_ (i := 11) (N := some 98) #[true, true, true, true, true, true, true, true, true, true, true, true, true, true, true, true, false, false] rfl rfl (by kernel_rfl) (by decide) (fun K hK => ?_)
          refine goes_ Try.func42 (by kernel_rfl) rfl #[.pointer (some ⟨ga, 0, none⟩)] (by rfl) rfl rfl (by simp only [List.map_toArray, List.map_cons, List.map_nil]; rfl) ?_
          with_reducible refine (rd_Err _ _ _ _ ((HRD.out.below (below_drew (Below.refl _ _))).below (pw_below_drewN (Below.refl _ _) nd))).mono ?_
          rintro en wc2 ⟨rfl, rfl⟩
          refine ⟨_, rfl, ?_⟩
          refine hK.out _ _ (blk_at (i := 2) HG.out rfl) (fun hHeld => ?_)
          clear hK K
          refine norm_ (a' := ?_) ?_ ?_
          rotate_left
          · show Act.put _ (some 98) _ = _
            simp only [Act.put, List.setIfInBounds_toArray, List.set_cons_zero, List.set_cons_succ, i64_w, i32_w]
            rfl
          refine pure_ (i := 16) (N := some 103) (v := ?_) (a' := ?_) #[true, true, true, true, true, true, true, true, true, true, true, true, true, true, true, true, true, false] rfl rfl (by kernel_rfl) (fun _ _ _ h => h) (Or.inl ⟨by rfl, ?_⟩) ?_ ?_
          rotate_left
          · intro w'
            go_simp
            with_reducible rfl
          rotate_left
          · simp only [Act.put, List.setIfInBounds_toArray, List.set_cons_zero, List.set_cons_succ, i64_w, i32_w]
            rfl
          refine pure_ (i := 17) (N := some 104) (v := ?_) (a' := ?_) #[true, true, true, true, true, true, true, true, true, true, true, true, true, true, true, true, true, true] rfl rfl (by kernel_rfl) (fun _ _ _ h => h) (Or.inl ⟨by rfl, ?_⟩) ?_ ?_
          rotate_left
          · intro w'
            go_simp
            with_reducible rfl
          rotate_left
          · simp only [Act.put, List.setIfInBounds_toArray, List.set_cons_zero, List.set_cons_succ, i64_w, i32_w]
            rfl
          refine done_ (by kernel_rfl) ?_
          go_wp2
          go_roundg (gk - 1)
          case measure => have := HK.out; omega
          case rel =>
            have hk := HK.out
            have hc := HC.out
            exact ⟨x + 1, rfl, ⟨by omega⟩, ⟨HBN.out.below (pw_below_drewN (Below.refl _ _) _)⟩⟩
      · obtain ⟨l, e, hRD, hRF, hB1, ha, hb, hne⟩ := HBoth.out
        have HRD := Aside0.mk hRD
        have HRF := Aside0.mk hRF
        have HB1 := Aside0.mk hB1
        have HA := Aside0.mk ha
        have HBB := Aside0.mk hb
        have HNE := Aside0.mk hne
        have hxl := HX.out.2.2.1
        clear hRD hRF hB1 ha hb hne HBoth
        by_cases c1 : x < xs.length
        · have cb1 : decide (x < (xs.length : Int)) = true := decide_eq_true c1
          have cb2 : decide (x < 60) = false := decide_eq_false (fun h => c ⟨c1, h⟩)
          clear c c1 hxl
          go_wp2_with fail
          refine (rd_End _ _ _ _ HRD.out).mono ?_
          rintro en wa ⟨rfl, hRa, hUa⟩
          have HRb := Aside0.mk (HRF.out.upd hUa (fun h => HNE.out h.symm))
          have HBa := Aside0.mk (hUa.after1 HB1.out HA.out)
          clear hRa hUa
          go_wp2_with fail
          refine (rf_End _ _ _ _ HRb.out).mono ?_
          rintro en wb ⟨rfl, _, hUb⟩
          have HBb := Aside0.mk (hUb.after1 HBa.out HBB.out)
          clear hUb
          go_wp2
          go_ret
          exact ⟨by first | rfl | (simp; done), HBb.out⟩
        · have cb1 : decide (x < (xs.length : Int)) = false := decide_eq_false c1
          clear c c1 hxl
          go_wp2_with fail
          refine (rd_End _ _ _ _ HRD.out).mono ?_
          rintro en wa ⟨rfl, hRa, hUa⟩
          have HRb := Aside0.mk (HRF.out.upd hUa (fun h => HNE.out h.symm))
          have HBa := Aside0.mk (hUa.after1 HB1.out HA.out)
          clear hRa hUa
          go_wp2_with fail
          refine (rf_End _ _ _ _ HRb.out).mono ?_
          rintro en wb ⟨rfl, _, hUb⟩
          have HBb := Aside0.mk (hUb.after1 HBa.out HBB.out)
          clear hUb
          go_wp2
          go_ret
          exact ⟨by first | rfl | (simp; done), HBb.out⟩

namespace codeReads
open Go.ChangeShapes Go.WideShapes Go.ChangeAt Go.RowKit
open Go.ChangeMaps (open_string shut_string)
set_option linter.unusedVariables false
theorem laidOut : laidOutB Try.prog = true := by kernel_rfl
theorem own : ownKnob Try.prog.godebug = none := by kernel_rfl
set_option maxRecDepth 100000 in
theorem lifted (os : Os) (started : os.Started) (H : Type) (enc : TypeId × Value → H) :
    ReturnsInHanded {} Try.checked os 8 .any (Rows.codeReadsSpec.pre6 enc Try.prog Try.f8 Rows.codeReadsRow.domain false) (Rows.codeReadsSpec.post enc Try.prog Try.f8 false true false false) := by
  refine returnsInHanded_of_change_sized (C := Try.checked) own started (by kernel_rfl) Try.func8
    (ChangeSpec.witness6 (enc := enc) (C := Try.checked) false ⟨#[], #[.string ByteArray.empty, .slice none 0 0], []⟩ 8 (by kernel_rfl) (by kernel_rfl) (by kernel_rfl) (by kernel_rfl)) ?_
  intro W base args ds gs before hval0 hW hcnd hsz0 _
  have hsz : (DataW.weightsEach Try.prog (Try.f8.params.toList ++ Rows.codeReadsSpec.plain.varTypes Try.prog) (ds ++ gs)).all (· ≤ reachBytes) = true := hsz0
  have hval : ∀ (j : Nat) t v, Try.f8.params[j]? = some t → args[j]? = some v → Value.okWide Try.prog W .any base t v := hval0
  have hW' := hW
  obtain ⟨p, q, hA0, hV, rfl, hfz, hnd⟩ := hW
  have hA : DataW.TrodAll enc Try.prog W 0 (fun _ => true) true Try.f8.params.toList args.toList ds p := hA0
  rw [Try.params8] at hA hval hsz
  obtain ⟨v0, vs0, d0, ds0, p0, q0, hargs, rfl, rfl, h0, r0⟩ := trodAll_cons hA
  obtain ⟨v1, vs1, d1, ds1, p1, q1, rfl, rfl, rfl, h1, r1⟩ := trodAll_cons r0
  obtain ⟨rfl, rfl, rfl⟩ := trodAll_nil r1
  obtain rfl : args = #[v0, v1] := by cases args; simp_all
  obtain ⟨rfl, rfl⟩ := trodVars_none hV
  obtain ⟨a0, rfl, rfl, rfl, y0⟩ := open_string Try.underlying9 (hval 0 9 v0 rfl rfl) h0
  have w0 : a0.size ≤ 140737488351232 := by
    have z := sized_string hsz (j := 0) (t := 9) rfl rfl
    rw [Array.length_toList] at z
    exact z
  have k1 := h1
  obtain ⟨a1, A1, c1, rfl, w1⟩ := Open.open_slice Try.underlying38 (Open.opens_slice Try.underlying38 (by kernel_rfl) opens_Ask) (hval 1 38 v1 rfl rfl) h1
  clear hA0 hval0 hsz0 hsz
  refine (CodeReads_walk a0 a1 A1 c1 W w0 w1).mono fun e W' ⟨he, bel⟩ => ?_
  subst he
  exact ⟨_, rfl, _, _, _, [], _, [], hW', trodAll_mk1 (shut_bool Try.underlying4 _), (trodAll_cons_mk (shut_string Try.underlying9 y0) (trodAll_cons_mk (Open.trod_below laidOut (by kernel_rfl) (of_decide_eq_true (by kernel_rfl)) k1 bel) trodAll_mk0)), rfl, bel.frame _, fun h => by cases h⟩
theorem over : Rows.codeReadsRow.holds Try.pinned (OpenSpec.ofChange Rows.codeReadsSpec) :=
  OpenClaim.holds_of_wide 8 Try.f8 rfl rfl rfl rfl rfl rfl rfl ⟨rfl, rfl, rfl, rfl, rfl⟩ rfl rfl rfl rfl rfl (by kernel_rfl) Try.func8 (by kernel_rfl)
    (of_decide_eq_true (by kernel_rfl)) (by unfold Func.isWrapper; first | (rw [if_pos (by decide +kernel)]; kernel_rfl) | (rw [if_neg (by decide +kernel)]; exact ⟨rfl, rfl⟩))
    (fun os started H enc _ => lifted os started H enc)
theorem proved : Rows.CodeReadsSaid := over
#print axioms proved
end codeReads
/-- The row, under a short name, for the claim. -/
theorem codeReads_holds : Rows.CodeReadsSaid := codeReads.proved
end Go.Proofs.Ytnapckkbnpocgaa
