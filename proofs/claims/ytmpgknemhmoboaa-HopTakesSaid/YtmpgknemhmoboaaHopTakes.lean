/- watershedlaw17.HopTakes returns true for every input: whatever items come, by whatever epochs, both ends take the same ones, and both came as far (only the first 100 items are looked at, as the law itself says). -/
import Derived.Test.YtmpgknemhmoboaaRows
import Derived.WalkKit
import Derived.ProofKit
import Derived.OpenShut
import Derived.ShutString
import Derived.ChangeOld
import Derived.Below
import Derived.SizedLaws
import Derived.Deep.CutBlock
import Derived.Deep.DeepCutAuto
import Derived.Test.YtmpgknemhmoboaaC17
import Derived.Test.YtmpgknemhmoboaaOpen
namespace Go.Proofs.Ytmpgknemhmoboaa
set_option linter.unusedSimpArgs false
open Go.RowKit C17 Base Go.Proofs.YtmpgknemhmoboaaW.PrintWords Go.Proofs.YtmpgknemhmoboaaW.PrintLast Go.Proofs.YtmpgknemhmoboaaW.PrintMore

/-- Both ends, one beside the other. -/
def HBoth (w : World) (ga gb : Nat) (x : Int) (W : World) : Prop := ∃ e l, RV W ga e l ∧ RW W gb e l ∧ 0 ≤ l ∧ l ≤ 1099511627776 + x ∧ Below w.heap.size w W ∧ w.heap.size ≤ ga ∧ w.heap.size ≤ gb ∧ ga ≠ gb

theorem took_range {e l ep n x : Int} (h0 : 0 ≤ l) (h1 : l ≤ 1099511627776 + x) : 0 ≤ (took e l ep n).2.2 ∧ (took e l ep n).2.2 ≤ 1099511627776 + (x + 1) := by
  unfold took
  split
  · exact ⟨h0, by simp only; omega⟩
  · split
    · exact ⟨by simp only; omega, by simp only; omega⟩
    · exact ⟨h0, by simp only; omega⟩

set_option maxRecDepth 100000 in
set_option maxHeartbeats 4000000 in
theorem HopTakes_walk (last : Int) (xs : List Int) (A : Option Addr) (c : Nat) (ys : List Int) (B : Option Addr) (d : Nat) (w : World) (_hl : -9223372036854775808 ≤ last ∧ last < 9223372036854775808) (hx : xs.length ≤ c ∧ Kd.C (Kd.int .i64) w A xs.length xs ∧ xs.length ≤ 9223372036854775807 ∧ ∀ x ∈ xs, (Lit.int .i64 x).wf = true) (hy : ys.length ≤ d ∧ Kd.C (Kd.int .i64) w B ys.length ys ∧ ys.length ≤ 9223372036854775807 ∧ ∀ x ∈ ys, (Lit.int .i64 x).wf = true) :
    Calls Try.prog 3 #[.int .i64 last, .slice A xs.length c, .slice B ys.length d] w fun e w' => e = .returned (.bool true) ∧ Below w.heap.size w w' := by
  have HB := Aside0.mk (Below.refl w.heap.size w)
  have HX := Aside0.mk hx
  have HY := Aside0.mk hy
  clear hx hy
  by_cases c : 0 ≤ last ∧ last ≤ 1099511627776
  · have HC := Aside0.mk c
    clear c
    go_enter Try.func3, Try.ntmps3
    go_wp2_with fail
    refine (hop_NewReceiver _ _).mono ?_
    rintro e w1 ⟨h1, -, hb⟩
    obtain ⟨ga, hga, rfl, hR⟩ := h1 HC.out
    replace HB := Aside0.mk (below_step HB.out hb)
    have HR := Aside0.mk hR
    have HGA := Aside0.mk hga
    clear hR hb hga h1
    go_wp2_with fail
    refine (ref_NewReceiver _ _).mono ?_
    rintro e w2 ⟨h1, -, hb⟩
    obtain ⟨gb, hgb, rfl, hR2⟩ := h1 HC.out
    have HBoth0 : Aside0 (HBoth w ga gb 0 w2) := ⟨⟨0, last, (HR.out).upd (Upd.of_below (F := fun _ => False) hb) (fun x => x), hR2, HC.out.1, by have := HC.out; omega, below_step HB.out hb, HGA.out, by have := HB.out.size; omega, by have := HR.out.lt; omega⟩⟩
    clear hR2 hb hgb h1 HB HR HGA
    go_wp2
    go_loopg [11] 101 (fun kq v11 W' => ∃ x : Int, v11 = .int .i64 x ∧ Aside0 (0 ≤ x ∧ x ≤ 100 ∧ x + kq = 101) ∧ Aside0 (HBoth w ga gb x W'))
    case atStart => exact ⟨0, rfl, ⟨by omega⟩, HBoth0⟩
    case round =>
      clear HBoth0
      obtain ⟨x, rfl, HK, HBoth⟩ := hrel
      by_cases c1 : x < xs.length
      · have cb1 : decide (x < (xs.length : Int)) = true := decide_eq_true c1
        by_cases c2 : x < ys.length
        · have cb2 : decide (x < (ys.length : Int)) = true := decide_eq_true c2
          by_cases c3 : x < 100
          · have cb3 : decide (x < 100) = true := decide_eq_true c3
            have hx0 : 0 ≤ x := HK.out.1
            obtain ⟨ad, rfl, h0⟩ := Open.at_num HX.out.2.1 x hx0 c1
            obtain ⟨bd, rfl, h1⟩ := Open.at_num HY.out.2.1 x hx0 c2
            obtain ⟨e, l, hRV, hRW, hl0, hl1, hBl, hga, hgb, hne⟩ := HBoth.out
            have hba : ad.block < w.heap.size := by have := World.block_lt_of_cell? w _ h0; rwa [show (ad.add x.toNat).block = ad.block from by unfold Addr.add; split <;> rfl] at this
            have hbb : bd.block < w.heap.size := by have := World.block_lt_of_cell? w _ h1; rwa [show (bd.add x.toNat).block = bd.block from by unfold Addr.add; split <;> rfl] at this
            have H0 := Aside0.mk (show wr.cell? (ad.add x.toNat) = _ from (hBl.cell (World.block_lt_of_cell? w _ h0)).trans h0)
            have H1 := Aside0.mk (show wr.cell? (bd.add x.toNat) = _ from (hBl.cell (World.block_lt_of_cell? w _ h1)).trans h1)
            have hab : (ad.add x.toNat).block = ad.block := by unfold Addr.add; split <;> rfl
            have hbb2 : (bd.add x.toNat).block = bd.block := by unfold Addr.add; split <;> rfl
            obtain ⟨p, hp⟩ : ∃ p, p = xs.getD x.toNat 0 := ⟨_, rfl⟩
            obtain ⟨q, hq⟩ : ∃ q, q = ys.getD x.toNat 0 := ⟨_, rfl⟩
            have HQ : Aside0 (q < 9223372036854775808) := ⟨by
              have hm : q ∈ ys := by rw [hq, List.getD_eq_getElem?_getD, List.getElem?_eq_getElem (by omega)]; exact List.getElem_mem _
              have := bounds_i64 (HY.out.2.2.2 q hm)
              omega⟩
            rw [← hp] at H0
            rw [← hq] at H1
            have HN : Aside0 ((ad.add x.toNat).block ≠ ga ∧ (bd.add x.toNat).block ≠ ga ∧ (ad.add x.toNat).block ≠ gb ∧ (bd.add x.toNat).block ≠ gb) := ⟨by omega⟩
            have HRV := Aside0.mk hRV
            have HRW := Aside0.mk hRW
            have HL : Aside0 (0 ≤ l ∧ l ≤ 1099511627776 + x) := ⟨⟨hl0, hl1⟩⟩
            have HLL : Aside0 (0 ≤ l ∧ l < 4611686018427387904) := ⟨by omega⟩
            have HBl := Aside0.mk hBl
            have HGA := Aside0.mk hga
            have HGB := Aside0.mk hgb
            have HNE := Aside0.mk hne
            have hlt := eq_true c1
            have hlt2 := eq_true c2
            have hc0 := H0.out
            have hc1 := H1.out
            have hxm : x ≤ 99 := by omega
            clear hRV hRW hl0 hl1 hBl hga hgb hne hba hbb hab hbb2 h0 h1 hp hq c1 c2 c3 HBoth
            replace hx0 := eq_true hx0
            go_wp2_with fail
            refine start_ (n := 21) (S := fun w' => w'.cell? (ad.add x.toNat) = some (.int .i64 p) ∧ w'.cell? (bd.add x.toNat) = some (.int .i64 q)) (ds := []) #[false, false, false, false, false, false, false, false, false, false, false, false, false, false, false, false, false, false, false, false, false] (by kernel_rfl) rfl rfl ⟨hc0, hc1⟩ (fun hHeld => ?_)
            refine pure_ (i := 0) (N := some 62) (v := ?_) (a' := ?_) #[true, false, false, false, false, false, false, false, false, false, false, false, false, false, false, false, false, false, false, false, false] rfl rfl (by kernel_rfl) (fun _ _ _ h => h) (Or.inl ⟨by rfl, ?_⟩) ?_ ?_
            rotate_left
            · intro w'
              go_simp
              with_reducible rfl
            rotate_left
            · simp only [Act.put, List.setIfInBounds_toArray, List.set_cons_zero, List.set_cons_succ, i64_w, i32_w]
              rfl
            refine pure_ (i := 1) (N := some 63) (v := ?_) (a' := ?_) #[true, true, false, false, false, false, false, false, false, false, false, false, false, false, false, false, false, false, false, false, false] rfl rfl (by kernel_rfl) (fun _ _ _ h => h) (Or.inl ⟨by rfl, ?_⟩) ?_ ?_
            rotate_left
            · intro w'
              go_simp
              with_reducible rfl
            rotate_left
            · simp only [Act.put, List.setIfInBounds_toArray, List.set_cons_zero, List.set_cons_succ, i64_w, i32_w]
              rfl
            refine pure_ (i := 2) (N := some 64) (v := ?_) (a' := ?_) #[true, true, true, false, false, false, false, false, false, false, false, false, false, false, false, false, false, false, false, false, false] rfl rfl (by kernel_rfl) (fun _ _ _ h => h) (Or.inl ⟨by rfl, ?_⟩) ?_ ?_
            rotate_left
            · intro w'
              go_simp
              with_reducible rfl
            rotate_left
            · simp only [Act.put, List.setIfInBounds_toArray, List.set_cons_zero, List.set_cons_succ, i64_w, i32_w]
              rfl
            refine pure_ (i := 3) (N := some 65) (v := ?_) (a' := ?_) #[true, true, true, true, false, false, false, false, false, false, false, false, false, false, false, false, false, false, false, false, false] rfl rfl (by kernel_rfl) (fun _ _ _ h => h) (Or.inl ⟨by rfl, ?_⟩) ?_ ?_
            rotate_left
            · intro w'
              go_simp
              with_reducible rfl
            rotate_left
            · simp only [Act.put, List.setIfInBounds_toArray, List.set_cons_zero, List.set_cons_succ, i64_w, i32_w]
              rfl
            refine pure_ (i := 5) (N := some 67) (v := ?_) (a' := ?_) #[true, true, true, true, false, true, false, false, false, false, false, false, false, false, false, false, false, false, false, false, false] rfl rfl (by kernel_rfl) (fun _ _ _ h => h) (Or.inl ⟨by rfl, ?_⟩) ?_ ?_
            rotate_left
            · intro w'
              go_simp
              with_reducible rfl
            rotate_left
            · simp only [Act.put, List.setIfInBounds_toArray, List.set_cons_zero, List.set_cons_succ, i64_w, i32_w]
              rfl
            refine pure_ (i := 6) (N := some 68) (v := ?_) (a' := ?_) #[true, true, true, true, false, true, true, false, false, false, false, false, false, false, false, false, false, false, false, false, false] rfl rfl (by kernel_rfl) (fun _ _ _ h => h) (Or.inl ⟨by rfl, ?_⟩) ?_ ?_
            rotate_left
            · intro w'
              go_simp
              with_reducible rfl
            rotate_left
            · simp only [Act.put, List.setIfInBounds_toArray, List.set_cons_zero, List.set_cons_succ, i64_w, i32_w]
              rfl
            refine pure_ (i := 7) (N := some 69) (v := ?_) (a' := ?_) #[true, true, true, true, false, true, true, true, false, false, false, false, false, false, false, false, false, false, false, false, false] rfl rfl (by kernel_rfl) (fun _ _ _ h => h) (Or.inl ⟨by rfl, ?_⟩) ?_ ?_
            rotate_left
            · intro w'
              go_simp
              with_reducible rfl
            rotate_left
            · simp only [Act.put, List.setIfInBounds_toArray, List.set_cons_zero, List.set_cons_succ, i64_w, i32_w]
              rfl
            refine pure_ (i := 10) (N := some 72) (v := ?_) (a' := ?_) #[true, true, true, true, false, true, true, true, false, false, true, false, false, false, false, false, false, false, false, false, false] rfl rfl (by kernel_rfl) (fun _ _ _ h => h) (Or.inl ⟨by rfl, ?_⟩) ?_ ?_
            rotate_left
            · intro w'
              go_simp
              with_reducible rfl
            rotate_left
            · simp only [Act.put, List.setIfInBounds_toArray, List.set_cons_zero, List.set_cons_succ, i64_w, i32_w]
              rfl
            refine pure_ (i := 11) (N := some 73) (v := ?_) (a' := ?_) #[true, true, true, true, false, true, true, true, false, false, true, true, false, false, false, false, false, false, false, false, false] rfl rfl (by kernel_rfl) (fun _ _ _ h => h) (Or.inl ⟨by rfl, ?_⟩) ?_ ?_
            rotate_left
            · intro w'
              go_simp
              with_reducible rfl
            rotate_left
            · simp only [Act.put, List.setIfInBounds_toArray, List.set_cons_zero, List.set_cons_succ, i64_w, i32_w]
              rfl
            refine pure_ (i := 12) (N := some 74) (v := ?_) (a' := ?_) #[true, true, true, true, false, true, true, true, false, false, true, true, true, false, false, false, false, false, false, false, false] rfl rfl (by kernel_rfl) (fun _ _ _ h => h) (Or.inl ⟨by rfl, ?_⟩) ?_ ?_
            rotate_left
            · intro w'
              go_simp
              with_reducible rfl
            rotate_left
            · simp only [Act.put, List.setIfInBounds_toArray, List.set_cons_zero, List.set_cons_succ, i64_w, i32_w]
              rfl
            refine pure_ (i := 13) (N := some 75) (v := ?_) (a' := ?_) #[true, true, true, true, false, true, true, true, false, false, true, true, true, true, false, false, false, false, false, false, false] rfl rfl (by kernel_rfl) (fun _ _ _ h => h) (Or.inl ⟨by rfl, ?_⟩) ?_ ?_
            rotate_left
            · intro w'
              go_simp
              with_reducible rfl
            rotate_left
            · simp only [Act.put, List.setIfInBounds_toArray, List.set_cons_zero, List.set_cons_succ, i64_w, i32_w]
              rfl
            refine pure_ (i := 15) (N := some 77) (v := ?_) (a' := ?_) #[true, true, true, true, false, true, true, true, false, false, true, true, true, true, false, true, false, false, false, false, false] rfl rfl (by kernel_rfl) (fun _ _ _ h => h) (Or.inl ⟨by rfl, ?_⟩) ?_ ?_
            rotate_left
            · intro w'
              go_simp
              with_reducible rfl
            rotate_left
            · simp only [Act.put, List.setIfInBounds_toArray, List.set_cons_zero, List.set_cons_succ, i64_w, i32_w]
              rfl
            refine pure_ (i := 16) (N := some 78) (v := ?_) (a' := ?_) #[true, true, true, true, false, true, true, true, false, false, true, true, true, true, false, true, true, false, false, false, false] rfl rfl (by kernel_rfl) (fun _ _ _ h => h) (Or.inl ⟨by rfl, ?_⟩) ?_ ?_
            rotate_left
            · intro w'
              go_simp
              with_reducible rfl
            rotate_left
            · simp only [Act.put, List.setIfInBounds_toArray, List.set_cons_zero, List.set_cons_succ, i64_w, i32_w]
              rfl
            refine pure_ (i := 17) (N := some 79) (v := ?_) (a' := ?_) #[true, true, true, true, false, true, true, true, false, false, true, true, true, true, false, true, true, true, false, false, false] rfl rfl (by kernel_rfl) (fun _ _ _ h => h) (Or.inl ⟨by rfl, ?_⟩) ?_ ?_
            rotate_left
            · intro w'
              go_simp
              with_reducible rfl
            rotate_left
            · simp only [Act.put, List.setIfInBounds_toArray, List.set_cons_zero, List.set_cons_succ, i64_w, i32_w]
              rfl
            refine take_ (i := 4) (N := some 66) (v := ?_) (a' := ?_) #[true, true, true, true, true, true, true, true, false, false, true, true, true, true, false, true, true, true, false, false, false] rfl rfl (by kernel_rfl) (fun _ _ _ h => h) (Or.inl ⟨by rfl, ?_⟩) hHeld ?_ ?_
            rotate_left
            · rintro w' ⟨s0, s1⟩
              go_simp
              with_reducible rfl
            rotate_left
            · simp only [Act.put, List.setIfInBounds_toArray, List.set_cons_zero, List.set_cons_succ, i64_w, i32_w]
              rfl
            refine take_ (i := 8) (N := some 70) (v := ?_) (a' := ?_) #[true, true, true, true, true, true, true, true, true, false, true, true, true, true, false, true, true, true, false, false, false] rfl rfl (by kernel_rfl) (fun _ _ _ h => h) (Or.inl ⟨by rfl, ?_⟩) hHeld ?_ ?_
            rotate_left
            · rintro w' ⟨s0, s1⟩
              go_simp
              with_reducible rfl
            rotate_left
            · simp only [Act.put, List.setIfInBounds_toArray, List.set_cons_zero, List.set_cons_succ, i64_w, i32_w]
              rfl
            refine take_ (i := 14) (N := some 76) (v := ?_) (a' := ?_) #[true, true, true, true, true, true, true, true, true, false, true, true, true, true, true, true, true, true, false, false, false] rfl rfl (by kernel_rfl) (fun _ _ _ h => h) (Or.inl ⟨by rfl, ?_⟩) hHeld ?_ ?_
            rotate_left
            · rintro w' ⟨s0, s1⟩
              go_simp
              with_reducible rfl
            rotate_left
            · simp only [Act.put, List.setIfInBounds_toArray, List.set_cons_zero, List.set_cons_succ, i64_w, i32_w]
              rfl
            refine take_ (i := 18) (N := some 80) (v := ?_) (a' := ?_) #[true, true, true, true, true, true, true, true, true, false, true, true, true, true, true, true, true, true, true, false, false] rfl rfl (by kernel_rfl) (fun _ _ _ h => h) (Or.inl ⟨by rfl, ?_⟩) hHeld ?_ ?_
            rotate_left
            · rintro w' ⟨s0, s1⟩
              go_simp
              with_reducible rfl
            rotate_left
            · simp only [Act.put, List.setIfInBounds_toArray, List.set_cons_zero, List.set_cons_succ, i64_w, i32_w]
              rfl
            refine one_ (i := 9) (N := some 71) #[true, true, true, true, true, true, true, true, true, true, true, true, true, true, true, true, true, true, true, false, false] rfl rfl (by kernel_rfl) (by decide) (fun K hK => ?_)
            refine goes_ Try.func12 (by kernel_rfl) rfl #[.pointer (some ⟨ga, 0, none⟩), .int .i64 p, .int .i64 q] (by rfl) rfl rfl (by simp only [List.map_toArray, List.map_cons, List.map_nil]; rfl) ?_
            with_reducible refine (hop_Take _ _ _ _ _ _ (HRV.out.upd (Upd.of_below (F := fun _ => False) (below_drew (Below.refl _ _))) (fun x => x)) HLL.out).mono ?_
            rintro en wa ⟨rfl, hRa, hUa⟩
            refine ⟨_, rfl, ?_⟩
            have HRW2 := Aside0.mk ((HRW.out.upd (Upd.of_below (F := fun _ => False) (below_drew (Below.refl _ _))) (fun x => x)).upd hUa (fun h => HNE.out h.symm))
            have HRa := Aside0.mk hRa
            have HBa := Aside0.mk (hUa.after1 (below_drew HBl.out) HGA.out)
            have Hp := Aside0.mk (hUa.cell (show wr.drew.cell? (ad.add x.toNat) = _ from H0.out) HN.out.1)
            have Hq := Aside0.mk (hUa.cell (show wr.drew.cell? (bd.add x.toNat) = _ from H1.out) HN.out.2.1)
            clear hRa hUa
            refine hK.out _ _ ⟨Hp.out, Hq.out⟩ (fun hHeld => ?_)
            clear hK K
            refine norm_ (a' := ?_) ?_ ?_
            rotate_left
            · show Act.put _ (some 71) _ = _
              simp only [Act.put, List.setIfInBounds_toArray, List.set_cons_zero, List.set_cons_succ, i64_w, i32_w]
              rfl
            refine one_ (i := 19) (N := some 81) #[true, true, true, true, true, true, true, true, true, true, true, true, true, true, true, true, true, true, true, true, false] rfl rfl (by kernel_rfl) (by decide) (fun K hK => ?_)
            refine goes_ Try.func13 (by kernel_rfl) rfl #[.pointer (some ⟨gb, 0, none⟩), .int .i64 p, .int .i64 q] (by rfl) rfl rfl (by simp only [List.map_toArray, List.map_cons, List.map_nil]; rfl) ?_
            with_reducible refine (ref_Take _ _ _ _ _ _ HRW2.out HLL.out HQ.out).mono ?_
            rintro en wb ⟨rfl, hRb, hUb⟩
            refine ⟨_, rfl, ?_⟩
            have HRa2 := Aside0.mk (HRa.out.upd hUb HNE.out)
            have HRb := Aside0.mk hRb
            have HBb := Aside0.mk (hUb.after1 HBa.out HGB.out)
            have Hp2 := Aside0.mk (hUb.cell Hp.out HN.out.2.2.1)
            have Hq2 := Aside0.mk (hUb.cell Hq.out HN.out.2.2.2)
            clear hRb hUb
            refine hK.out _ _ ⟨Hp2.out, Hq2.out⟩ (fun hHeld => ?_)
            clear hK K
            refine norm_ (a' := ?_) ?_ ?_
            rotate_left
            · show Act.put _ (some 81) _ = _
              simp only [Act.put, List.setIfInBounds_toArray, List.set_cons_zero, List.set_cons_succ, i64_w, i32_w]
              rfl
            refine pure_ (i := 20) (N := some 82) (v := ?_) (a' := ?_) #[true, true, true, true, true, true, true, true, true, true, true, true, true, true, true, true, true, true, true, true, true] rfl rfl (by kernel_rfl) (fun _ _ _ h => h) (Or.inl ⟨by rfl, ?_⟩) ?_ ?_
            rotate_left
            · intro w'
              go_simp
              with_reducible rfl
            rotate_left
            · simp only [Act.put, List.setIfInBounds_toArray, List.set_cons_zero, List.set_cons_succ, i64_w, i32_w]
              rfl
            refine done_ (by kernel_rfl) ?_
            clear hx0
            have hx0 : 0 ≤ x := HK.out.1
            have HTR := Aside0.mk (took_range (e := e) (ep := p) (n := q) HL.out.1 HL.out.2)
            obtain ⟨T, hT⟩ : ∃ T, T = took e l p q := ⟨_, rfl⟩
            rw [← hT] at HTR HRb HRa2 ⊢
            clear hT
            have hca := blk_at HRa2.out (i := 0) rfl
            have hcb := blk_at HRb.out (i := 0) rfl
            have hcb1 := blk_at HRb.out (i := 1) rfl
            have hbe : (T.1 != T.1) = false := by simp
            go_wp2_with fail
            refine (hop_Last _ _ _ _ HRa2.out).mono ?_
            rintro en wc ⟨rfl, nd, rfl⟩
            have hcb := blk_at (Base.blk_drewN HRb.out nd) (i := 0) rfl
            have hcb1 := blk_at (Base.blk_drewN HRb.out nd) (i := 1) rfl
            go_wp2
            go_roundg (gk - 1)
            case measure => have := HK.out; omega
            case rel => exact ⟨x + 1, rfl, ⟨by have := HK.out; omega⟩, ⟨_, _, HRa2.out.upd (Upd.of_below (F := fun _ => False) (pw_below_drewN (Below.refl _ _) _)) (fun x => x), HRb.out.upd (Upd.of_below (F := fun _ => False) (pw_below_drewN (Below.refl _ _) _)) (fun x => x), HTR.out.1, HTR.out.2, pw_below_drewN HBb.out _, HGA.out, HGB.out, HNE.out⟩⟩
          · have cb3 : decide (x < 100) = false := decide_eq_false c3
            have HBl : Aside0 (Below w.heap.size w wr) := ⟨by obtain ⟨_, _, _, _, _, _, h, _⟩ := HBoth.out; exact h⟩
            clear c1 c2 c3
            go_wp2
            go_ret
            exact ⟨rfl, HBl.out⟩
        · have cb2 : decide (x < (ys.length : Int)) = false := decide_eq_false c2
          have HBl : Aside0 (Below w.heap.size w wr) := ⟨by obtain ⟨_, _, _, _, _, _, h, _⟩ := HBoth.out; exact h⟩
          clear c1 c2
          go_wp2
          go_ret
          exact ⟨rfl, HBl.out⟩
      · have cb1 : decide (x < (xs.length : Int)) = false := decide_eq_false c1
        have HBl : Aside0 (Below w.heap.size w wr) := ⟨by obtain ⟨_, _, _, _, _, _, h, _⟩ := HBoth.out; exact h⟩
        clear c1
        go_wp2
        go_ret
        exact ⟨rfl, HBl.out⟩
  · have HC := Aside0.mk c
    clear c
    go_enter Try.func3, Try.ntmps3
    go_wp2_with fail
    refine (hop_NewReceiver _ _).mono ?_
    rintro e w1 ⟨-, h1, hb⟩
    obtain rfl := h1 HC.out
    replace HB := Aside0.mk (below_step HB.out hb)
    clear hb h1
    go_wp2_with fail
    refine (ref_NewReceiver _ _).mono ?_
    rintro e w2 ⟨-, h1, hb⟩
    obtain rfl := h1 HC.out
    replace HB := Aside0.mk (below_step HB.out hb)
    clear hb h1
    go_wp2
    go_ret
    exact ⟨rfl, HB.out⟩

namespace hopTakes
open Go.ChangeShapes Go.WideShapes Go.ChangeAt Go.RowKit
open Go.ChangeMaps (open_string shut_string)
set_option linter.unusedVariables false
theorem laidOut : laidOutB Try.prog = true := by kernel_rfl
theorem own : ownKnob Try.prog.godebug = none := by kernel_rfl
set_option maxRecDepth 100000 in
theorem lifted (os : Os) (started : os.Started) (H : Type) (enc : TypeId × Value → H) :
    ReturnsInHanded {} Try.checked os 3 .any (Rows.hopTakesSpec.pre6 enc Try.prog Try.f3 Rows.hopTakesRow.domain false) (Rows.hopTakesSpec.post enc Try.prog Try.f3 false true false false) := by
  refine returnsInHanded_of_change_sized (C := Try.checked) own started (by kernel_rfl) Try.func3
    (ChangeSpec.witness6 (enc := enc) (C := Try.checked) false ⟨#[], #[.int .i64 0, .slice none 0 0, .slice none 0 0], []⟩ 8 (by kernel_rfl) (by kernel_rfl) (by kernel_rfl) (by kernel_rfl)) ?_
  intro W base args ds gs before hval0 hW hcnd hsz0 _
  have hsz : (DataW.weightsEach Try.prog (Try.f3.params.toList ++ Rows.hopTakesSpec.plain.varTypes Try.prog) (ds ++ gs)).all (· ≤ reachBytes) = true := hsz0
  have hval : ∀ (j : Nat) t v, Try.f3.params[j]? = some t → args[j]? = some v → Value.okWide Try.prog W .any base t v := hval0
  have hW' := hW
  obtain ⟨p, q, hA0, hV, rfl, hfz, hnd⟩ := hW
  have hA : DataW.TrodAll enc Try.prog W 0 (fun _ => true) true Try.f3.params.toList args.toList ds p := hA0
  rw [Try.params3] at hA hval hsz
  obtain ⟨v0, vs0, d0, ds0, p0, q0, hargs, rfl, rfl, h0, r0⟩ := trodAll_cons hA
  obtain ⟨v1, vs1, d1, ds1, p1, q1, rfl, rfl, rfl, h1, r1⟩ := trodAll_cons r0
  obtain ⟨v2, vs2, d2, ds2, p2, q2, rfl, rfl, rfl, h2, r2⟩ := trodAll_cons r1
  obtain ⟨rfl, rfl, rfl⟩ := trodAll_nil r2
  obtain rfl : args = #[v0, v1, v2] := by cases args; simp_all
  obtain ⟨rfl, rfl⟩ := trodVars_none hV
  obtain ⟨a0, rfl, rfl, rfl, w0⟩ := open_int Try.underlying3 (hval 0 3 v0 rfl rfl) h0
  have b0 : -9223372036854775808 ≤ a0 ∧ a0 < 9223372036854775808 := by have := bounds_i64 w0; omega
  have k1 := h1
  obtain ⟨a1, A1, c1, rfl, w1⟩ := Open.open_slice Try.underlying22 (Open.opens_slice Try.underlying22 (by kernel_rfl) (Open.opens_int (P := Try.prog) (k := .i64) (by kernel_rfl))) (hval 1 22 v1 rfl rfl) h1
  have k2 := h2
  obtain ⟨a2, A2, c2, rfl, w2⟩ := Open.open_slice Try.underlying22 (Open.opens_slice Try.underlying22 (by kernel_rfl) (Open.opens_int (P := Try.prog) (k := .i64) (by kernel_rfl))) (hval 2 22 v2 rfl rfl) h2
  clear hA0 hval0 hsz0 hsz
  refine (HopTakes_walk a0 a1 A1 c1 a2 A2 c2 W b0 w1 w2).mono fun e W' ⟨he, bel⟩ => ?_
  subst he
  exact ⟨_, rfl, _, _, _, [], _, [], hW', trodAll_mk1 (shut_bool Try.underlying4 _), (trodAll_cons_mk (shut_int Try.underlying3 w0) (trodAll_cons_mk (Open.trod_below laidOut (by kernel_rfl) (of_decide_eq_true (by kernel_rfl)) k1 bel) (trodAll_cons_mk (Open.trod_below laidOut (by kernel_rfl) (of_decide_eq_true (by kernel_rfl)) k2 bel) trodAll_mk0))), rfl, bel.frame _, fun h => by cases h⟩
theorem over : Rows.hopTakesRow.holds Try.pinned (OpenSpec.ofChange Rows.hopTakesSpec) :=
  OpenClaim.holds_of_wide 3 Try.f3 rfl rfl rfl rfl rfl rfl rfl ⟨rfl, rfl, rfl, rfl, rfl⟩ rfl rfl rfl rfl rfl (by kernel_rfl) Try.func3 (by kernel_rfl)
    (of_decide_eq_true (by kernel_rfl)) (by unfold Func.isWrapper; first | (rw [if_pos (by decide +kernel)]; kernel_rfl) | (rw [if_neg (by decide +kernel)]; exact ⟨rfl, rfl⟩))
    (fun os started H enc _ => lifted os started H enc)
theorem proved : Rows.HopTakesSaid := over
#print axioms proved
end hopTakes
/-- The row, under a short name, for the claim. -/
theorem hopTakes_holds : Rows.HopTakesSaid := hopTakes.proved
end Go.Proofs.Ytmpgknemhmoboaa
