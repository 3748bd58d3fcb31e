import Derived.Test.YtljmamlceofcfaaX06t
import Derived.Deep.LoopGhost
/- The contract of chain.least: those times of a list in order that none of the others is ahead of. -/
namespace Go.Proofs.Ytljmamlceofcfaa.V06
set_option linter.unusedSimpArgs false
set_option linter.unusedVariables false
open Go Go.Proofs Go.RowKit Go.Sort Go.Proofs.YtljmamlceofcfaaW.PrintWords Go.Proofs.YtljmamlceofcfaaW.PrintLast Go.Proofs.YtljmamlceofcfaaW.PrintMore Go.Proofs.Ytljmamlceofcfaa.Base Go.Proofs.Ytljmamlceofcfaa.Q06t
open M06 (sgc orZ cmpT cmpR ltR leR chkR)
theorem least_drop {out l : List R} {k : Nat} (h : k < l.length) : Fr.least leR out (l.drop k) = if out.any (fun x => leR x l[k]) then Fr.least leR out (l.drop (k + 1)) else Fr.least leR (out ++ [l[k]]) (l.drop (k + 1)) := by
  rw [List.drop_eq_getElem_cons h, Fr.least]
set_option maxRecDepth 100000 in
set_option maxHeartbeats 4000000 in
theorem least_c (A0 : Option Addr) (c0 : Nat) (l0 : List R) (w : World) (hr0 : Kd.C k26 w A0 l0.length l0) (hl : l0.length ≤ 1000000) :
    Calls Try.prog 66 #[.slice A0 l0.length c0] w fun e w' => ∃ v, e = .returned v ∧ Kd.R k26 26 w' w.heap.size (fun _ => True) v (Fr.least leR [] l0) ∧ Below w.heap.size w w' := by
  have HR := Aside0.mk hr0
  have HLL := Aside0.mk hl
  clear hr0 hl
  go_enter Try.func66, Try.ntmps66
  go_wp2
  go_step3
  go_wp2
  go_step3
  go_wp2
  go_loopg [3, 10] (l0.length + 1) (fun kq v3 v10 W' => ∃ (k : Nat) (out : List R) (va : Value), v3 = va ∧ v10 = .int .i64 k ∧ Aside0 (k ≤ l0.length ∧ k + kq = l0.length + 1 ∧ out.length ≤ k) ∧ Aside0 (Fr.least leR out (l0.drop k) = Fr.least leR [] l0) ∧ Aside0 (Kd.R k26 26 W' w.heap.size (fun _ => True) va out) ∧ Aside0 (Below w.heap.size w W'))
  case atStart => exact ⟨0, [], _, rfl, rfl, ⟨⟨by omega, by omega, by simp⟩⟩, ⟨rfl⟩, ⟨Kd.R_nil _ _ _ _ _⟩, ⟨Below.refl _ _⟩⟩
  case round =>
    obtain ⟨k, out, va, rfl, rfl, HK, HT, HO, HW⟩ := hrel
    obtain ⟨Ao, co, eo⟩ := Kd.R_slice HO.out
    subst eo
    by_cases hlt : k < l0.length
    · obtain ⟨b, off, rfl, hb, hc⟩ := at_C HR.out (by omega)
      obtain ⟨q0, q1, q2, q3, q4⟩ := hc k hlt
      have q0 := (HW.out.cell (p := ⟨b, off + k * 5, none⟩) hb).trans q0
      have q1 := (HW.out.cell (p := ⟨b, off + k * 5 + 1, none⟩) hb).trans q1
      have q2 := (HW.out.cell (p := ⟨b, off + k * 5 + 2, none⟩) hb).trans q2
      have q3 := (HW.out.cell (p := ⟨b, off + k * 5 + 3, none⟩) hb).trans q3
      have q4 := (HW.out.cell (p := ⟨b, off + k * 5 + 4, none⟩) hb).trans q4
      have HD := Aside0.mk (least_drop (out := out) hlt)
      have HWR : Aside0 (wrap64 ((k : Int) + 1) = ((k + 1 : Nat) : Int)) := ⟨by have := HLL.out; unfold wrap64; omega⟩
      obtain ⟨t, ht⟩ : ∃ t, t = l0[k] := ⟨_, rfl⟩
      rw [← ht] at q0 q1 q2 q3 q4 HD
      clear hc hb ht
      go_upto_region 5 with (fail)
      have HB1 := Aside0.mk (below_alloc HW.out (tC t))
      have HO1 := Aside0.mk (Kd.R_alloc HO.out (tC t))
      have HG := Aside0.mk (blk_new wr (tC t))
      clear q0 q1 q2 q3 q4 HO HW
      unfold tC at HB1 HO1 HG
      generalize wr.alloc (.cells #[.int .u32 t.f0, .int .i64 t.f1, .int .u32 t.f2.f0, .int .u32 t.f2.f1, .int .u32 t.f2.f2] 26) = w1 at HB1 HO1 HG ⊢
      generalize wr.heap.size = g at HG ⊢
      go_wp2
      go_loopg [16] (out.length + 1) (fun kq v16 W' => ∃ (j : Nat), v16 = .int .i64 j ∧ Aside0 (j ≤ out.length ∧ j + kq = out.length + 1) ∧ Aside0 (∀ i (h : i < out.length), i < j → leR out[i] t = false) ∧ Aside0 (Below w1.heap.size w1 W'))
      case atStart => exact ⟨0, rfl, ⟨⟨by omega, by omega⟩⟩, ⟨fun i h hi => absurd hi (by omega)⟩, ⟨Below.refl _ _⟩⟩
      case round =>
        obtain ⟨j, rfl, HJ, HN, HV⟩ := hrel
        have HO2 := Aside0.mk (Kd.R_below HO1.out HV.out)
        have HG2 := Aside0.mk (blk_below HG.out HV.out)
        have HB2 := Aside0.mk (below_step HB1.out HV.out)
        by_cases hj : j < out.length
        · obtain ⟨b2, off2, rfl, hb2, hc2⟩ := at_C (Kd.R_reads' HO2.out).2.2 (by omega)
          obtain ⟨q0, q1, q2, q3, q4⟩ := hc2 j hj
          have r0 := blk_at (i := 0) HG2.out rfl
          have r1 := blk_at (i := 1) HG2.out rfl
          have r2 := blk_at (i := 2) HG2.out rfl
          have r3 := blk_at (i := 3) HG2.out rfl
          have r4 := blk_at (i := 4) HG2.out rfl
          have hgl : g < wr.heap.size := (Array.getElem?_eq_some_iff.1 HG2.out).1
          have hgn : g ≠ wr.heap.size := by omega
          have HJR : Aside0 (wrap64 ((j : Int) + 1) = ((j + 1 : Nat) : Int)) := ⟨by have := HLL.out; have := HK.out; unfold wrap64; omega⟩
          have HLE : Aside0 (∀ W, Calls Try.prog 75 #[.agg #[.int .u32 out[j].f0, .int .i64 out[j].f1, .int .u32 out[j].f2.f0, .int .u32 out[j].f2.f1, .int .u32 out[j].f2.f2], .agg #[.int .u32 t.f0, .int .i64 t.f1, .int .u32 t.f2.f0, .int .u32 t.f2.f1, .int .u32 t.f2.f2]] W fun e w' => e = .returned (.bool (leR out[j] t)) ∧ Below W.heap.size W w') := ⟨fun W => Ext.stamp_LE_c out[j].f0 out[j].f1 out[j].f2.f0 out[j].f2.f1 out[j].f2.f2 t.f0 t.f1 t.f2.f0 t.f2.f1 t.f2.f2 W⟩
          obtain ⟨x, HX⟩ : ∃ x, Aside0 (x = out[j]) := ⟨_, ⟨rfl⟩⟩
          rw [← HX.out] at q0 q1 q2 q3 q4 HLE
          clear hc2 hb2
          cases hle : leR x t with
          | true =>
            rw [hle] at HLE
            have HA : Aside0 (out.any (fun x => leR x t) = true) := ⟨List.any_eq_true.2 ⟨x, by rw [HX.out]; exact List.getElem_mem _, hle⟩⟩
            clear hle
            go_wp2_with (go_at_call 75; refine (HLE.out _).mono ?_; rintro e w2 ⟨rfl, hb1⟩; have HV1 := Aside0.mk (below_step (below_alloc (Below.refl _ _) (tC x)) hb1); clear hb1)
            go_roundg (l0.length - k)
            case measure => have := HK.out; omega
            case rel => exact ⟨k + 1, out, _, rfl, by rw [HWR.out], ⟨by have := HK.out; omega⟩, ⟨by rw [← HT.out, HD.out, if_pos HA.out]⟩, ⟨Kd.R_below HO2.out HV1.out⟩, ⟨below_step HB2.out HV1.out⟩⟩
          | false =>
            rw [hle] at HLE
            have HA : Aside0 (leR out[j] t = false) := ⟨by rw [← HX.out]; exact hle⟩
            clear hle
            go_wp2_with (go_at_call 75; refine (HLE.out _).mono ?_; rintro e w2 ⟨rfl, hb1⟩; have HV1 := Aside0.mk (below_step (below_alloc (Below.refl _ _) (tC x)) hb1); clear hb1)
            go_roundg (out.length - j)
            case measure => have := HJ.out; omega
            case rel => exact ⟨j + 1, by rw [HJR.out], ⟨by have := HJ.out; omega⟩, ⟨fun i h hi => by
              by_cases e : i = j
              · subst e; exact HA.out
              · exact HN.out i h (by omega)⟩, ⟨below_step HV.out HV1.out⟩⟩
        · have r0 := blk_at (i := 0) HG2.out rfl
          have r1 := blk_at (i := 1) HG2.out rfl
          have r2 := blk_at (i := 2) HG2.out rfl
          have r3 := blk_at (i := 3) HG2.out rfl
          have r4 := blk_at (i := 4) HG2.out rfl
          have HA : Aside0 (¬ out.any (fun x => leR x t) = true) := ⟨fun h => by
            obtain ⟨x, hx, hle⟩ := List.any_eq_true.1 h
            obtain ⟨i, hi, rfl⟩ := List.mem_iff_getElem.1 hx
            rw [HN.out i hi (by omega)] at hle
            cases hle⟩
          go_wp2_with (first | ((with_reducible refine gate_builtin (b := .append) (xs := #[.tmp 24, .tmp 26]) rfl ?_); at_builtin; refine Kd.R_append k26 (w0 := w) w.heap.size rfl (.tmp 24) (.tmp 26) 22 26 (.agg #[.int .u32 0, .int .i64 0, .int .u32 0, .int .u32 0, .int .u32 0]) 32 rfl Try.underlying22 infoR rfl (by decide) (by omega) (.slice Ao out.length co) out t [.int .u32 t.f0, .int .i64 t.f1, .int .u32 t.f2.f0, .int .u32 t.f2.f1, .int .u32 t.f2.f2] (fun _ => True) (fun _ => False) rfl rfl ?aP (fun _ hk => hk.elim) ?aF ?aO ?aB ?aS ?aL ?_; (case aP => exact k26_mkM _ _ _ _); (case aB => exact HB2.out); (case aF => exact (fun _ _ => trivial)); (case aO => exact HO2.out); (case aS => exact HB2.out.size); (case aL => (have := HK.out; have := HLL.out; omega)); intro va wa hq hb hg hat; have HO3 := Aside0.mk hq; have HB3 := Aside0.mk hb; clear hq hb hg hat))
          go_roundg (l0.length - k)
          case measure => have := HK.out; omega
          case rel => exact ⟨k + 1, out ++ [t], _, rfl, by rw [HWR.out], ⟨by have := HK.out; rw [List.length_append]; simp; omega⟩, ⟨by rw [← HT.out, HD.out, if_neg HA.out]⟩, HO3, HB3⟩
    · have HE : Aside0 (Fr.least leR [] l0 = out) := ⟨by rw [← HT.out, List.drop_eq_nil_of_le (by omega)]; rfl⟩
      go_wp2
      try rw [Exit.noGoto_ret]
      go_ret
      rw [HE.out]
      exact ⟨_, rfl, HO.out, HW.out⟩
end Go.Proofs.Ytljmamlceofcfaa.V06
