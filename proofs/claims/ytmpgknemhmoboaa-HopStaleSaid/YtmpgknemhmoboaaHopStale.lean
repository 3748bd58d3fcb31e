/- watershedlaw17.HopStale returns true for every input: word by another epoch, word of what was had before and of what was not put yet change nothing; an item that is not the next one is not taken. -/
import Derived.Test.YtmpgknemhmoboaaRows
import Derived.WalkKit
import Derived.ProofKit
import Derived.OpenShut
import Derived.ShutString
import Derived.ChangeOld
import Derived.Below
import Derived.SizedLaws
import Derived.Deep.CutBlock
import Derived.Deep.DeepCutAuto
import Derived.Test.YtmpgknemhmoboaaW17
import Derived.Test.YtmpgknemhmoboaaOpen
namespace Go.Proofs.Ytmpgknemhmoboaa
set_option linter.unusedSimpArgs false
set_option linter.unusedVariables false
open Go.RowKit S17 Base Go.Proofs.YtmpgknemhmoboaaW.PrintWords Go.Proofs.YtmpgknemhmoboaaW.PrintLast Go.Proofs.YtmpgknemhmoboaaW.PrintMore Go.Proofs.Ytmpgknemhmoboaa.Q17h
theorem umod (x m : Int) (h : 0 < m ∧ m ≤ 1000) : ∃ N : Nat, wrap64 ((IntKind.u64.wrap x).tmod m) = N ∧ (N : Int) < m := by
  have h1 : IntKind.u64.wrap x = x % 18446744073709551616 := IntKind.wrap_u64 x
  have h2 : 0 ≤ x % 18446744073709551616 := Int.emod_nonneg _ (by omega)
  rw [h1]
  have h3 := Int.tmod_nonneg m h2
  have h4 := Int.tmod_lt_of_pos (x % 18446744073709551616) h.1
  generalize (x % 18446744073709551616).tmod m = y at h3 h4 ⊢
  exact ⟨y.toNat, by rw [Pl.w64 (by omega) (by omega)]; omega, by omega⟩
set_option maxRecDepth 100000 in
set_option maxHeartbeats 4000000 in
theorem HopStale_walk (n ac ep wo : Int) (w : World) (_b0 : -9223372036854775808 ≤ n ∧ n < 9223372036854775808) (_b1 : -9223372036854775808 ≤ ac ∧ ac < 9223372036854775808) (_b2 : -9223372036854775808 ≤ ep ∧ ep < 9223372036854775808) (_b3 : -9223372036854775808 ≤ wo ∧ wo < 9223372036854775808) :
    Calls Try.prog 9 #[.int .i64 n, .int .i64 ac, .int .i64 ep, .int .i64 wo] w fun e w' => e = .returned (.bool true) ∧ Below w.heap.size w w' := by
  have HB := Aside0.mk (Below.refl w.heap.size w)
  go_enter Try.func9, Try.ntmps9
  go_wp2_with fail
  refine (W17.works_c _).mono ?_
  rintro e w1 ⟨rfl, hb⟩
  have HB1 := Aside0.mk hb
  clear hb HB
  have HB := HB1
  clear HB1
  go_wp2_with fail
  obtain ⟨N, hN, hN1⟩ := umod n 60 (by omega)
  obtain ⟨C, hC, hC1⟩ := umod ac 1000 (by omega)
  rw [hN, hC]
  clear hN hC
  have HC := Aside0.mk hC1
  have HN := Aside0.mk hN1
  refine (s_new 5 C 8 4 (by unfold NewOk; omega) HB.out).mono ?_
  rintro e w2 ⟨⟨ga, rfl, hs⟩, hb⟩
  have HS := Aside0.mk hs
  clear hs hb HB
  go_wp2_with fail
  refine (r_new C (by omega) HS.out.lo).mono ?_
  rintro e w3 ⟨⟨gr, rfl, hr⟩, hb⟩
  have HS2 := Aside0.mk (HS.out.below hb)
  have HR := Aside0.mk hr
  clear hr hb HS
  go_wp2
  go_loopg [13] (N + 1) (fun kq v13 W' => ∃ (x : Nat) (xs : List S87), v13 = .int .i64 x ∧ Aside0 (x ≤ N ∧ x + kq = N + 1 ∧ xs.length = x) ∧ Aside0 (S1 w W' ga 5 C C 0 8 4 xs) ∧ Aside0 (R1 w W' gr 0 C))
  case atStart => exact ⟨0, [], rfl, ⟨by omega, by omega, rfl⟩, HS2, HR⟩
  case round =>
    clear HS2 HR
    obtain ⟨x, xs, rfl, HK, HS, HR⟩ := hrel
    by_cases c1 : x < N
    · have e1 : decide ((x : Int) < (N : Int)) = true := decide_eq_true (by omega)
      have p2 : (x < N) = True := eq_true c1
      have HLT := Aside0.mk c1
      clear c1
      go_wp2_with fail
      refine (s_put ⟨#[120]⟩ HS.out).mono ?_
      rintro e w4 ⟨rfl, hs, hu⟩
      have hp : putFA C xs.length ⟨#[120]⟩ = ((C : Int) + x + 1, 0) := by
        have h1 := HK.out.2.2
        have h2 := HLT.out
        have h3 := HC.out
        have h4 := HN.out
        rw [h1]
        unfold putFA
        rw [if_neg (by decide), if_neg (by omega)]
      unfold putL at hs
      rw [hp] at hs ⊢
      rw [if_pos rfl] at hs
      have HS4 := Aside0.mk hs
      have HR4 := Aside0.mk (HR.out.tu hu (by decide))
      clear hs hu hp HS HR
      have v1 : wrap64 ((C : Int) + 1) = C + 1 := Pl.w64 (by omega) (by omega)
      have v2 : wrap64 ((C : Int) + 1 + x) = C + x + 1 := by have := HLT.out; rw [Pl.w64 (by omega) (by omega)]; omega
      generalize (C : Int) + x + 1 = kk at v2 HS4 ⊢
      go_wp2
      go_roundg (gk - 1)
      case measure => have := HK.out; omega
      case rel => exact ⟨x + 1, _, by first | rfl | (rw [Pl.w64 (by omega) (by have := HLT.out; omega)]; rfl), ⟨by have := HK.out; have := HLT.out; refine ⟨by omega, by omega, ?_⟩; simp; omega⟩, HS4, HR4⟩
    · have e1 : decide ((x : Int) < (N : Int)) = false := decide_eq_false (by omega)
      have p2 : (x < N) = False := eq_false c1
      obtain rfl : x = N := by have := HK.out; omega
      clear c1
      go_wp2_with fail
      have hl := HK.out.2.2
      clear HK
      refine (s_acked ep wo HS.out).mono ?_
      rintro e w4 ⟨rfl, hs, hu⟩
      have HR4 := Aside0.mk (HR.out.tu hu (by decide))
      clear hu HR HS
      rw [hl] at hs ⊢
      by_cases cy : ep = 5 ∧ (C : Int) < wo ∧ wo ≤ C + x
      · have eb : ackB ep 5 C x wo = true := decide_eq_true cy
        rw [eb] at hs ⊢
        simp only [if_true] at hs
        obtain ⟨rfl, cy1, cy2⟩ := cy
        have HS4 := Aside0.mk hs
        have hlen : ((xs.drop (wo - C).toNat).length : Int) = C + x - wo := by rw [List.length_drop, hl]; omega
        clear hs eb
        go_wp2_with fail
        refine (s_state HS4.out).mono ?_
        rintro e w5 ⟨rfl, hb⟩
        rw [hlen, show wo + ((C : Int) + x - wo) + 1 = C + x + 1 from by omega]
        have HR5 := Aside0.mk (HR4.out.below hb)
        have HB5 := Aside0.mk (HS4.out.below hb).lo
        clear hb HS4 HR4 hlen
        have y1 : decide (wo > (C : Int)) = true := decide_eq_true cy1
        have y2 : decide (wo ≤ (C : Int) + x) = true := decide_eq_true cy2
        go_wp2_with fail
        refine (r_take 5 wo HR5.out HB5.out (by omega)).mono ?_
        rintro e w6 ⟨rfl, hr, hb, hu⟩
        have HB6 := Aside0.mk hb
        by_cases c5 : wo = C + 1
        · have et : C17.took 0 C 5 wo = (true, 5, wo) := by unfold C17.took; rw [if_neg (by omega), if_pos c5]
          rw [et] at hr ⊢
          have HR6 := Aside0.mk hr
          clear hr hb hu et HB5
          go_wp2_with fail
          refine (r_last HR6.out).mono ?_
          rintro e w7 ⟨rfl, hb⟩
          have HB := Aside0.mk (below_step HB6.out hb)
          clear hb
          have z2 : (wo == (C : Int) + 1) = true := beq_iff_eq.mpr c5
          go_wp2
          go_ret
          exact ⟨rfl, (by repeat (first | (with_reducible first | exact HB.out | apply below_alloc | apply pw_below_drewN | apply below_drew1) | exact HB.out))⟩
        · have et : C17.took 0 C 5 wo = (false, 5, (C : Int)) := by unfold C17.took; rw [if_neg (by omega), if_neg c5]
          rw [et] at hr ⊢
          have HR6 := Aside0.mk hr
          clear hr hb hu et HB5
          go_wp2_with fail
          refine (r_last HR6.out).mono ?_
          rintro e w7 ⟨rfl, hb⟩
          have HB := Aside0.mk (below_step HB6.out hb)
          clear hb
          have z2 : (wo == (C : Int) + 1) = false := beq_eq_false_iff_ne.mpr c5
          go_wp2
          go_ret
          exact ⟨rfl, (by repeat (first | (with_reducible first | exact HB.out | apply below_alloc | apply pw_below_drewN | apply below_drew1) | exact HB.out))⟩
      · have eb : ackB ep 5 C x wo = false := decide_eq_false cy
        rw [eb] at hs ⊢
        replace hs : S1 w w4 ga 5 C C 0 8 4 xs := hs
        have HS4 := Aside0.mk hs
        clear hs eb
        go_wp2_with fail
        refine (s_state HS4.out).mono ?_
        rintro e w5 ⟨rfl, hb⟩
        rw [hl]
        have HR5 := Aside0.mk (HR4.out.below hb)
        have HB5 := Aside0.mk (HS4.out.below hb).lo
        clear hb HS4 HR4
        have HV : Aside0 (wrap64 ((C : Int) + 1) = C + 1) := ⟨Pl.w64 (by omega) (by omega)⟩
        obtain ⟨cx, hcx⟩ : ∃ cx, (C : Int) + x = cx := ⟨_, rfl⟩
        have hcx2 : 0 ≤ cx ∧ cx < 1060 ∧ cx = C + x := by omega
        rw [hcx] at cy ⊢
        obtain ⟨nx, hnx⟩ : ∃ nx, cx + 1 = nx := ⟨_, rfl⟩
        have u1 : wrap64 ((C : Int) + x) = cx := by rw [hcx]; exact Pl.w64 (by omega) (by omega)
        have u2 : wrap64 (cx + 1) = nx := by rw [hnx]; exact Pl.w64 (by omega) (by omega)
        have u3 : wrap64 (nx - 1) = cx := by rw [Pl.w64 (by omega) (by omega)]; omega
        have u4 : wrap64 (cx - C) = x := by rw [Pl.w64 (by omega) (by omega)]; omega
        rw [hnx]
        clear hcx hnx hcx2
        by_cases d1 : ep = 5
        · subst d1
          by_cases d2 : wo > C
          · have y1 : decide (wo > (C : Int)) = true := decide_eq_true d2
            have y2 : decide (wo ≤ cx) = false := decide_eq_false (by omega)
            clear cy hl d2 hN1 hC1
            go_wp2_with fail
            refine (r_take 5 wo HR5.out HB5.out (by have := HC.out; omega)).mono ?_
            rintro e w6 ⟨rfl, hr, hb, hu⟩
            have HB6 := Aside0.mk hb
            by_cases c4 : (5 : Int) < 0
            · exact absurd c4 (by decide)
            · have z1 : decide ((5 : Int) ≥ 0) = true := decide_eq_true (by omega)
              by_cases c5 : wo = C + 1
              · have et : C17.took 0 C 5 wo = (true, 5, wo) := by unfold C17.took; rw [if_neg c4, if_pos c5]
                rw [et] at hr ⊢
                have HR6 := Aside0.mk hr
                clear hr hb hu et HB5
                go_wp2_with fail
                refine (r_last HR6.out).mono ?_
                rintro e w7 ⟨rfl, hb⟩
                have HB := Aside0.mk (below_step HB6.out hb)
                clear hb
                have v1 := HV.out
                have z2 : (wo == (C : Int) + 1) = true := beq_iff_eq.mpr c5
                clear c5 c4
                go_wp2
                go_ret
                exact ⟨rfl, (by repeat (first | (with_reducible first | exact HB.out | apply below_alloc | apply pw_below_drewN | apply below_drew1) | exact HB.out))⟩
              · have et : C17.took 0 C 5 wo = (false, 5, (C : Int)) := by unfold C17.took; rw [if_neg c4, if_neg c5]
                rw [et] at hr ⊢
                have HR6 := Aside0.mk hr
                clear hr hb hu et HB5
                go_wp2_with fail
                refine (r_last HR6.out).mono ?_
                rintro e w7 ⟨rfl, hb⟩
                have HB := Aside0.mk (below_step HB6.out hb)
                clear hb
                have v1 := HV.out
                have z2 : (wo == (C : Int) + 1) = false := beq_eq_false_iff_ne.mpr c5
                clear c5 c4
                go_wp2
                go_ret
                exact ⟨rfl, (by repeat (first | (with_reducible first | exact HB.out | apply below_alloc | apply pw_below_drewN | apply below_drew1) | exact HB.out))⟩
          · have y1 : decide (wo > (C : Int)) = false := decide_eq_false d2
            clear cy hl d2 hN1 hC1
            go_wp2_with fail
            refine (r_take 5 wo HR5.out HB5.out (by have := HC.out; omega)).mono ?_
            rintro e w6 ⟨rfl, hr, hb, hu⟩
            have HB6 := Aside0.mk hb
            by_cases c4 : (5 : Int) < 0
            · exact absurd c4 (by decide)
            · have z1 : decide ((5 : Int) ≥ 0) = true := decide_eq_true (by omega)
              by_cases c5 : wo = C + 1
              · have et : C17.took 0 C 5 wo = (true, 5, wo) := by unfold C17.took; rw [if_neg c4, if_pos c5]
                rw [et] at hr ⊢
                have HR6 := Aside0.mk hr
                clear hr hb hu et HB5
                go_wp2_with fail
                refine (r_last HR6.out).mono ?_
                rintro e w7 ⟨rfl, hb⟩
                have HB := Aside0.mk (below_step HB6.out hb)
                clear hb
                have v1 := HV.out
                have z2 : (wo == (C : Int) + 1) = true := beq_iff_eq.mpr c5
                clear c5 c4
                go_wp2
                go_ret
                exact ⟨rfl, (by repeat (first | (with_reducible first | exact HB.out | apply below_alloc | apply pw_below_drewN | apply below_drew1) | exact HB.out))⟩
              · have et : C17.took 0 C 5 wo = (false, 5, (C : Int)) := by unfold C17.took; rw [if_neg c4, if_neg c5]
                rw [et] at hr ⊢
                have HR6 := Aside0.mk hr
                clear hr hb hu et HB5
                go_wp2_with fail
                refine (r_last HR6.out).mono ?_
                rintro e w7 ⟨rfl, hb⟩
                have HB := Aside0.mk (below_step HB6.out hb)
                clear hb
                have v1 := HV.out
                have z2 : (wo == (C : Int) + 1) = false := beq_eq_false_iff_ne.mpr c5
                clear c5 c4
                go_wp2
                go_ret
                exact ⟨rfl, (by repeat (first | (with_reducible first | exact HB.out | apply below_alloc | apply pw_below_drewN | apply below_drew1) | exact HB.out))⟩
        · have y0 : (ep == 5) = false := beq_eq_false_iff_ne.mpr d1
          clear cy hl d1 hN1 hC1
          go_wp2_with fail
          refine (r_take ep wo HR5.out HB5.out (by have := HC.out; omega)).mono ?_
          rintro e w6 ⟨rfl, hr, hb, hu⟩
          have HB6 := Aside0.mk hb
          by_cases c4 : ep < 0
          · have et : C17.took 0 C ep wo = (false, 0, (C : Int)) := by unfold C17.took; rw [if_pos c4]
            rw [et] at hr ⊢
            have HR6 := Aside0.mk hr
            clear hr hb hu et HB5
            go_wp2_with fail
            refine (r_last HR6.out).mono ?_
            rintro e w7 ⟨rfl, hb⟩
            have HB := Aside0.mk (below_step HB6.out hb)
            clear hb
            have z1 : decide (ep ≥ 0) = false := decide_eq_false (by omega)
            go_wp2
            go_ret
            exact ⟨rfl, (by repeat (first | (with_reducible first | exact HB.out | apply below_alloc | apply pw_below_drewN | apply below_drew1) | exact HB.out))⟩
          · have z1 : decide (ep ≥ 0) = true := decide_eq_true (by omega)
            by_cases c5 : wo = C + 1
            · have et : C17.took 0 C ep wo = (true, ep, wo) := by unfold C17.took; rw [if_neg c4, if_pos c5]
              rw [et] at hr ⊢
              have HR6 := Aside0.mk hr
              clear hr hb hu et HB5
              go_wp2_with fail
              refine (r_last HR6.out).mono ?_
              rintro e w7 ⟨rfl, hb⟩
              have HB := Aside0.mk (below_step HB6.out hb)
              clear hb
              have v1 := HV.out
              have z2 : (wo == (C : Int) + 1) = true := beq_iff_eq.mpr c5
              clear c5 c4
              go_wp2
              go_ret
              exact ⟨rfl, (by repeat (first | (with_reducible first | exact HB.out | apply below_alloc | apply pw_below_drewN | apply below_drew1) | exact HB.out))⟩
            · have et : C17.took 0 C ep wo = (false, ep, (C : Int)) := by unfold C17.took; rw [if_neg c4, if_neg c5]
              rw [et] at hr ⊢
              have HR6 := Aside0.mk hr
              clear hr hb hu et HB5
              go_wp2_with fail
              refine (r_last HR6.out).mono ?_
              rintro e w7 ⟨rfl, hb⟩
              have HB := Aside0.mk (below_step HB6.out hb)
              clear hb
              have v1 := HV.out
              have z2 : (wo == (C : Int) + 1) = false := beq_eq_false_iff_ne.mpr c5
              clear c5 c4
              go_wp2
              go_ret
              exact ⟨rfl, (by repeat (first | (with_reducible first | exact HB.out | apply below_alloc | apply pw_below_drewN | apply below_drew1) | exact HB.out))⟩
namespace hopStale
open Go.ChangeShapes Go.WideShapes Go.ChangeAt Go.RowKit
open Go.ChangeMaps (open_string shut_string)
set_option linter.unusedVariables false
theorem own : ownKnob Try.prog.godebug = none := by kernel_rfl
set_option maxRecDepth 100000 in
theorem lifted (os : Os) (started : os.Started) (H : Type) (enc : TypeId × Value → H) :
    ReturnsInHanded {} Try.checked os 9 .any (Rows.hopStaleSpec.pre6 enc Try.prog Try.f9 Rows.hopStaleRow.domain false) (Rows.hopStaleSpec.post enc Try.prog Try.f9 false true false false) := by
  refine returnsInHanded_of_change_sized (C := Try.checked) own started (by kernel_rfl) Try.func9
    (ChangeSpec.witness6 (enc := enc) (C := Try.checked) false ⟨#[], #[.int .i64 0, .int .i64 0, .int .i64 0, .int .i64 0], []⟩ 8 (by kernel_rfl) (by kernel_rfl) (by kernel_rfl) (by kernel_rfl)) ?_
  intro W base args ds gs before hval0 hW hcnd hsz0 _
  have hsz : (DataW.weightsEach Try.prog (Try.f9.params.toList ++ Rows.hopStaleSpec.plain.varTypes Try.prog) (ds ++ gs)).all (· ≤ reachBytes) = true := hsz0
  have hval : ∀ (j : Nat) t v, Try.f9.params[j]? = some t → args[j]? = some v → Value.okWide Try.prog W .any base t v := hval0
  have hW' := hW
  obtain ⟨p, q, hA0, hV, rfl, hfz, hnd⟩ := hW
  have hA : DataW.TrodAll enc Try.prog W 0 (fun _ => true) true Try.f9.params.toList args.toList ds p := hA0
  rw [Try.params9] at hA hval hsz
  obtain ⟨v0, vs0, d0, ds0, p0, q0, hargs, rfl, rfl, h0, r0⟩ := trodAll_cons hA
  obtain ⟨v1, vs1, d1, ds1, p1, q1, rfl, rfl, rfl, h1, r1⟩ := trodAll_cons r0
  obtain ⟨v2, vs2, d2, ds2, p2, q2, rfl, rfl, rfl, h2, r2⟩ := trodAll_cons r1
  obtain ⟨v3, vs3, d3, ds3, p3, q3, rfl, rfl, rfl, h3, r3⟩ := trodAll_cons r2
  obtain ⟨rfl, rfl, rfl⟩ := trodAll_nil r3
  obtain rfl : args = #[v0, v1, v2, v3] := by cases args; simp_all
  obtain ⟨rfl, rfl⟩ := trodVars_none hV
  obtain ⟨a0, rfl, rfl, rfl, w0⟩ := open_int Try.underlying3 (hval 0 3 v0 rfl rfl) h0
  have b0 : -9223372036854775808 ≤ a0 ∧ a0 < 9223372036854775808 := by have := bounds_i64 w0; omega
  obtain ⟨a1, rfl, rfl, rfl, w1⟩ := open_int Try.underlying3 (hval 1 3 v1 rfl rfl) h1
  have b1 : -9223372036854775808 ≤ a1 ∧ a1 < 9223372036854775808 := by have := bounds_i64 w1; omega
  obtain ⟨a2, rfl, rfl, rfl, w2⟩ := open_int Try.underlying3 (hval 2 3 v2 rfl rfl) h2
  have b2 : -9223372036854775808 ≤ a2 ∧ a2 < 9223372036854775808 := by have := bounds_i64 w2; omega
  obtain ⟨a3, rfl, rfl, rfl, w3⟩ := open_int Try.underlying3 (hval 3 3 v3 rfl rfl) h3
  have b3 : -9223372036854775808 ≤ a3 ∧ a3 < 9223372036854775808 := by have := bounds_i64 w3; omega
  clear hA0 hval0 hsz0 hsz
  refine (HopStale_walk a0 a1 a2 a3 W b0 b1 b2 b3).mono fun e W' ⟨he, bel⟩ => ?_
  subst he
  exact ⟨_, rfl, _, _, _, [], _, [], hW', trodAll_mk1 (shut_bool Try.underlying4 _), (trodAll_cons_mk (shut_int Try.underlying3 w0) (trodAll_cons_mk (shut_int Try.underlying3 w1) (trodAll_cons_mk (shut_int Try.underlying3 w2) (trodAll_cons_mk (shut_int Try.underlying3 w3) trodAll_mk0)))), rfl, bel.frame _, fun h => by cases h⟩
theorem over : Rows.hopStaleRow.holds Try.pinned (OpenSpec.ofChange Rows.hopStaleSpec) :=
  OpenClaim.holds_of_wide 9 Try.f9 rfl rfl rfl rfl rfl rfl rfl ⟨rfl, rfl, rfl, rfl, rfl⟩ rfl rfl rfl rfl rfl (by kernel_rfl) Try.func9 (by kernel_rfl)
    (of_decide_eq_true (by kernel_rfl)) (by unfold Func.isWrapper; first | (rw [if_pos (by decide +kernel)]; kernel_rfl) | (rw [if_neg (by decide +kernel)]; exact ⟨rfl, rfl⟩))
    (fun os started H enc _ => lifted os started H enc)
theorem proved : Rows.HopStaleSaid := over
#print axioms proved
end hopStale
/-- The row, under a short name, for the claim. -/
theorem hopStale_holds : Rows.HopStaleSaid := hopStale.proved
end Go.Proofs.Ytmpgknemhmoboaa
