import Derived.Test.YtmpgknemhmoboaaC02r
import Derived.IntWalk
/- Contracts of the document's answer's reader of bytes. -/
namespace Go.Proofs.Ytmpgknemhmoboaa.C02
open Go.RowKit Go.Proofs.YtmpgknemhmoboaaW.PrintWords Go.Proofs.YtmpgknemhmoboaaW.PrintLast Go.Proofs.YtmpgknemhmoboaaW.PrintMore Go.Proofs.Ytmpgknemhmoboaa.M02 Go.Proofs.Ytmpgknemhmoboaa.Base

/-- A reader of the document's answer at block g: the bytes that are left, and what is wrong. -/
def RF (w : World) (g : Nat) (l : List Int) (e : Int) : Prop :=
  ∃ (S : ByteArray) (at_ : Int), w.heap[g]? = some (.cells #[.string S, .int .i64 at_, .int .i64 e] 113 (0, 0)) ∧ 0 ≤ at_ ∧ at_ ≤ S.size ∧ (bytesOf S).drop at_.toNat = l ∧ S.size ≤ 140737488351232

theorem shl7r {b x : Int} (h0 : 0 ≤ b) (hx0 : 0 ≤ x) (hx9 : x ≤ 9) (h9 : x = 9 → b ≤ 1) :
    IntKind.u64.wrap (b % 128 * 2 ^ (7 * x).toNat) = b % 128 * 128 ^ x.toNat := shl7 (by omega) (by omega) hx0 hx9 (by omega)

set_option maxHeartbeats 2000000 in
theorem rf_Num (g : Nat) (l : List Int) (e : Int) (w : World) (hR : RF w g l e) :
    Calls Try.prog 68 #[.pointer (some ⟨g, 0, none⟩)] w fun en w' => en = .returned (.int .u64 (rdNum l e).1) ∧ RF w' g (rdNum l e).2.1 (rdNum l e).2.2 ∧ Upd (· = g) w w' := by
  obtain ⟨S, t, hG, ht0, ht1, hl, hs⟩ := hR
  have hc0 := blk_at hG (i := 0) rfl
  have hc1 := blk_at hG (i := 1) rfl
  have hc2 := blk_at hG (i := 2) rfl
  have hf1 := blk_frozen hG 1
  have hf2 := blk_frozen hG 2
  have HG := Aside0.mk hG
  have HL := Aside0.mk hl
  have HT := Aside0.mk (And.intro ht0 (And.intro ht1 hs))
  clear hG hl ht0 ht1 hs
  by_cases c : e = 0
  · subst c
    have HNum : Aside0 (rdNum l 0 = ((numL 0 0 l).1, l.drop (numL 0 0 l).2.1.toNat, (numL 0 0 l).2.2)) := ⟨rfl⟩
    go_enter Try.func68, Try.ntmps68
    go_wp2
    go_loopg [3, 4] 10 (fun kq v3 v4 w' => ∃ (v x : Int), v3 = .int .u64 v ∧ v4 = .int .i64 x ∧ Aside0 (0 ≤ x ∧ x ≤ 9 ∧ x + kq = 10 ∧ x ≤ l.length) ∧ Aside0 (0 ≤ v ∧ v < 128 ^ x.toNat) ∧ Aside0 (numL x.toNat v (l.drop x.toNat) = numL 0 0 l) ∧ Drawn0 w w')
    case atStart => exact ⟨0, 0, rfl, rfl, ⟨by simp⟩, ⟨by simp⟩, ⟨by simp⟩, Drawn0.refl _⟩
    case round =>
      obtain ⟨v, x, rfl, rfl, HK, HV, HE, ⟨⟨nd, rfl⟩⟩⟩ := hrel
      have cx : decide (x < 10) = true := decide_eq_true (by have := HK.out; omega)
      have hk := HK.out
      have ht := HT.out
      obtain ⟨j, hj⟩ : ∃ j : Int, t + x = j := ⟨_, rfl⟩
      have hjw : IntKind.i64.wrap (t + x) = j := by rw [← hj, IntKind.wrap_i64]; omega
      have HJ := Aside0.mk hj
      clear hk ht hj
      by_cases c : j ≥ S.size
      · have cb : decide ((S.size : Int) ≤ j) = true := decide_eq_true c
        have HLL : Aside0 (numL 0 0 l = (0, 0, 11)) := ⟨by
          have hk := HK.out; have ht := HT.out; have hj := HJ.out
          rw [← HE.out, ← HL.out, List.drop_drop, bytes_end (by omega)]; rfl⟩
        clear c
        go_wp2
        go_quiet (fail)
        go_wp2
        go_ret
        rw [HNum.out, HLL.out]
        exact ⟨rfl, ⟨S, t, blk_set HG.out 2 _, HT.out.1, HT.out.2.1, by simpa using HL.out, HT.out.2.2⟩, ((Upd.refl (· = g) w).drewN _).setCell (p := ⟨g, 2, none⟩) (fun _ => rfl) _⟩
      · have cb : decide ((S.size : Int) ≤ j) = false := decide_eq_false c
        have hj0 : 0 ≤ j := by have hk := HK.out; have ht := HT.out; have hj := HJ.out; omega
        have hlt : j < S.size := by omega
        have HD : Aside0 (l.drop x.toNat = bt S j :: l.drop (x.toNat + 1)) := ⟨by
          have hk := HK.out; have ht := HT.out; have hj := HJ.out
          rw [← HL.out, List.drop_drop, List.drop_drop, bytes_drop (by omega), ← Nat.add_assoc]
          congr 2; omega⟩
        have hat := bt_at S j
        have HR := Aside0.mk (bt_range S j)
        have HLT : Aside0 (x < l.length) := ⟨by
          have hk := HK.out; have ht := HT.out; have hj := HJ.out
          have := congrArg List.length HL.out
          rw [List.length_drop, bytesOf_length] at this
          omega⟩
        replace hj0 := eq_true hj0
        replace hlt := eq_true hlt
        clear c
        go_wp2
        go_quiet (fail)
        go_wp2
        go_quiet (fail)
        go_upto_region 11 with (fail)
        go_cut [54] (fun v54 wc => v54 = .bool (decide ((x = 9 ∧ bt S j > 1) ∨ (x > 0 ∧ bt S j = 0))) ∧ Drawn0 w wc)
        case first =>
          by_cases c9 : x = 9
          · have c9b : (x == 9) = true := beq_iff_eq.mpr c9
            have cx : decide (0 < x) = true := decide_eq_true (by omega)
            by_cases c1 : bt S j > 1
            · have c1b : decide (1 < bt S j) = true := decide_eq_true c1
              have HX : Aside0 (decide ((x = 9 ∧ bt S j > 1) ∨ (x > 0 ∧ bt S j = 0)) = true) := ⟨by simp; omega⟩
              clear c1 c9
              go_wp2
              go_meet
              case rel => exact ⟨by rw [HX.out], by repeat (first | exact Drawn0.refl _ | apply Drawn0.step)⟩
            · have c1b : decide (1 < bt S j) = false := decide_eq_false c1
              have HX : Aside0 (decide ((x = 9 ∧ bt S j > 1) ∨ (x > 0 ∧ bt S j = 0)) = (bt S j == 0)) := ⟨by rw [Bool.eq_iff_iff]; simp; omega⟩
              clear c1 c9
              go_wp2
              go_meet
              case rel => exact ⟨by rw [HX.out], by repeat (first | exact Drawn0.refl _ | apply Drawn0.step)⟩
          · have c9b : (x == 9) = false := beq_eq_false_iff_ne.mpr c9
            by_cases cx : x > 0
            · have cxb : decide (0 < x) = true := decide_eq_true cx
              have HX : Aside0 (decide ((x = 9 ∧ bt S j > 1) ∨ (x > 0 ∧ bt S j = 0)) = (bt S j == 0)) := ⟨by rw [Bool.eq_iff_iff]; simp; omega⟩
              clear cx c9
              go_wp2
              go_meet
              case rel => exact ⟨by rw [HX.out], by repeat (first | exact Drawn0.refl _ | apply Drawn0.step)⟩
            · have cxb : decide (0 < x) = false := decide_eq_false cx
              have HX : Aside0 (decide ((x = 9 ∧ bt S j > 1) ∨ (x > 0 ∧ bt S j = 0)) = false) := ⟨by simp; omega⟩
              clear cx c9
              go_wp2
              go_meet
              case rel => exact ⟨by rw [HX.out], by repeat (first | exact Drawn0.refl _ | apply Drawn0.step)⟩
        case rest =>
          obtain ⟨rfl, ⟨⟨nd2, rfl⟩⟩⟩ := hcut
          clear hat
          by_cases c : (x = 9 ∧ bt S j > 1) ∨ (x > 0 ∧ bt S j = 0)
          · have cb : decide ((x = 9 ∧ bt S j > 1) ∨ (x > 0 ∧ bt S j = 0)) = true := decide_eq_true c
            rw [cb]
            have HLL : Aside0 (numL 0 0 l = (0, 0, 6)) := ⟨by rw [← HE.out, HD.out, numL_bad (by have := HK.out; omega)]⟩
            clear c cb
            go_wp2
            go_ret
            rw [HNum.out, HLL.out]
            exact ⟨rfl, ⟨S, t, blk_set HG.out 2 _, HT.out.1, HT.out.2.1, by simpa using HL.out, HT.out.2.2⟩, ((Upd.refl (· = g) w).drewN _).setCell (p := ⟨g, 2, none⟩) (fun _ => rfl) _⟩
          · have cb : decide ((x = 9 ∧ bt S j > 1) ∨ (x > 0 ∧ bt S j = 0)) = false := decide_eq_false c
            have hb0 : 0 ≤ bt S j := HR.out.1
            have hb1 : bt S j ≤ 255 := HR.out.2
            have hk := HK.out
            have HN := Aside0.mk (num_bits (v := v) (b := bt S j % 128) (k := x.toNat) (by omega) HV.out.1 HV.out.2 (by omega) (by omega) (by omega))
            by_cases cl : bt S j < 128
            · have clb : decide (bt S j < 128) = true := decide_eq_true cl
              have HLL : Aside0 (numL 0 0 l = (v + bt S j % 128 * 128 ^ x.toNat, x + 1, 0)) := ⟨by
                rw [← HE.out, HD.out, numL_last (by omega) cl]
                have : bt S j % 128 = bt S j := by omega
                rw [this, show ((x.toNat : Nat) : Int) = x from by omega]⟩
              have e2 := Aside0.mk (shl7r (b := bt S j) (x := x) (by omega) hk.1 hk.2.1 (by omega))
              have hx0 : 0 ≤ x := hk.1
              have hx9 : x ≤ 9 := hk.2.1
              have hj0 : 0 ≤ j := by have ht := HT.out; have hj := HJ.out; omega
              have hj1 : j ≤ 140737488351232 := by have ht := HT.out; have hlt := of_eq_true hlt; omega
              rw [cb]
              clear c cb hk cl
              go_wp2
              go_ret
              rw [HNum.out, HLL.out]
              have hk := HK.out
              have ht := HT.out
              have hj := HJ.out
              have hlt2 := of_eq_true hlt
              refine ⟨by rw [e2.out, HN.out.1]; rfl, ⟨S, j + 1, blk_set HG.out 1 _, by omega, by omega, ?_, ht.2.2⟩, ((Upd.refl (· = g) w).drewN _).setCell (p := ⟨g, 1, none⟩) (fun _ => rfl) _⟩
              simp only []
              rw [← HL.out, List.drop_drop]
              congr 1
              omega
            · have clb : decide (bt S j < 128) = false := decide_eq_false cl
              have HLL : Aside0 (numL (x.toNat + 1) (v + bt S j % 128 * 128 ^ x.toNat) (l.drop (x.toNat + 1)) = numL 0 0 l) := ⟨by
                rw [← HE.out, HD.out, numL_more (by omega) cl]
                have : bt S j % 128 = bt S j - 128 := by omega
                rw [this]⟩
              have HX8 : Aside0 (x ≤ 8) := ⟨by omega⟩
              have e2 := Aside0.mk (shl7r (b := bt S j) (x := x) (by omega) hk.1 hk.2.1 (by omega))
              have hx0 : 0 ≤ x := hk.1
              have hx9 : x ≤ 9 := hk.2.1
              rw [cb]
              clear c cb hk cl
              go_wp2
              go_roundg (gk - 1)
              case measure => have := HK.out; omega
              case rel =>
                have hk := HK.out
                have h8 := HX8.out
                have hlt := HLT.out
                have et : (x + 1).toNat = x.toNat + 1 := by omega
                refine ⟨_, x + 1, rfl, rfl, ⟨?_⟩, ⟨?_⟩, ⟨?_⟩, by repeat (first | exact Drawn0.refl _ | apply Drawn0.step)⟩
                · omega
                · rw [e2.out, HN.out.1, et]; exact ⟨HN.out.2.2.2, HN.out.2.2.1⟩
                · rw [e2.out, HN.out.1, et]; exact HLL.out
  · have c0 : (e == 0) = false := beq_eq_false_iff_ne.mpr c
    have c1 : (e != 0) = true := bne_iff_ne.mpr c
    have HE : Aside0 (rdNum l e = (0, l, e)) := ⟨by unfold rdNum; rw [if_neg c]⟩
    clear c
    go_enter Try.func68, Try.ntmps68
    go_wp2
    go_ret
    rw [HE.out]
    exact ⟨rfl, ⟨S, t, HG.out, HT.out.1, HT.out.2.1, HL.out, HT.out.2.2⟩, Upd.refl _ _⟩
end Go.Proofs.Ytmpgknemhmoboaa.C02
