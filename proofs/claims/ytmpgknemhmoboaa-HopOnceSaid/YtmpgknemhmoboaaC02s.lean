import Derived.Test.YtmpgknemhmoboaaC02r
/- More contracts of package code's reader: a number of at most so much, one with a sign, a text. -/
namespace Go.Proofs.Ytmpgknemhmoboaa.C02
open Go.RowKit Go.Proofs.YtmpgknemhmoboaaW.PrintWords Go.Proofs.YtmpgknemhmoboaaW.PrintLast Go.Proofs.YtmpgknemhmoboaaW.PrintMore Go.Proofs.Ytmpgknemhmoboaa.M02 Go.Proofs.Ytmpgknemhmoboaa.Base

theorem rdInt_fail {m : Int} {l : List Int} {e : Int} (h : m < 0 ∨ (rdNum l e).1 > m) : rdInt m l e = (0, rdFail 1 (rdNum l e).2.1 (rdNum l e).2.2) ∧ (rdFail 1 (rdNum l e).2.1 (rdNum l e).2.2).2 ≠ 0 := by
  unfold rdInt rdFail
  by_cases h0 : (rdNum l e).2.2 = 0
  · simp [h0, h]
  · simp [h0]
theorem rdInt_err {m : Int} {l : List Int} {e : Int} (h : (rdNum l e).2.2 ≠ 0) : rdInt m l e = (0, (rdNum l e).2) := by
  unfold rdInt; rw [if_pos h]
theorem rdInt_ok {m : Int} {l : List Int} {e : Int} (h : (rdNum l e).2.2 = 0) (hm : ¬ (m < 0 ∨ (rdNum l e).1 > m)) : rdInt m l e = rdNum l e := by
  unfold rdInt; rw [if_neg (fun x => x h), if_neg hm]

set_option maxHeartbeats 1000000 in
theorem rd_Int (m : Int) (g : Nat) (l : List Int) (e : Int) (w : World) (hR : RD w g l e) (hm : -9223372036854775808 ≤ m ∧ m < 9223372036854775808) :
    Calls Try.prog 56 #[.pointer (some ⟨g, 0, none⟩), .int .i64 m] w fun en w' => en = .returned (.int .i64 (rdInt m l e).1) ∧ RD w' g (rdInt m l e).2.1 (rdInt m l e).2.2 ∧ Upd (· = g) w w' := by
  have HR := Aside0.mk hR
  have hlr : ∀ b ∈ l, 0 ≤ b ∧ b ≤ 255 := by obtain ⟨s, _, rfl, _⟩ := hR; exact bytes_range s
  have HV := Aside0.mk (rdNum_range (e := e) hlr)
  clear hR hlr
  obtain ⟨v, hv⟩ : ∃ v, v = (rdNum l e).1 := ⟨_, rfl⟩
  obtain ⟨l1, hl1⟩ : ∃ l1, l1 = (rdNum l e).2.1 := ⟨_, rfl⟩
  obtain ⟨e1, he1⟩ : ∃ e1, e1 = (rdNum l e).2.2 := ⟨_, rfl⟩
  have HN : Aside0 (rdNum l e = (v, l1, e1)) := ⟨by rw [hv, hl1, he1]⟩
  have hv0 : 0 ≤ v := by rw [hv]; exact HV.out.1
  have HVE : Aside0 (e1 ≠ 0 → v = 0) := ⟨by rw [hv, he1]; exact HV.out.2.2⟩
  have HM := Aside0.mk hm
  clear hv hl1 he1 HV hm
  by_cases c : m < 0 ∨ v > m
  · have HF := Aside0.mk (rdInt_fail (m := m) (l := l) (e := e) (by rw [HN.out]; exact c))
    have c1 : ∀ w1, Drawn0 w1 w1 := fun w1 => Drawn0.refl w1
    clear c1
    go_enter Try.func56, Try.ntmps56
    go_wp2_with fail
    refine (rd_Num _ _ _ _ HR.out).mono ?_
    rintro en w1 ⟨rfl, hR1, hU⟩
    rw [HN.out] at hR1 ⊢
    have HR1 := Aside0.mk hR1
    have HU := Aside0.mk hU
    clear hR1 hU HR
    by_cases cm : m < 0
    · have cb : decide (m < 0) = true := decide_eq_true cm
      clear c cm
      go_wp2_with fail
      refine (rd_Fail _ _ _ _ _ HR1.out).mono ?_
      rintro en w2 ⟨rfl, hR2, hU2⟩
      have HF' : Aside0 (rdInt m l e = (0, rdFail 1 l1 e1) ∧ (rdFail 1 l1 e1).2 ≠ 0) := ⟨by have := HF.out; rw [HN.out] at this; exact this⟩
      have HR2 := Aside0.mk hR2
      have HU2 := Aside0.mk (HU.out.then_ hU2)
      obtain ⟨s, hG, _, _⟩ := hR2
      have hc1 := blk_at hG (i := 1) rfl
      have hne : ((rdFail 1 l1 e1).2 != 0) = true := bne_iff_ne.mpr HF'.out.2
      clear hG hU2
      go_wp2
      go_ret
      rw [HF'.out.1]
      exact ⟨rfl, HR2.out, HU2.out⟩
    · have cb : decide (m < 0) = false := decide_eq_false cm
      have cv : decide (m < v) = true := decide_eq_true (by omega)
      have hm0 : 0 ≤ m := by omega
      have hm1 : m ≤ 9223372036854775807 := by have := HM.out; omega
      clear c cm
      go_wp2_with fail
      refine (rd_Fail _ _ _ _ _ HR1.out).mono ?_
      rintro en w2 ⟨rfl, hR2, hU2⟩
      have HF' : Aside0 (rdInt m l e = (0, rdFail 1 l1 e1) ∧ (rdFail 1 l1 e1).2 ≠ 0) := ⟨by have := HF.out; rw [HN.out] at this; exact this⟩
      have HR2 := Aside0.mk hR2
      have HU2 := Aside0.mk (HU.out.then_ hU2)
      obtain ⟨s, hG, _, _⟩ := hR2
      have hc1 := blk_at hG (i := 1) rfl
      have hne : ((rdFail 1 l1 e1).2 != 0) = true := bne_iff_ne.mpr HF'.out.2
      clear hG hU2
      go_wp2
      go_ret
      rw [HF'.out.1]
      exact ⟨rfl, HR2.out, HU2.out⟩
  · have HC := Aside0.mk c
    have cb : decide (m < 0) = false := decide_eq_false (by omega)
    have cv : decide (m < v) = false := decide_eq_false (by omega)
    have hm0 : 0 ≤ m := by omega
    have hm1 : m ≤ 9223372036854775807 := by have := HM.out; omega
    have hvm : v ≤ m := by omega
    clear c
    go_enter Try.func56, Try.ntmps56
    go_wp2_with fail
    refine (rd_Num _ _ _ _ HR.out).mono ?_
    rintro en w1 ⟨rfl, hR1, hU⟩
    rw [HN.out] at hR1 ⊢
    have HR1 := Aside0.mk hR1
    have HU := Aside0.mk hU
    obtain ⟨s, hG, _, _⟩ := hR1
    have hc1 := blk_at hG (i := 1) rfl
    clear hG hU HR
    by_cases ce : e1 = 0
    · have cb0 : (e1 != 0) = false := bne_eq_false_iff_eq.mpr ce
      have HE : Aside0 (rdInt m l e = (v, l1, e1)) := ⟨by rw [rdInt_ok (by rw [HN.out]; exact ce) (by rw [HN.out]; exact HC.out)]; exact HN.out⟩
      clear ce
      go_wp2
      go_ret
      rw [HE.out]
      exact ⟨rfl, HR1.out, HU.out⟩
    · have cb0 : (e1 != 0) = true := bne_iff_ne.mpr ce
      have HE : Aside0 (rdInt m l e = (0, l1, e1)) := ⟨by rw [rdInt_err (by rw [HN.out]; exact ce), HN.out]⟩
      clear ce
      go_wp2
      go_ret
      rw [HE.out]
      exact ⟨rfl, HR1.out, HU.out⟩


end Go.Proofs.Ytmpgknemhmoboaa.C02
