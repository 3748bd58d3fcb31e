import Derived.Test.YtnapckkbnpocgaaC02r
/- More contracts of package code's reader: a number of at most so much, one with a sign, a text. -/
namespace Go.Proofs.Ytnapckkbnpocgaa.C02
open Go.RowKit Go.Proofs.YtnapckkbnpocgaaW.PrintWords Go.Proofs.YtnapckkbnpocgaaW.PrintLast Go.Proofs.YtnapckkbnpocgaaW.PrintMore Go.Proofs.Ytnapckkbnpocgaa.M02 Go.Proofs.Ytnapckkbnpocgaa.Base

theorem rdInt_fail {m : Int} {l : List Int} {e : Int} (h : m < 0 ∨ (rdNum l e).1 > m) : rdInt m l e = (0, rdFail 1 (rdNum l e).2.1 (rdNum l e).2.2) ∧ (rdFail 1 (rdNum l e).2.1 (rdNum l e).2.2).2 ≠ 0 := by
  unfold rdInt rdFail
  by_cases h0 : (rdNum l e).2.2 = 0
  · simp [h0, h]
  · simp [h0]
theorem rdInt_err {m : Int} {l : List Int} {e : Int} (h : (rdNum l e).2.2 ≠ 0) : rdInt m l e = (0, (rdNum l e).2) := by
  unfold rdInt; rw [if_pos h]
theorem rdInt_ok {m : Int} {l : List Int} {e : Int} (h : (rdNum l e).2.2 = 0) (hm : ¬ (m < 0 ∨ (rdNum l e).1 > m)) : rdInt m l e = rdNum l e := by
  unfold rdInt; rw [if_neg (fun x => x h), if_neg hm]

set_option maxHeartbeats 1000000 in
theorem rd_Int (m : Int) (g : Nat) (l : List Int) (e : Int) (w : World) (hR : RD w g l e) (hm : -9223372036854775808 ≤ m ∧ m < 9223372036854775808) :
    Calls Try.prog 30 #[.pointer (some ⟨g, 0, none⟩), .int .i64 m] w fun en w' => en = .returned (.int .i64 (rdInt m l e).1) ∧ RD w' g (rdInt m l e).2.1 (rdInt m l e).2.2 ∧ Upd (· = g) w w' := by
  have HR := Aside0.mk hR
  have hlr : ∀ b ∈ l, 0 ≤ b ∧ b ≤ 255 := by obtain ⟨s, _, rfl, _⟩ := hR; exact bytes_range s
  have HV := Aside0.mk (rdNum_range (e := e) hlr)
  clear hR hlr
  obtain ⟨v, hv⟩ : ∃ v, v = (rdNum l e).1 := ⟨_, rfl⟩
  obtain ⟨l1, hl1⟩ : ∃ l1, l1 = (rdNum l e).2.1 := ⟨_, rfl⟩
  obtain ⟨e1, he1⟩ : ∃ e1, e1 = (rdNum l e).2.2 := ⟨_, rfl⟩
  have HN : Aside0 (rdNum l e = (v, l1, e1)) := ⟨by rw [hv, hl1, he1]⟩
  have hv0 : 0 ≤ v := by rw [hv]; exact HV.out.1
  have HVE : Aside0 (e1 ≠ 0 → v = 0) := ⟨by rw [hv, he1]; exact HV.out.2.2⟩
  have HM := Aside0.mk hm
  clear hv hl1 he1 HV hm
  by_cases c : m < 0 ∨ v > m
  · have HF := Aside0.mk (rdInt_fail (m := m) (l := l) (e := e) (by rw [HN.out]; exact c))
    have c1 : ∀ w1, Drawn0 w1 w1 := fun w1 => Drawn0.refl w1
    clear c1
    go_enter Try.func30, Try.ntmps30
    go_wp2_with fail
    refine (rd_Num _ _ _ _ HR.out).mono ?_
    rintro en w1 ⟨rfl, hR1, hU⟩
    rw [HN.out] at hR1 ⊢
    have HR1 := Aside0.mk hR1
    have HU := Aside0.mk hU
    clear hR1 hU HR
    by_cases cm : m < 0
    · have cb : decide (m < 0) = true := decide_eq_true cm
      clear c cm
      go_wp2_with fail
      refine (rd_Fail _ _ _ _ _ HR1.out).mono ?_
      rintro en w2 ⟨rfl, hR2, hU2⟩
      have HF' : Aside0 (rdInt m l e = (0, rdFail 1 l1 e1) ∧ (rdFail 1 l1 e1).2 ≠ 0) := ⟨by have := HF.out; rw [HN.out] at this; exact this⟩
      have HR2 := Aside0.mk hR2
      have HU2 := Aside0.mk (HU.out.then_ hU2)
      obtain ⟨s, hG, _, _⟩ := hR2
      have hc1 := blk_at hG (i := 1) rfl
      have hne : ((rdFail 1 l1 e1).2 != 0) = true := bne_iff_ne.mpr HF'.out.2
      clear hG hU2
      go_wp2
      go_ret
      rw [HF'.out.1]
      exact ⟨rfl, HR2.out, HU2.out⟩
    · have cb : decide (m < 0) = false := decide_eq_false cm
      have cv : decide (m < v) = true := decide_eq_true (by omega)
      have hm0 : 0 ≤ m := by omega
      have hm1 : m ≤ 9223372036854775807 := by have := HM.out; omega
      clear c cm
      go_wp2_with fail
      refine (rd_Fail _ _ _ _ _ HR1.out).mono ?_
      rintro en w2 ⟨rfl, hR2, hU2⟩
      have HF' : Aside0 (rdInt m l e = (0, rdFail 1 l1 e1) ∧ (rdFail 1 l1 e1).2 ≠ 0) := ⟨by have := HF.out; rw [HN.out] at this; exact this⟩
      have HR2 := Aside0.mk hR2
      have HU2 := Aside0.mk (HU.out.then_ hU2)
      obtain ⟨s, hG, _, _⟩ := hR2
      have hc1 := blk_at hG (i := 1) rfl
      have hne : ((rdFail 1 l1 e1).2 != 0) = true := bne_iff_ne.mpr HF'.out.2
      clear hG hU2
      go_wp2
      go_ret
      rw [HF'.out.1]
      exact ⟨rfl, HR2.out, HU2.out⟩
  · have HC := Aside0.mk c
    have cb : decide (m < 0) = false := decide_eq_false (by omega)
    have cv : decide (m < v) = false := decide_eq_false (by omega)
    have hm0 : 0 ≤ m := by omega
    have hm1 : m ≤ 9223372036854775807 := by have := HM.out; omega
    have hvm : v ≤ m := by omega
    clear c
    go_enter Try.func30, Try.ntmps30
    go_wp2_with fail
    refine (rd_Num _ _ _ _ HR.out).mono ?_
    rintro en w1 ⟨rfl, hR1, hU⟩
    rw [HN.out] at hR1 ⊢
    have HR1 := Aside0.mk hR1
    have HU := Aside0.mk hU
    obtain ⟨s, hG, _, _⟩ := hR1
    have hc1 := blk_at hG (i := 1) rfl
    clear hG hU HR
    by_cases ce : e1 = 0
    · have cb0 : (e1 != 0) = false := bne_eq_false_iff_eq.mpr ce
      have HE : Aside0 (rdInt m l e = (v, l1, e1)) := ⟨by rw [rdInt_ok (by rw [HN.out]; exact ce) (by rw [HN.out]; exact HC.out)]; exact HN.out⟩
      clear ce
      go_wp2
      go_ret
      rw [HE.out]
      exact ⟨rfl, HR1.out, HU.out⟩
    · have cb0 : (e1 != 0) = true := bne_iff_ne.mpr ce
      have HE : Aside0 (rdInt m l e = (0, l1, e1)) := ⟨by rw [rdInt_err (by rw [HN.out]; exact ce), HN.out]⟩
      clear ce
      go_wp2
      go_ret
      rw [HE.out]
      exact ⟨rfl, HR1.out, HU.out⟩

set_option maxHeartbeats 1000000 in
theorem rd_Signed (g : Nat) (l : List Int) (e : Int) (w : World) (hR : RD w g l e) :
    Calls Try.prog 32 #[.pointer (some ⟨g, 0, none⟩)] w fun en w' => en = .returned (.int .i64 (rdSigned l e).1) ∧ RD w' g (rdSigned l e).2.1 (rdSigned l e).2.2 ∧ Upd (· = g) w w' := by
  have HR := Aside0.mk hR
  have hlr : ∀ b ∈ l, 0 ≤ b ∧ b ≤ 255 := by obtain ⟨s, _, rfl, _⟩ := hR; exact bytes_range s
  have HV := Aside0.mk (rdNum_range (e := e) hlr)
  clear hR hlr
  obtain ⟨v, hv⟩ : ∃ v, v = (rdNum l e).1 := ⟨_, rfl⟩
  have HN : Aside0 (rdSigned l e = (unsgn v, (rdNum l e).2)) := ⟨by rw [hv]; rfl⟩
  have HX : Aside0 (Go.bits .xor .i64 (wrap64 (v / 2)) (wrap64 (-wrap64 (Go.bits .and .u64 v 1))) = unsgn v) := ⟨by rw [hv]; exact unsgn_code' HV.out.1 HV.out.2.1⟩
  have hv0 : 0 ≤ v := by rw [hv]; exact HV.out.1
  have HVE := Aside0.mk hv
  clear hv HV
  go_enter Try.func32, Try.ntmps32
  go_wp2_with fail
  refine (rd_Num _ _ _ _ HR.out).mono ?_
  rintro en w1 ⟨rfl, hR1, hU⟩
  rw [← HVE.out]
  have HR1 := Aside0.mk hR1
  have HU := Aside0.mk hU
  clear hR1 hU
  go_wp2
  go_ret
  rw [HN.out]
  exact ⟨by rw [← HX.out]; rfl, HR1.out, HU.out⟩

theorem rdText_err {m : Int} {l : List Int} {e : Int} (h : (rdInt m l e).2.2 ≠ 0) : rdText m l e = ([], (rdInt m l e).2) := by unfold rdText; rw [if_pos h]
theorem rdText_short {m : Int} {l : List Int} {e : Int} (h : (rdInt m l e).2.2 = 0) (h2 : (rdInt m l e).1 > (rdInt m l e).2.1.length) : rdText m l e = ([], (rdInt m l e).2.1, 11) := by unfold rdText; rw [if_neg (fun x => x h), if_pos h2]
theorem rdText_ok {m : Int} {l : List Int} {e : Int} (h : (rdInt m l e).2.2 = 0) (h2 : ¬ (rdInt m l e).1 > (rdInt m l e).2.1.length) : rdText m l e = ((rdInt m l e).2.1.take (rdInt m l e).1.toNat, (rdInt m l e).2.1.drop (rdInt m l e).1.toNat, 0) := by unfold rdText; rw [if_neg (fun x => x h), if_neg h2]
theorem rdInt_range {m : Int} {l : List Int} {e : Int} (hl : ∀ b ∈ l, 0 ≤ b ∧ b ≤ 255) : 0 ≤ (rdInt m l e).1 ∧ ((rdInt m l e).2.2 ≠ 0 → (rdInt m l e).1 = 0) ∧ ((rdInt m l e).2.2 = 0 → (rdInt m l e).1 ≤ m) ∧ ((rdInt m l e).1 = 0 ∨ (rdInt m l e).1 ≤ m) := by
  have := rdNum_range (e := e) hl
  by_cases h : (rdNum l e).2.2 = 0
  · by_cases h2 : m < 0 ∨ (rdNum l e).1 > m
    · rw [(rdInt_fail h2).1]; exact ⟨by simp, fun _ => rfl, fun h3 => absurd h3 (rdInt_fail h2).2, .inl rfl⟩
    · rw [rdInt_ok h h2]; exact ⟨this.1, this.2.2, fun _ => by omega, .inr (by omega)⟩
  · rw [rdInt_err h]; exact ⟨by simp, fun _ => rfl, fun h3 => absurd h3 h, .inl rfl⟩

set_option maxHeartbeats 1000000 in
theorem rd_Text (m : Int) (g : Nat) (l : List Int) (e : Int) (w : World) (hR : RD w g l e) (hm : -9223372036854775808 ≤ m ∧ m < 9223372036854775808) :
    Calls Try.prog 34 #[.pointer (some ⟨g, 0, none⟩), .int .i64 m] w fun en w' => en = .returned (.string (strOfNums (rdText m l e).1)) ∧ RD w' g (rdText m l e).2.1 (rdText m l e).2.2 ∧ Upd (· = g) w w' := by
  have HR := Aside0.mk hR
  have hlr : ∀ b ∈ l, 0 ≤ b ∧ b ≤ 255 := by obtain ⟨s, _, rfl, _⟩ := hR; exact bytes_range s
  have HV := Aside0.mk (rdInt_range (m := m) (e := e) hlr)
  have HM := Aside0.mk hm
  clear hR hlr hm
  obtain ⟨v, hv⟩ : ∃ v, v = (rdInt m l e).1 := ⟨_, rfl⟩
  obtain ⟨l1, hl1⟩ : ∃ l1, l1 = (rdInt m l e).2.1 := ⟨_, rfl⟩
  obtain ⟨e1, he1⟩ : ∃ e1, e1 = (rdInt m l e).2.2 := ⟨_, rfl⟩
  have HN : Aside0 (rdInt m l e = (v, l1, e1)) := ⟨by rw [hv, hl1, he1]⟩
  have hv0 : 0 ≤ v := by rw [hv]; exact HV.out.1
  have HVE : Aside0 (e1 ≠ 0 → v = 0) := ⟨by rw [hv, he1]; exact HV.out.2.1⟩
  clear hv hl1 he1 HV
  go_enter Try.func34, Try.ntmps34
  go_wp2_with fail
  refine (rd_Int _ _ _ _ _ HR.out HM.out).mono ?_
  rintro en w1 ⟨rfl, hR1, hU⟩
  rw [HN.out] at hR1 ⊢
  replace hR1 : RD w1 g l1 e1 := hR1
  have HR1 := Aside0.mk hR1
  have HU := Aside0.mk hU
  obtain ⟨s, hG, hs, hsz⟩ := hR1
  have hc0 := blk_at hG (i := 0) rfl
  have hc1 := blk_at hG (i := 1) rfl
  have hf0 := blk_frozen hG 0
  have HG := Aside0.mk hG
  have HS := Aside0.mk hs
  have HSZ := Aside0.mk hsz
  have HLEN : Aside0 (l1.length = s.size) := ⟨by rw [← hs, bytesOf_length]⟩
  clear hG hU HR hs hsz
  by_cases c : v > s.size
  · have cb : decide ((s.size : Int) < v) = true := decide_eq_true c
    have HC := Aside0.mk c
    clear c
    go_wp2_with fail
    refine (rd_Fail _ _ _ _ _ HR1.out).mono ?_
    rintro en w2 ⟨rfl, hR2, hU2⟩
    have he1 : e1 = 0 := Classical.byContradiction fun h => by have := HVE.out h; have := HC.out; omega
    have HE : Aside0 (rdText m l e = ([], l1, 11)) := ⟨by rw [rdText_short (by rw [HN.out]; exact he1) (by rw [HN.out]; have := HLEN.out; have := HC.out; simp only; omega), HN.out]⟩
    have hR3 : RD w2 g l1 11 := by have h := hR2; simp only [rdFail, if_pos he1] at h; exact h
    have HR3 := Aside0.mk hR3
    have HU2 := Aside0.mk (HU.out.then_ hU2)
    obtain ⟨s2, hG2, _, _⟩ := hR3
    clear hc0 hc1 hf0 he1 hR2 hU2
    have hc1 := blk_at hG2 (i := 1) rfl
    clear hG2
    go_wp2
    go_ret
    rw [HE.out]
    exact ⟨rfl, HR3.out, HU2.out⟩
  · have cb : decide ((s.size : Int) < v) = false := decide_eq_false c
    have hle : v ≤ s.size := by omega
    by_cases ce : e1 = 0
    · have cb0 : (e1 != 0) = false := bne_eq_false_iff_eq.mpr ce
      have HE : Aside0 (rdText m l e = (l1.take v.toNat, l1.drop v.toNat, 0)) := ⟨by rw [rdText_ok (by rw [HN.out]; exact ce) (by rw [HN.out]; have := HLEN.out; simp only; omega), HN.out]⟩
      have HCE := Aside0.mk ce
      clear ce c
      go_wp2
      go_ret
      rw [HE.out]
      have hG2 := blk_set HG.out 0 (.string (s.extract v.toNat s.size))
      rw [HCE.out] at hG2
      refine ⟨?_, ⟨_, hG2, ?_, by rw [ByteArray.size_extract]; have := HSZ.out; omega⟩, HU.out.setCell (fun _ => rfl) _⟩
      · rw [← HS.out, show (bytesOf s).take v.toNat = bytesOf (s.extract 0 v.toNat) from by rw [bytesOf_extract, List.drop_zero], strOfNums_bytesOf]; rfl
      · rw [bytesOf_extract, ← bytesOf_length, List.take_length, HS.out]
    · have cb0 : (e1 != 0) = true := bne_iff_ne.mpr ce
      have HE : Aside0 (rdText m l e = ([], l1, e1)) := ⟨by rw [rdText_err (by rw [HN.out]; exact ce), HN.out]⟩
      clear ce c
      go_wp2
      go_ret
      rw [HE.out]
      exact ⟨rfl, HR1.out, HU.out⟩
end Go.Proofs.Ytnapckkbnpocgaa.C02
