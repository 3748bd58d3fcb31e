import Derived.Test.YtnapckkbnpocgaaC02q
import Derived.Test.YtnapckkbnpocgaaC02s
/- More contracts of the document's answer's reader of bytes. -/
namespace Go.Proofs.Ytnapckkbnpocgaa.C02
open Go.RowKit Go.Proofs.YtnapckkbnpocgaaW.PrintWords Go.Proofs.YtnapckkbnpocgaaW.PrintLast Go.Proofs.YtnapckkbnpocgaaW.PrintMore Go.Proofs.Ytnapckkbnpocgaa.M02 Go.Proofs.Ytnapckkbnpocgaa.Base

theorem RF.range {w : World} {g : Nat} {l : List Int} {e : Int} (hR : RF w g l e) : ∀ b ∈ l, 0 ≤ b ∧ b ≤ 255 := by
  obtain ⟨S, t, _, _, _, rfl, _⟩ := hR
  exact fun b hb => bytes_range S b (List.mem_of_mem_drop hb)

theorem RF.upd {F : Nat → Prop} {w w' : World} {g : Nat} {l : List Int} {e : Int} (h : RF w g l e) (k : Upd F w w') (hn : ¬ F g) : RF w' g l e := by
  obtain ⟨S, t, hG, hs⟩ := h
  exact ⟨S, t, k.blk hG hn, hs⟩
theorem RF.below {w w' : World} {g : Nat} {l : List Int} {e : Int} (h : RF w g l e) (k : Below w.heap.size w w') : RF w' g l e := h.upd (Upd.of_below (F := fun _ => False) k) (fun x => x)
theorem RF.lt {w : World} {g : Nat} {l : List Int} {e : Int} (h : RF w g l e) : g < w.heap.size := by
  obtain ⟨S, t, hG, _⟩ := h
  exact blk_lt hG

set_option maxHeartbeats 1000000 in
theorem rf_Int (m : Int) (g : Nat) (l : List Int) (e : Int) (w : World) (hR : RF w g l e) (hm : -9223372036854775808 ≤ m ∧ m < 9223372036854775808) :
    Calls Try.prog 31 #[.pointer (some ⟨g, 0, none⟩), .int .i64 m] w fun en w' => en = .returned (.int .i64 (rdInt m l e).1) ∧ RF w' g (rdInt m l e).2.1 (rdInt m l e).2.2 ∧ Upd (· = g) w w' := by
  have HR := Aside0.mk hR
  have HV := Aside0.mk (rdNum_range (e := e) hR.range)
  clear hR
  obtain ⟨v, hv⟩ : ∃ v, v = (rdNum l e).1 := ⟨_, rfl⟩
  obtain ⟨l1, hl1⟩ : ∃ l1, l1 = (rdNum l e).2.1 := ⟨_, rfl⟩
  obtain ⟨e1, he1⟩ : ∃ e1, e1 = (rdNum l e).2.2 := ⟨_, rfl⟩
  have HN : Aside0 (rdNum l e = (v, l1, e1)) := ⟨by rw [hv, hl1, he1]⟩
  have hv0 : 0 ≤ v := by rw [hv]; exact HV.out.1
  have HM := Aside0.mk hm
  clear hv hl1 he1 HV hm
  go_enter Try.func31, Try.ntmps31
  go_wp2_with fail
  refine (rf_Num _ _ _ _ HR.out).mono ?_
  rintro en w1 ⟨rfl, hR1, hU⟩
  rw [HN.out] at hR1 ⊢
  replace hR1 : RF w1 g l1 e1 := hR1
  have HR1 := Aside0.mk hR1
  have HU := Aside0.mk hU
  obtain ⟨S, t, hG, ht0, ht1, hl, hs⟩ := hR1
  have hc2 := blk_at hG (i := 2) rfl
  have hf2 := blk_frozen hG 2
  have HG := Aside0.mk hG
  have HT := Aside0.mk (And.intro ht0 (And.intro ht1 (And.intro hl hs)))
  clear hG hU HR ht0 ht1 hl hs
  by_cases ce : e1 = 0
  · have cb0 : (e1 == 0) = true := beq_iff_eq.mpr ce
    by_cases c : m < 0 ∨ v > m
    · have HE : Aside0 (rdInt m l e = (0, l1, 1)) := ⟨by rw [(rdInt_fail (by rw [HN.out]; exact c)).1, HN.out]; simp [rdFail, ce]⟩
      subst ce
      clear cb0
      by_cases cm : m < 0
      · have cb : decide (m < 0) = true := decide_eq_true cm
        clear c cm
        go_wp2
        go_ret
        rw [HE.out]
        exact ⟨rfl, ⟨S, t, blk_set HG.out 2 _, HT.out.1, HT.out.2.1, HT.out.2.2.1, HT.out.2.2.2⟩, HU.out.setCell (fun _ => rfl) _⟩
      · have cb : decide (m < 0) = false := decide_eq_false cm
        have cv : decide (m < v) = true := decide_eq_true (by omega)
        have hm0 : 0 ≤ m := by omega
        have hm1 : m ≤ 9223372036854775807 := by have := HM.out; omega
        clear c cm
        go_wp2
        go_ret
        rw [HE.out]
        exact ⟨rfl, ⟨S, t, blk_set HG.out 2 _, HT.out.1, HT.out.2.1, HT.out.2.2.1, HT.out.2.2.2⟩, HU.out.setCell (fun _ => rfl) _⟩
    · have HE : Aside0 (rdInt m l e = (v, l1, 0)) := ⟨by rw [rdInt_ok (by rw [HN.out]; exact ce) (by rw [HN.out]; exact c), HN.out, ce]⟩
      have cb : decide (m < 0) = false := decide_eq_false (by omega)
      have cv : decide (m < v) = false := decide_eq_false (by omega)
      have hm0 : 0 ≤ m := by omega
      have hm1 : m ≤ 9223372036854775807 := by have := HM.out; omega
      have hvm : v ≤ m := by omega
      subst ce
      clear c cb0
      go_wp2
      go_ret
      rw [HE.out]
      exact ⟨rfl, HR1.out, HU.out⟩
  · have cb0 : (e1 == 0) = false := beq_eq_false_iff_ne.mpr ce
    have cb1 : (e1 != 0) = true := bne_iff_ne.mpr ce
    have HE : Aside0 (rdInt m l e = (0, l1, e1)) := ⟨by rw [rdInt_err (by rw [HN.out]; exact ce), HN.out]⟩
    clear ce
    go_wp2
    go_ret
    rw [HE.out]
    exact ⟨rfl, HR1.out, HU.out⟩

set_option maxHeartbeats 1000000 in
theorem rf_Signed (g : Nat) (l : List Int) (e : Int) (w : World) (hR : RF w g l e) :
    Calls Try.prog 33 #[.pointer (some ⟨g, 0, none⟩)] w fun en w' => en = .returned (.int .i64 (rdSigned l e).1) ∧ RF w' g (rdSigned l e).2.1 (rdSigned l e).2.2 ∧ Upd (· = g) w w' := by
  have HR := Aside0.mk hR
  have HV := Aside0.mk (rdNum_range (e := e) hR.range)
  clear hR
  obtain ⟨v, hv⟩ : ∃ v, v = (rdNum l e).1 := ⟨_, rfl⟩
  have hv0 : 0 ≤ v := by rw [hv]; exact HV.out.1
  have HV1 : Aside0 (v < 18446744073709551616) := ⟨by rw [hv]; exact HV.out.2.1⟩
  have HVE := Aside0.mk hv
  by_cases c : v % 2 = 1
  · have HN : Aside0 (rdSigned l e = (-(v / 2) - 1, (rdNum l e).2)) := ⟨by unfold rdSigned unsgn; rw [← hv, if_pos c]⟩
    have cb : (v % 2 == 1) = true := beq_iff_eq.mpr c
    have HW : Aside0 (wrap64 (wrap64 (-wrap64 (IntKind.u64.wrap (v.tdiv 2))) - 1) = -(v / 2) - 1) := ⟨by have := HV1.out; rw [wrap_u64, Int.tdiv_eq_ediv_of_nonneg hv0]; unfold wrap64; omega⟩
    clear hv HV c
    go_enter Try.func33, Try.ntmps33
    go_wp2_with fail
    refine (rf_Num _ _ _ _ HR.out).mono ?_
    rintro en w1 ⟨rfl, hR1, hU⟩
    rw [← HVE.out]
    have HR1 := Aside0.mk hR1
    have HU := Aside0.mk hU
    clear hR1 hU
    go_wp2
    go_ret
    rw [HN.out]
    exact ⟨by rw [← HW.out]; rfl, HR1.out, HU.out⟩
  · have HN : Aside0 (rdSigned l e = (v / 2, (rdNum l e).2)) := ⟨by unfold rdSigned unsgn; rw [← hv, if_neg c]⟩
    have cb : (v % 2 == 1) = false := beq_eq_false_iff_ne.mpr c
    have HW : Aside0 (wrap64 (IntKind.u64.wrap (v.tdiv 2)) = v / 2) := ⟨by have := HV1.out; rw [wrap_u64, Int.tdiv_eq_ediv_of_nonneg hv0]; unfold wrap64; omega⟩
    clear hv HV c
    go_enter Try.func33, Try.ntmps33
    go_wp2_with fail
    refine (rf_Num _ _ _ _ HR.out).mono ?_
    rintro en w1 ⟨rfl, hR1, hU⟩
    rw [← HVE.out]
    have HR1 := Aside0.mk hR1
    have HU := Aside0.mk hU
    clear hR1 hU
    go_wp2
    go_ret
    rw [HN.out]
    exact ⟨by rw [← HW.out]; rfl, HR1.out, HU.out⟩

set_option maxHeartbeats 1000000 in
theorem rf_Fail (x : Int) (g : Nat) (l : List Int) (e : Int) (w : World) (hR : RF w g l e) :
    Calls Try.prog 37 #[.pointer (some ⟨g, 0, none⟩), .int .i64 x] w fun en w' => en = .returned (.tuple #[]) ∧ RF w' g (rdFail x l e).1 (rdFail x l e).2 ∧ Upd (· = g) w w' := by
  have HR := Aside0.mk hR
  obtain ⟨S, t, hG, hs⟩ := hR
  have hc1 := blk_at hG (i := 2) rfl
  have hf1 := blk_frozen hG 2
  have HG := Aside0.mk hG
  have HS := Aside0.mk hs
  clear hG hs
  by_cases c : e = 0
  · subst c
    go_enter Try.func37, Try.ntmps37
    go_wp2
    go_end0
    exact ⟨rfl, ⟨S, t, blk_set HG.out 2 _, HS.out⟩, (Upd.refl (· = g) _).setCell (p := ⟨g, 2, none⟩) (fun _ => rfl) _⟩
  · have c0 : (e == 0) = false := beq_eq_false_iff_ne.mpr c
    have HE : Aside0 (rdFail x l e = (l, e)) := ⟨by unfold rdFail; rw [if_neg c]⟩
    clear c
    go_enter Try.func37, Try.ntmps37
    go_wp2
    go_end0
    rw [HE.out]
    exact ⟨rfl, HR.out, Upd.refl _ _⟩

theorem drop_ne {S : ByteArray} {t : Int} (h0 : 0 ≤ t) (h : t < S.size) : (bytesOf S).drop t.toNat ≠ [] := by
  intro h2
  have := congrArg List.length h2
  rw [List.length_drop, bytesOf_length] at this
  simp at this
  omega
theorem drop_nil {S : ByteArray} {t : Int} (h : ¬ t < S.size) : (bytesOf S).drop t.toNat = [] := bytes_end (by omega)

set_option maxHeartbeats 1000000 in
theorem rf_End (g : Nat) (l : List Int) (e : Int) (w : World) (hR : RF w g l e) :
    Calls Try.prog 39 #[.pointer (some ⟨g, 0, none⟩)] w fun en w' => en = .returned (.int .i64 (rdEnd l e)) ∧ RF w' g l (rdEnd l e) ∧ Upd (· = g) w w' := by
  have HR := Aside0.mk hR
  obtain ⟨S, t, hG, ht0, ht1, hl, hs⟩ := hR
  have hc0 := blk_at hG (i := 0) rfl
  have hc1 := blk_at hG (i := 1) rfl
  have hc2 := blk_at hG (i := 2) rfl
  have hf2 := blk_frozen hG 2
  have HG := Aside0.mk hG
  have HT := Aside0.mk (And.intro ht0 (And.intro ht1 (And.intro hl hs)))
  by_cases ce : e = 0
  · subst ce
    by_cases c : t < S.size
    · have cb : decide (t < S.size) = true := decide_eq_true c
      have HE : Aside0 (rdEnd l 0 = 7) := ⟨by unfold rdEnd; rw [if_pos ⟨rfl, by rw [← hl]; exact drop_ne ht0 c⟩]⟩
      clear hG ht0 ht1 hl hs c
      go_enter Try.func39, Try.ntmps39
      go_wp2
      go_quiet (fail)
      go_wp2
      go_ret
      rw [HE.out]
      exact ⟨rfl, ⟨S, t, blk_set HG.out 2 _, HT.out⟩, ((Upd.refl (· = g) w).drewN _).setCell (p := ⟨g, 2, none⟩) (fun _ => rfl) _⟩
    · have cb : decide (t < S.size) = false := decide_eq_false c
      have HE : Aside0 (rdEnd l 0 = 0) := ⟨by unfold rdEnd; rw [if_neg]; rintro ⟨_, h⟩; exact h (by rw [← hl]; exact drop_nil c)⟩
      clear hG ht0 ht1 hl hs c
      go_enter Try.func39, Try.ntmps39
      go_wp2
      go_quiet (fail)
      go_wp2
      go_ret
      rw [HE.out]
      exact ⟨rfl, HR.out, (Upd.refl (· = g) w).drewN _⟩
  · have cb0 : (e == 0) = false := beq_eq_false_iff_ne.mpr ce
    have HE : Aside0 (rdEnd l e = e) := ⟨by unfold rdEnd; rw [if_neg (fun h => ce h.1)]⟩
    clear hG ht0 ht1 hl hs ce
    go_enter Try.func39, Try.ntmps39
    go_wp2
    go_quiet (fail)
    go_wp2
    go_ret
    rw [HE.out]
    exact ⟨rfl, HR.out, (Upd.refl (· = g) w).drewN _⟩

set_option maxHeartbeats 1000000 in
theorem rf_Left (g : Nat) (l : List Int) (e : Int) (w : World) (hR : RF w g l e) :
    Calls Try.prog 41 #[.pointer (some ⟨g, 0, none⟩)] w fun en w' => en = .returned (.int .i64 l.length) ∧ ∃ n, w' = w.drewN n := by
  obtain ⟨S, t, hG, ht0, ht1, hl, hs⟩ := hR
  have hc0 := blk_at hG (i := 0) rfl
  have hc1 := blk_at hG (i := 1) rfl
  have HL : Aside0 ((l.length : Int) = S.size - t) := ⟨by rw [← hl, List.length_drop, bytesOf_length]; omega⟩
  have hw : IntKind.i64.wrap (S.size - t) = S.size - t := by rw [IntKind.wrap_i64]; omega
  clear hG hl hs
  go_enter Try.func41, Try.ntmps41
  go_wp2
  go_quiet (fail)
  go_wp2
  go_ret
  rw [HL.out]
  exact ⟨rfl, _, rfl⟩

set_option maxHeartbeats 1000000 in
theorem rf_Text (m : Int) (g : Nat) (l : List Int) (e : Int) (w : World) (hR : RF w g l e) (hm : -9223372036854775808 ≤ m ∧ m < 9223372036854775808) :
    Calls Try.prog 35 #[.pointer (some ⟨g, 0, none⟩), .int .i64 m] w fun en w' => en = .returned (.string (strOfNums (rdText m l e).1)) ∧ RF w' g (rdText m l e).2.1 (rdText m l e).2.2 ∧ Upd (· = g) w w' := by
  have HR := Aside0.mk hR
  have HV := Aside0.mk (rdInt_range (m := m) (e := e) hR.range)
  have HM := Aside0.mk hm
  clear hR hm
  obtain ⟨v, hv⟩ : ∃ v, v = (rdInt m l e).1 := ⟨_, rfl⟩
  obtain ⟨l1, hl1⟩ : ∃ l1, l1 = (rdInt m l e).2.1 := ⟨_, rfl⟩
  obtain ⟨e1, he1⟩ : ∃ e1, e1 = (rdInt m l e).2.2 := ⟨_, rfl⟩
  have HN : Aside0 (rdInt m l e = (v, l1, e1)) := ⟨by rw [hv, hl1, he1]⟩
  have hv0 : 0 ≤ v := by rw [hv]; exact HV.out.1
  clear hv hl1 he1 HV
  go_enter Try.func35, Try.ntmps35
  go_wp2_with fail
  refine (rf_Int _ _ _ _ _ HR.out HM.out).mono ?_
  rintro en w1 ⟨rfl, hR1, hU⟩
  rw [HN.out] at hR1 ⊢
  replace hR1 : RF w1 g l1 e1 := hR1
  have HR1 := Aside0.mk hR1
  have HU := Aside0.mk hU
  obtain ⟨S, t, hG, ht0, ht1, hl, hs⟩ := hR1
  have hc0 := blk_at hG (i := 0) rfl
  have hc1 := blk_at hG (i := 1) rfl
  have hc2 := blk_at hG (i := 2) rfl
  have hf1 := blk_frozen hG 1
  have hf2 := blk_frozen hG 2
  have HG := Aside0.mk hG
  have HT := Aside0.mk (And.intro ht0 (And.intro ht1 (And.intro hl hs)))
  have HLEN : Aside0 ((l1.length : Int) = S.size - t) := ⟨by rw [← hl, List.length_drop, bytesOf_length]; omega⟩
  clear hG hU HR hl
  by_cases ce : e1 = 0
  · subst ce
    obtain ⟨d, hd⟩ : ∃ d : Int, (S.size : Int) - t = d := ⟨_, rfl⟩
    have hw : IntKind.i64.wrap ((S.size : Int) - t) = d := by rw [IntKind.wrap_i64]; omega
    have HD := Aside0.mk hd
    by_cases c : v > d
    · have cb : decide (d < v) = true := decide_eq_true c
      have HE : Aside0 (rdText m l e = ([], l1, 11)) := ⟨by rw [rdText_short (by rw [HN.out]) (by rw [HN.out]; have := HLEN.out; simp only; omega), HN.out]⟩
      clear c hd ht0 ht1 hs
      go_wp2
      go_quiet (fail)
      go_wp2
      go_ret
      rw [HE.out]
      exact ⟨rfl, ⟨S, t, blk_set HG.out 2 _, HT.out⟩, (HU.out.drewN _).setCell (p := ⟨g, 2, none⟩) (fun _ => rfl) _⟩
    · have cb : decide (d < v) = false := decide_eq_false c
      have HE : Aside0 (rdText m l e = (l1.take v.toNat, l1.drop v.toNat, 0)) := ⟨by rw [rdText_ok (by rw [HN.out]) (by rw [HN.out]; have := HLEN.out; simp only; omega), HN.out]⟩
      obtain ⟨t2, ht2⟩ : ∃ t2 : Int, t + v = t2 := ⟨_, rfl⟩
      have hw2 : IntKind.i64.wrap (t + v) = t2 := by rw [IntKind.wrap_i64]; omega
      have hw3 : IntKind.i64.wrap (t2 - v) = t := by rw [IntKind.wrap_i64]; omega
      have h01 : t ≤ t2 := by omega
      have h02 : 0 ≤ t2 := by omega
      have h03 : t2 ≤ S.size := by omega
      have HT2 := Aside0.mk ht2
      clear c hd ht2 ht1 hs
      go_wp2
      go_quiet (fail)
      go_wp2
      go_quiet (fail)
      go_wp2
      go_ret
      rw [HE.out]
      have ht := HT.out
      have ht2 := HT2.out
      have el : (bytesOf S).drop t2.toNat = l1.drop v.toNat := by rw [← ht.2.2.1, List.drop_drop]; congr 1; omega
      refine ⟨?_, ⟨S, t2, blk_set HG.out 1 _, h02, h03, el, ht.2.2.2⟩, ((HU.out.drewN _).setCell (p := ⟨g, 1, none⟩) (fun _ => rfl) _).drewN _⟩
      rw [show l1.take v.toNat = bytesOf (S.extract t.toNat t2.toNat) from by rw [bytesOf_extract, ← ht.2.2.1, List.drop_take]; congr 1; omega, strOfNums_bytesOf]
      rfl
  · have cb0 : (e1 != 0) = true := bne_iff_ne.mpr ce
    have HE : Aside0 (rdText m l e = ([], l1, e1)) := ⟨by rw [rdText_err (by rw [HN.out]; exact ce), HN.out]⟩
    clear ce
    go_wp2
    go_ret
    rw [HE.out]
    exact ⟨rfl, HR1.out, HU.out⟩
end Go.Proofs.Ytnapckkbnpocgaa.C02
