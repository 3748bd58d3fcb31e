import Derived.Test.YtmpgknemhmoboaaC02q
import Derived.Test.YtmpgknemhmoboaaC02s
/- More contracts of the document's answer's reader of bytes. -/
namespace Go.Proofs.Ytmpgknemhmoboaa.C02
open Go.RowKit Go.Proofs.YtmpgknemhmoboaaW.PrintWords Go.Proofs.YtmpgknemhmoboaaW.PrintLast Go.Proofs.YtmpgknemhmoboaaW.PrintMore Go.Proofs.Ytmpgknemhmoboaa.M02 Go.Proofs.Ytmpgknemhmoboaa.Base

theorem RF.range {w : World} {g : Nat} {l : List Int} {e : Int} (hR : RF w g l e) : ∀ b ∈ l, 0 ≤ b ∧ b ≤ 255 := by
  obtain ⟨S, t, _, _, _, rfl, _⟩ := hR
  exact fun b hb => bytes_range S b (List.mem_of_mem_drop hb)

theorem RF.upd {F : Nat → Prop} {w w' : World} {g : Nat} {l : List Int} {e : Int} (h : RF w g l e) (k : Upd F w w') (hn : ¬ F g) : RF w' g l e := by
  obtain ⟨S, t, hG, hs⟩ := h
  exact ⟨S, t, k.blk hG hn, hs⟩
theorem RF.below {w w' : World} {g : Nat} {l : List Int} {e : Int} (h : RF w g l e) (k : Below w.heap.size w w') : RF w' g l e := h.upd (Upd.of_below (F := fun _ => False) k) (fun x => x)
theorem RF.lt {w : World} {g : Nat} {l : List Int} {e : Int} (h : RF w g l e) : g < w.heap.size := by
  obtain ⟨S, t, hG, _⟩ := h
  exact blk_lt hG

set_option maxHeartbeats 1000000 in
theorem rf_Int (m : Int) (g : Nat) (l : List Int) (e : Int) (w : World) (hR : RF w g l e) (hm : -9223372036854775808 ≤ m ∧ m < 9223372036854775808) :
    Calls Try.prog 60 #[.pointer (some ⟨g, 0, none⟩), .int .i64 m] w fun en w' => en = .returned (.int .i64 (rdInt m l e).1) ∧ RF w' g (rdInt m l e).2.1 (rdInt m l e).2.2 ∧ Upd (· = g) w w' := by
  have HR := Aside0.mk hR
  have HV := Aside0.mk (rdNum_range (e := e) hR.range)
  clear hR
  obtain ⟨v, hv⟩ : ∃ v, v = (rdNum l e).1 := ⟨_, rfl⟩
  obtain ⟨l1, hl1⟩ : ∃ l1, l1 = (rdNum l e).2.1 := ⟨_, rfl⟩
  obtain ⟨e1, he1⟩ : ∃ e1, e1 = (rdNum l e).2.2 := ⟨_, rfl⟩
  have HN : Aside0 (rdNum l e = (v, l1, e1)) := ⟨by rw [hv, hl1, he1]⟩
  have hv0 : 0 ≤ v := by rw [hv]; exact HV.out.1
  have HM := Aside0.mk hm
  clear hv hl1 he1 HV hm
  go_enter Try.func60, Try.ntmps60
  go_wp2_with fail
  refine (rf_Num _ _ _ _ HR.out).mono ?_
  rintro en w1 ⟨rfl, hR1, hU⟩
  rw [HN.out] at hR1 ⊢
  replace hR1 : RF w1 g l1 e1 := hR1
  have HR1 := Aside0.mk hR1
  have HU := Aside0.mk hU
  obtain ⟨S, t, hG, ht0, ht1, hl, hs⟩ := hR1
  have hc2 := blk_at hG (i := 2) rfl
  have hf2 := blk_frozen hG 2
  have HG := Aside0.mk hG
  have HT := Aside0.mk (And.intro ht0 (And.intro ht1 (And.intro hl hs)))
  clear hG hU HR ht0 ht1 hl hs
  by_cases ce : e1 = 0
  · have cb0 : (e1 == 0) = true := beq_iff_eq.mpr ce
    by_cases c : m < 0 ∨ v > m
    · have HE : Aside0 (rdInt m l e = (0, l1, 1)) := ⟨by rw [(rdInt_fail (by rw [HN.out]; exact c)).1, HN.out]; simp [rdFail, ce]⟩
      subst ce
      clear cb0
      by_cases cm : m < 0
      · have cb : decide (m < 0) = true := decide_eq_true cm
        clear c cm
        go_wp2
        go_ret
        rw [HE.out]
        exact ⟨rfl, ⟨S, t, blk_set HG.out 2 _, HT.out.1, HT.out.2.1, HT.out.2.2.1, HT.out.2.2.2⟩, HU.out.setCell (fun _ => rfl) _⟩
      · have cb : decide (m < 0) = false := decide_eq_false cm
        have cv : decide (m < v) = true := decide_eq_true (by omega)
        have hm0 : 0 ≤ m := by omega
        have hm1 : m ≤ 9223372036854775807 := by have := HM.out; omega
        clear c cm
        go_wp2
        go_ret
        rw [HE.out]
        exact ⟨rfl, ⟨S, t, blk_set HG.out 2 _, HT.out.1, HT.out.2.1, HT.out.2.2.1, HT.out.2.2.2⟩, HU.out.setCell (fun _ => rfl) _⟩
    · have HE : Aside0 (rdInt m l e = (v, l1, 0)) := ⟨by rw [rdInt_ok (by rw [HN.out]; exact ce) (by rw [HN.out]; exact c), HN.out, ce]⟩
      have cb : decide (m < 0) = false := decide_eq_false (by omega)
      have cv : decide (m < v) = false := decide_eq_false (by omega)
      have hm0 : 0 ≤ m := by omega
      have hm1 : m ≤ 9223372036854775807 := by have := HM.out; omega
      have hvm : v ≤ m := by omega
      subst ce
      clear c cb0
      go_wp2
      go_ret
      rw [HE.out]
      exact ⟨rfl, HR1.out, HU.out⟩
  · have cb0 : (e1 == 0) = false := beq_eq_false_iff_ne.mpr ce
    have cb1 : (e1 != 0) = true := bne_iff_ne.mpr ce
    have HE : Aside0 (rdInt m l e = (0, l1, e1)) := ⟨by rw [rdInt_err (by rw [HN.out]; exact ce), HN.out]⟩
    clear ce
    go_wp2
    go_ret
    rw [HE.out]
    exact ⟨rfl, HR1.out, HU.out⟩



theorem drop_ne {S : ByteArray} {t : Int} (h0 : 0 ≤ t) (h : t < S.size) : (bytesOf S).drop t.toNat ≠ [] := by
  intro h2
  have := congrArg List.length h2
  rw [List.length_drop, bytesOf_length] at this
  simp at this
  omega
theorem drop_nil {S : ByteArray} {t : Int} (h : ¬ t < S.size) : (bytesOf S).drop t.toNat = [] := bytes_end (by omega)



end Go.Proofs.Ytmpgknemhmoboaa.C02
