import Derived.Test.YtogainbkidgkhaaX12H
import Derived.Test.YtogainbkidgkhaaP12
/- Plain: what the program gathers by keys is what the document gathers, for records in any order. -/
namespace Go.Proofs.Ytogainbkidgkhaa.P12F
set_option linter.unusedSimpArgs false
set_option linter.unusedVariables false
open Go.RowKit Go.Proofs.YtogainbkidgkhaaW.PrintWords Go.Proofs.YtogainbkidgkhaaW.PrintLast Go.Proofs.YtogainbkidgkhaaW.PrintMore Go.Proofs.Ytogainbkidgkhaa.Q12f F12 H12
abbrev R := S25
/-! ### Order -/
def leR (a b : R) : Prop := a.f0 < b.f0 ∨ (a.f0 = b.f0 ∧ a.f1 ≤ b.f1)
theorem leR_trans {a b c : R} (h : leR a b) (k : leR b c) : leR a c := by unfold leR at *; omega
def lessB (a b : R) : Bool := decide (a.f0 < b.f0) || (decide (a.f0 = b.f0) && decide (a.f1 < b.f1))
theorem less_f (a b : R) : watershedref11_less.f a.f0 a.f1 b.f0 b.f1 = some (lessB a b) := by
  unfold watershedref11_less.f lessB
  by_cases h : a.f0 < b.f0
  · simp [h]
  · by_cases h2 : a.f0 = b.f0 <;> simp [h, h2]
theorem lessB_le {a b : R} (h : lessB a b = true) : leR a b := by unfold lessB at h; unfold leR; simp at h; omega
theorem lessB_not {a b : R} (h : lessB a b = false) : leR b a := by unfold lessB at h; unfold leR; simp at h; omega
theorem rd_get (s : List R) (i : Nat) (h : i < s.length) : rd_T25 s (i : Int) = s[i] := by simp [rd_T25, List.getD_eq_getElem?_getD, h]
theorem eta (r : R) : (⟨r.f0, r.f1⟩ : R) = r := by cases r; rfl
theorem l2_f (x0 out : List R) (i at_ : Nat) (x : R) (hi : i < x0.length) (hx : x0[i] = x) (hN : x0.length ≤ 100000) (hO : out.length ≤ 100000) : ∀ (d : Nat) (y : R) (k : Nat), at_ + d ≤ out.length →
    watershedref11_Order.l2 (k + d + 1) x0 (out.take (at_ + d) ++ y :: out.drop (at_ + d)) (i : Int) (at_ : Int) ((at_ + d : Nat) : Int) = watershedref11_Order.l0 k x0 (out.take at_ ++ x :: out.drop at_) ((i + 1 : Nat) : Int)
  | 0, y, k, h => by
    have h1 : (out.take at_ ++ y :: out.drop at_).length = out.length + 1 := by simp; omega
    rw [watershedref11_Order.l2, if_neg (by omega), if_pos (by omega), if_pos (by omega), if_pos (by omega), if_pos (by simp only [Nat.add_zero]; omega)]
    rw [rd_get x0 i hi, hx, eta, Pl.w64 (by omega) (by omega)]
    congr 1
    simp only [Nat.add_zero]
    rw [Int.toNat_natCast]
    have : (out.take at_).length = at_ := by simp; omega
    conv => lhs; rw [List.set_append_right _ _ (by omega)]
    rw [this, Nat.sub_self]
    rfl
  | d + 1, y, k, h => by
    have h1 : (out.take (at_ + (d + 1)) ++ y :: out.drop (at_ + (d + 1))).length = out.length + 1 := by simp; omega
    have hw : wrap64 (((at_ + (d + 1) : Nat) : Int) - 1) = ((at_ + d : Nat) : Int) := by rw [Pl.w64 (by omega) (by omega)]; omega
    rw [show k + (d + 1) + 1 = (k + d + 1) + 1 from by omega]
    rw [watershedref11_Order.l2, if_pos (by omega), hw, if_pos (by omega), if_pos (by omega), if_pos (by omega), if_pos (by omega)]
    rw [rd_get _ (at_ + d) (by omega)]
    have e1 : (out.take (at_ + (d + 1)) ++ y :: out.drop (at_ + (d + 1)))[at_ + d]'(by omega) = out[at_ + d]'(by omega) := by
      rw [List.getElem_append_left (by simp; omega), List.getElem_take]
    rw [e1, eta]
    have e2 : (out.take (at_ + (d + 1)) ++ y :: out.drop (at_ + (d + 1))).set ((at_ + (d + 1) : Nat) : Int).toNat (out[at_ + d]'(by omega)) = out.take (at_ + d) ++ out[at_ + d]'(by omega) :: out.drop (at_ + d) := by
      rw [Int.toNat_natCast]
      have : (out.take (at_ + (d + 1))).length = at_ + (d + 1) := by simp; omega
      conv => lhs; rw [List.set_append_right _ _ (by omega)]
      rw [this, Nat.sub_self]
      have h3 : out.take (at_ + (d + 1)) = out.take (at_ + d) ++ [out[at_ + d]'(by omega)] := by rw [show at_ + (d + 1) = (at_ + d) + 1 from by omega, List.take_succ_eq_append_getElem (by omega)]
      have h4 : out.drop (at_ + d) = out[at_ + d]'(by omega) :: out.drop (at_ + (d + 1)) := by rw [List.drop_eq_getElem_cons (by omega)]; rfl
      rw [h3, h4, List.append_assoc]
      rfl
    rw [e2]
    exact l2_f x0 out i at_ x hi hx hN hO d _ k (by omega)
theorem l1_f (x0 out : List R) (i : Nat) (x : R) (hi : i < x0.length) (hx : x0[i] = x) (hN : x0.length ≤ 100000) (hO : out.length ≤ 100000) : ∀ (q : Nat), q ≤ out.length → (∀ j (h : j < out.length), q ≤ j → leR x out[j]) →
    ∃ at_ D, at_ ≤ q ∧ D ≤ q + 1 ∧ (∀ j (h : j < out.length), at_ ≤ j → leR x out[j]) ∧ (0 < at_ → ∀ h : at_ - 1 < out.length, leR out[at_ - 1] x) ∧ ∀ k, watershedref11_Order.l1 (k + D) x0 out (i : Int) (q : Int) = watershedref11_Order.j2 k x0 out (i : Int) (at_ : Int)
  | 0, hq, hA => ⟨0, 1, Nat.le_refl _, by omega, hA, fun h => absurd h (by omega), fun k => by rw [watershedref11_Order.l1, if_neg (by omega)]⟩
  | q + 1, hq, hA => by
    have hw : wrap64 (((q + 1 : Nat) : Int) - 1) = (q : Int) := by rw [Pl.w64 (by omega) (by omega)]; omega
    have hs : ∀ k, watershedref11_Order.l1 (k + 1) x0 out (i : Int) ((q + 1 : Nat) : Int) = if lessB x (out[q]'(by omega)) = true then watershedref11_Order.l1 k x0 out (i : Int) (q : Int) else watershedref11_Order.j2 k x0 out (i : Int) ((q + 1 : Nat) : Int) := fun k => by
      rw [watershedref11_Order.l1, if_pos (by omega), if_pos (by omega), if_pos (by omega), hw, if_pos (by omega), if_pos (by omega), rd_get x0 i hi, hx, rd_get out q (by omega), less_f]
      rfl
    by_cases hl : lessB x (out[q]'(by omega)) = true
    · obtain ⟨at_, D, h1, h2, h3, h4, h5⟩ := l1_f x0 out i x hi hx hN hO q (by omega) (fun j h hj => by
        by_cases e : j = q
        · subst e; exact lessB_le hl
        · exact hA j h (by omega))
      refine ⟨at_, D + 1, by omega, by omega, h3, h4, fun k => ?_⟩
      rw [← Nat.add_assoc, hs, if_pos hl, h5]
    · refine ⟨q + 1, 1, Nat.le_refl _, by omega, hA, fun _ _ => lessB_not (by simpa using hl), fun k => ?_⟩
      rw [hs, if_neg hl]
def Srt (s : List R) : Prop := s.Pairwise leR
theorem ins_srt {out : List R} {at_ : Nat} {x : R} (hs : Srt out) (ha : at_ ≤ out.length) (h1 : ∀ j (h : j < out.length), at_ ≤ j → leR x out[j]) (h2 : 0 < at_ → ∀ h : at_ - 1 < out.length, leR out[at_ - 1] x) : Srt (out.take at_ ++ x :: out.drop at_) := by
  unfold Srt at *
  rw [List.pairwise_append]
  refine ⟨hs.sublist (List.take_sublist _ _), ?_, ?_⟩
  · rw [List.pairwise_cons]
    refine ⟨fun b hb => ?_, hs.sublist (List.drop_sublist _ _)⟩
    obtain ⟨j, hj, rfl⟩ := List.mem_iff_getElem.1 hb
    rw [List.getElem_drop]
    exact h1 _ _ (by omega)
  · intro a ha' b hb
    obtain ⟨j, hj, rfl⟩ := List.mem_iff_getElem.1 ha'
    have hj' : j < at_ := by simp at hj; omega
    have hax : leR ((out.take at_)[j]) x := by
      rw [List.getElem_take]
      by_cases e : j = at_ - 1
      · subst e; exact h2 (by omega) (by omega)
      · exact leR_trans (List.pairwise_iff_getElem.1 hs j (at_ - 1) (by omega) (by omega) (by omega)) (h2 (by omega) (by omega))
    rcases List.mem_cons.1 hb with rfl | hb
    · exact hax
    · obtain ⟨m, hm, rfl⟩ := List.mem_iff_getElem.1 hb
      rw [List.getElem_drop]
      exact leR_trans hax (h1 _ _ (by omega))
theorem Order_l (l : List R) (hl : l.length ≤ 300) : ∀ (xs pre out : List R) (k : Nat), l = pre ++ xs → out.Perm pre → Srt out → xs.length * 700 + 1 ≤ k → ∃ s, watershedref11_Order.l0 k l out (pre.length : Int) = some s ∧ s.Perm l ∧ Srt s := by
  intro xs
  induction xs with
  | nil =>
    intro pre out k h hp hs hk
    obtain ⟨k, rfl⟩ : ∃ j, k = j + 1 := ⟨k - 1, by omega⟩
    subst h
    exact ⟨out, by rw [watershedref11_Order.l0, if_neg (by simp)], by simpa using hp, hs⟩
  | cons x t ih =>
    intro pre out k h hp hs hk
    have hlen : l.length = pre.length + (t.length + 1) := by rw [h, List.length_append, List.length_cons]
    have hol : out.length = pre.length := hp.length_eq
    have hi : pre.length < l.length := by omega
    have hx : l[pre.length] = x := by subst h; simp
    obtain ⟨at_, D, h1, h2, h3, h4, h5⟩ := l1_f l out pre.length x hi hx (by omega) (by omega) out.length (Nat.le_refl _) (fun j h hj => absurd h (by omega))
    obtain ⟨k2, rfl⟩ : ∃ j, k = j + (out.length - at_) + 1 + 1 + D + 1 := ⟨k - ((out.length - at_) + D + 3), by simp only [List.length_cons] at hk; omega⟩
    have hw : wrap64 (((out ++ [x]).length : Int) - 1) = ((at_ + (out.length - at_) : Nat) : Int) := by simp only [List.length_append, List.length_cons, List.length_nil]; rw [Pl.w64 (by omega) (by omega)]; omega
    have e1 : out ++ [x] = out.take (at_ + (out.length - at_)) ++ x :: out.drop (at_ + (out.length - at_)) := by
      rw [show at_ + (out.length - at_) = out.length from by omega]
      simp
    have hstep : watershedref11_Order.l0 (k2 + (out.length - at_) + 1 + 1 + D + 1) l out (pre.length : Int) = watershedref11_Order.l0 k2 l (out.take at_ ++ x :: out.drop at_) ((pre.length + 1 : Nat) : Int) := by
      rw [watershedref11_Order.l0, if_pos (by omega), h5, watershedref11_Order.j2, if_pos (by omega), if_pos (by omega), if_pos (by omega), rd_get l pre.length hi, hx, eta, Option.bind_some, hw]
      rw [e1]
      exact l2_f l out pre.length at_ x hi hx (by omega) (by omega) (out.length - at_) x k2 (by omega)
    rw [hstep]
    have hp2 : (out.take at_ ++ x :: out.drop at_).Perm (pre ++ [x]) := by
      have a1 : (out.take at_ ++ x :: out.drop at_).Perm (x :: (out.take at_ ++ out.drop at_)) := List.perm_middle
      rw [List.take_append_drop] at a1
      exact a1.trans ((hp.cons x).trans (List.perm_append_singleton x pre).symm)
    have hkk : t.length * 700 + 1 ≤ k2 := by
      clear hstep hp2 hw e1 h3 h4 h5 ih h hx
      rw [List.length_cons, Nat.add_mul, Nat.one_mul] at hk
      generalize t.length * 700 = z at hk ⊢
      omega
    have := ih (pre ++ [x]) _ k2 (by rw [h]; simp) hp2 (ins_srt hs (by omega) h3 h4) hkk
    simpa using this
theorem Order_fk (l : List R) (hl : l.length ≤ 300) (k : Nat) (hk : l.length * 700 + 1 ≤ k) : ∃ s, watershedref11_Order.f k l = some s ∧ s.Perm l ∧ Srt s := by
  unfold watershedref11_Order.f
  exact Order_l l hl l [] [] k rfl (List.Perm.refl _) List.Pairwise.nil hk
theorem Order_f (l : List R) (hl : l.length ≤ 300) : ∃ s, watershedref11_Order.f 1000000 l = some s ∧ s.Perm l ∧ Srt s := by
  have h := Order_fk l hl 1000000 (by omega)
  exact h
/-! ### What is gathered -/
def SrtI (ks : List Int) : Prop := ks.Pairwise (· < ·)
theorem keysOf_srt (l : List R) : SrtI (keysOf l) := by
  have tr : ∀ a b c : Int, decide (a ≤ b) = true → decide (b ≤ c) = true → decide (a ≤ c) = true := fun a b c h1 h2 => by simp only [decide_eq_true_eq] at *; omega
  have tot : ∀ a b : Int, (decide (a ≤ b) || decide (b ≤ a)) = true := fun a b => by simp only [Bool.or_eq_true, decide_eq_true_eq]; omega
  have h1 := List.pairwise_mergeSort tr tot (l.map (fun r : R => r.f0)).eraseDups
  have h2 : (keysOf l).Nodup := (List.mergeSort_perm (l.map (fun r : R => r.f0)).eraseDups (fun x y => decide (x ≤ y))).nodup_iff.2 (nodup_eraseDups _ _ (Nat.le_refl _))
  refine (h1.and h2).imp ?_
  intro a b h
  have h3 := h.1
  simp only [decide_eq_true_eq] at h3
  have := h.2
  omega
theorem srtI_unique {a b : List Int} (ha : SrtI a) (hb : SrtI b) (h : ∀ x, x ∈ a ↔ x ∈ b) : a = b := by
  have na : a.Nodup := ha.imp fun h => by omega
  have nb : b.Nodup := hb.imp fun h => by omega
  refine List.Perm.eq_of_pairwise (le := fun x y => x < y) (fun x y _ _ h1 h2 => by omega) ha hb ((List.perm_ext_iff_of_nodup na nb).2 h)
theorem keysOf_eq {l : List R} {ks : List Int} (hs : SrtI ks) (h : ∀ x, x ∈ ks ↔ x ∈ l.map (·.f0)) : keysOf l = ks := srtI_unique (keysOf_srt l) hs fun x => by rw [mem_keysOf, h]
theorem sum_perm {a b : List Int} (h : a.Perm b) : sumV a = sumV b := by
  unfold sumV
  exact h.foldl_eq' (fun x _ y _ z => by unfold wrap64; omega) 0
theorem foldl_min : ∀ (l : List Int) (a : Int), (l.foldl min a = a ∨ l.foldl min a ∈ l) ∧ l.foldl min a ≤ a ∧ ∀ x ∈ l, l.foldl min a ≤ x
  | [], a => by simp
  | b :: l, a => by
    obtain ⟨h1, h2, h3⟩ := foldl_min l (min a b)
    rw [List.foldl_cons]
    refine ⟨?_, by omega, fun x hx => ?_⟩
    · rcases h1 with h1 | h1
      · rw [h1]
        by_cases q : a ≤ b
        · left; omega
        · right; rw [show min a b = b from by omega]; simp
      · right; exact List.mem_cons_of_mem _ h1
    · rcases List.mem_cons.1 hx with rfl | hx
      · omega
      · exact h3 x hx
theorem foldl_max : ∀ (l : List Int) (a : Int), (l.foldl max a = a ∨ l.foldl max a ∈ l) ∧ a ≤ l.foldl max a ∧ ∀ x ∈ l, x ≤ l.foldl max a
  | [], a => by simp
  | b :: l, a => by
    obtain ⟨h1, h2, h3⟩ := foldl_max l (max a b)
    rw [List.foldl_cons]
    refine ⟨?_, by omega, fun x hx => ?_⟩
    · rcases h1 with h1 | h1
      · rw [h1]
        by_cases q : b ≤ a
        · left; omega
        · right; rw [show max a b = b from by omega]; simp
      · right; exact List.mem_cons_of_mem _ h1
    · rcases List.mem_cons.1 hx with rfl | hx
      · omega
      · exact h3 x hx
theorem minOf_spec {l : List Int} (h : l ≠ []) : Lib.minOf l ∈ l ∧ ∀ x ∈ l, Lib.minOf l ≤ x := by
  obtain ⟨h1, h2, h3⟩ := foldl_min l (l.headD 0)
  unfold Lib.minOf
  refine ⟨?_, h3⟩
  rcases h1 with h1 | h1
  · rw [h1]; cases l with
    | nil => exact absurd rfl h
    | cons a l => simp
  · exact h1
theorem maxOf_spec {l : List Int} (h : l ≠ []) : Lib.maxOf l ∈ l ∧ ∀ x ∈ l, x ≤ Lib.maxOf l := by
  obtain ⟨h1, h2, h3⟩ := foldl_max l (l.headD 0)
  unfold Lib.maxOf
  refine ⟨?_, h3⟩
  rcases h1 with h1 | h1
  · rw [h1]; cases l with
    | nil => exact absurd rfl h
    | cons a l => simp
  · exact h1
theorem foldV_perm (kind : Int) {a b : List Int} (h : a.Perm b) : foldV kind a = foldV kind b := by
  by_cases hn : a = []
  · subst hn; rw [h.nil_eq]
  have hm : b ≠ [] := fun e => hn (by subst e; exact h.eq_nil)
  have a1 := minOf_spec hn
  have a2 := minOf_spec hm
  have a3 := maxOf_spec hn
  have a4 := maxOf_spec hm
  have b1 := a2.2 _ (h.mem_iff.1 a1.1)
  have b2 := a1.2 _ (h.mem_iff.2 a2.1)
  have b3 := a4.2 _ (h.mem_iff.1 a3.1)
  have b4 := a3.2 _ (h.mem_iff.2 a4.1)
  unfold foldV
  rw [sum_perm h, h.length_eq, show Lib.minOf a = Lib.minOf b from by omega, show Lib.maxOf a = Lib.maxOf b from by omega]
theorem folds_perm (kind : Int) {l s : List R} (h : s.Perm l) : foldsF kind s = foldsF kind l := by
  unfold foldsF
  rw [keysOf_eq (l := s) (keysOf_srt l) (fun x => by rw [mem_keysOf, (h.map _).mem_iff])]
  exact List.map_congr_left fun x _ => by
    rw [foldV_perm kind (show (valsOf x s).Perm (valsOf x l) from by unfold valsOf; exact (h.filter _).map _)]
theorem foldV_one (kind v : Int) (hk : 11 ≤ kind ∧ kind ≤ 14) : foldV kind [v] = upd kind true 0 v := by
  unfold foldV upd sumV Lib.minOf Lib.maxOf
  obtain rfl | rfl | rfl | rfl : kind = 11 ∨ kind = 12 ∨ kind = 13 ∨ kind = 14 := by omega
  all_goals simp
  · exact (Pl.w64 (by omega) (by omega)).symm
theorem foldV_snoc (kind v : Int) (vs : List Int) (hk : 11 ≤ kind ∧ kind ≤ 14) (hn : vs ≠ []) (hl : vs.length ≤ 1000) (hv : ∀ x ∈ vs, x ≤ v) : foldV kind (vs ++ [v]) = upd kind false (foldV kind vs) v := by
  have h1 := minOf_spec hn
  have h2 := maxOf_spec hn
  have h3 := minOf_spec (l := vs ++ [v]) (by simp)
  have h4 := maxOf_spec (l := vs ++ [v]) (by simp)
  have h5 := hv _ h1.1
  have h6 := hv _ h2.1
  have h7 := h3.2 (Lib.minOf vs) (by simp [h1.1])
  have h8 : Lib.minOf vs ≤ Lib.minOf (vs ++ [v]) := by
    rcases List.mem_append.1 h3.1 with h | h
    · exact h1.2 _ h
    · simp at h; omega
  have h9 := h4.2 v (by simp)
  have h10 : Lib.maxOf (vs ++ [v]) ≤ v := by
    rcases List.mem_append.1 h4.1 with h | h
    · exact hv _ h
    · simp at h; omega
  unfold foldV upd
  obtain rfl | rfl | rfl | rfl : kind = 11 ∨ kind = 12 ∨ kind = 13 ∨ kind = 14 := by omega
  · simp [sumV]
  · simp
    rw [Pl.w64 (by omega) (by omega)]
  · simp
    omega
  · simp
    omega
theorem getLast_rd (o : List R) (r : R) : rdN (o ++ [r]) ((o ++ [r]).length - 1) = r := by simp [rdN]
theorem putL_snoc (o : List R) (r : R) (a : Int) : putL (o ++ [r]) a = o ++ [⟨r.f0, a⟩] := by
  unfold putL
  rw [getLast_rd]
  simp
theorem folds_step (kind : Int) (hk : 11 ≤ kind ∧ kind ≤ 14) (p : List R) (r : R) (hl : p.length ≤ 1000) (hp : ∀ y ∈ p, leR y r) (fb : Bool) (hf : fb = true ↔ r.f0 ∉ p.map (·.f0)) : stepR kind fb (foldsF kind p) r = foldsF kind (p ++ [r]) := by
  have hle : ∀ x ∈ keysOf p, x ≤ r.f0 := fun x hx => by
    obtain ⟨y, hy, rfl⟩ := List.mem_map.1 ((mem_keysOf p x).1 hx)
    have := hp y hy
    unfold leR at this
    omega
  cases fb with
  | true =>
    have hnot := hf.1 rfl
    have hK : keysOf (p ++ [r]) = keysOf p ++ [r.f0] := keysOf_eq (by
      unfold SrtI
      rw [List.pairwise_append]
      refine ⟨keysOf_srt p, by simp, fun a ha b hb => ?_⟩
      simp at hb
      subst hb
      have h1 := hle a ha
      have h2 : a ≠ r.f0 := fun e => hnot ((mem_keysOf p _).1 (e ▸ ha))
      omega) (fun x => by simp [mem_keysOf])
    have hv : valsOf r.f0 p = [] := by
      unfold valsOf
      rw [List.map_eq_nil_iff, List.filter_eq_nil_iff]
      intro y hy h
      simp at h
      exact hnot (List.mem_map.2 ⟨y, hy, h⟩)
    unfold stepR grownR
    rw [if_pos rfl, getLast_rd, putL_snoc]
    unfold foldsF
    rw [hK, List.map_append]
    congr 1
    · refine List.map_congr_left fun x hx => ?_
      have hne : r.f0 ≠ x := fun e => hnot ((mem_keysOf p _).1 (e ▸ hx))
      simp only [valsOf_snoc, if_neg hne, List.append_nil]
    · show [(⟨r.f0, upd kind true 0 r.f1⟩ : R)] = [⟨r.f0, foldV kind (valsOf r.f0 (p ++ [r]))⟩]
      rw [valsOf_snoc, hv, if_pos rfl, List.nil_append, foldV_one kind _ hk]
  | false =>
    have hin : r.f0 ∈ p.map (·.f0) := Decidable.byContradiction fun h => by have := hf.2 h; cases this
    have hink : r.f0 ∈ keysOf p := (mem_keysOf p _).2 hin
    obtain ⟨a, b, hab⟩ := List.append_of_mem hink
    have hs := keysOf_srt p
    have hb : b = [] := by
      cases b with
      | nil => rfl
      | cons c b =>
        rw [hab] at hs
        unfold SrtI at hs
        rw [List.pairwise_append] at hs
        have h1 := (List.pairwise_cons.1 hs.2.1).1 c (by simp)
        have h2 := hle c (by rw [hab]; simp)
        omega
    subst hb
    have hna : ∀ x ∈ a, r.f0 ≠ x := fun x hx e => by
      rw [hab] at hs
      unfold SrtI at hs
      rw [List.pairwise_append] at hs
      have := hs.2.2 x hx r.f0 (by simp)
      omega
    have hK : keysOf (p ++ [r]) = keysOf p := keysOf_eq hs (fun x => by
      rw [mem_keysOf]
      simp only [List.map_append, List.mem_append, List.map_cons, List.map_nil, List.mem_singleton]
      constructor
      · exact .inl
      · rintro (h | rfl)
        · exact h
        · exact hin)
    have hvn : valsOf r.f0 p ≠ [] := valsOf_ne hink
    have hvl := valsOf_length r.f0 p
    have hvv : ∀ x ∈ valsOf r.f0 p, x ≤ r.f1 := fun x hx => by
      unfold valsOf at hx
      obtain ⟨y, hy, rfl⟩ := List.mem_map.1 hx
      obtain ⟨hy1, hy2⟩ := List.mem_filter.1 hy
      have := hp y hy1
      simp at hy2
      unfold leR at this
      omega
    unfold stepR grownR
    rw [if_neg (by simp)]
    unfold foldsF
    rw [hK, hab, List.map_append, List.map_append]
    simp only [List.map_cons, List.map_nil]
    rw [getLast_rd, putL_snoc]
    congr 1
    · refine List.map_congr_left fun x hx => ?_
      simp only [valsOf_snoc, if_neg (hna x hx), List.append_nil]
    · rw [valsOf_snoc, if_pos rfl, foldV_snoc kind _ _ hk hvn (by omega) hvv]
theorem out_folds (kind : Int) (hk : 11 ≤ kind ∧ kind ≤ 14) (s : List R) (hs : Srt s) (hl : s.length ≤ 1000) : ∀ i, i ≤ s.length → outR kind s i = foldsF kind (s.take i)
  | 0, _ => by simp [outR, foldsF, keysOf]
  | i + 1, h => by
    have hi : i < s.length := by omega
    have hrd : rdN s i = s[i] := by simp [rdN, List.getD_eq_getElem?_getD, hi]
    show stepR kind (firstAt s i) (outR kind s i) (rdN s i) = _
    rw [out_folds kind hk s hs hl i (by omega), hrd, List.take_succ_eq_append_getElem hi]
    refine folds_step kind hk (s.take i) s[i] (by simp; omega) (fun y hy => ?_) (firstAt s i) ?_
    · obtain ⟨j, hj, rfl⟩ := List.mem_iff_getElem.1 hy
      have hj' : j < i := by simp at hj; omega
      rw [List.getElem_take]
      exact List.pairwise_iff_getElem.1 hs j i (by omega) hi hj'
    · unfold firstAt
      constructor
      · intro hf hm
        obtain ⟨y, hy, he⟩ := List.mem_map.1 hm
        obtain ⟨j, hj, rfl⟩ := List.mem_iff_getElem.1 hy
        have hj' : j < i := by simp at hj; omega
        rw [List.getElem_take] at he
        simp only [Bool.or_eq_true, beq_iff_eq, bne_iff_ne] at hf
        rcases hf with hf | hf
        · omega
        · apply hf
          rw [hrd]
          have hrd2 : rdN s (i - 1) = s[i - 1]'(by omega) := by simp [rdN, List.getD_eq_getElem?_getD, show i - 1 < s.length by omega]
          rw [hrd2]
          have h1 := List.pairwise_iff_getElem.1 hs (i - 1) i (by omega) hi (by omega)
          have h2 : leR s[j] (s[i - 1]'(by omega)) := by
            by_cases e : j = i - 1
            · subst e; unfold leR; omega
            · exact List.pairwise_iff_getElem.1 hs j (i - 1) (by omega) (by omega) (by omega)
          unfold leR at h1 h2
          omega
      · intro hm
        simp only [Bool.or_eq_true, beq_iff_eq, bne_iff_ne]
        by_cases h0 : i = 0
        · exact .inl h0
        · right
          intro e
          apply hm
          have hrd2 : rdN s (i - 1) = s[i - 1]'(by omega) := by simp [rdN, List.getD_eq_getElem?_getD, show i - 1 < s.length by omega]
          rw [hrd, hrd2] at e
          refine List.mem_map.2 ⟨s[i - 1]'(by omega), ?_, e.symm⟩
          refine List.mem_iff_getElem.2 ⟨i - 1, by simp; omega, ?_⟩
          rw [List.getElem_take]
theorem refFold_f (kind : Int) (l : List R) (hl : l.length ≤ 300) : Ext.watershedref12_Fold.f kind l = some (if 11 ≤ kind ∧ kind ≤ 14 then (foldsF kind l, 0) else ([], 70)) := by
  unfold Ext.watershedref12_Fold.f
  by_cases hk : 11 ≤ kind ∧ kind ≤ 14
  · rw [if_pos hk, if_pos hk]
    obtain ⟨s, h1, h2, h3⟩ := Order_f l hl
    rw [h1, Option.bind_some]
    have hsl : s.length ≤ 1000 := by rw [h2.length_eq]; omega
    rw [if_pos hsl, out_folds kind hk s h3 hsl _ (Nat.le_refl _), List.take_length, folds_perm kind h2]
  · rw [if_neg hk, if_neg hk]
theorem Fold_f (kind : Int) (l : List R) (hl : l.length ≤ 300) (hw : l.all wfR = true) : Ext.oper_Fold.f kind l = some (if 11 ≤ kind ∧ kind ≤ 14 then (foldsF kind l, 0) else ([], 70)) := by
  unfold Ext.oper_Fold.f
  rw [if_pos ⟨by omega, hw⟩]
  split <;> rfl
end Go.Proofs.Ytogainbkidgkhaa.P12F
