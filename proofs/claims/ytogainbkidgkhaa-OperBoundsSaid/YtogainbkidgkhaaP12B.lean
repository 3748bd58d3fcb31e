import Derived.Test.YtogainbkidgkhaaP12P
import Derived.Test.YtogainbkidgkhaaQ12Px4
/- Plain: the law OperBounds. -/
namespace Go.Proofs.Ytogainbkidgkhaa.P12B
set_option linter.unusedSimpArgs false
set_option linter.unusedVariables false
open Go.RowKit Go.Proofs.YtogainbkidgkhaaW.PrintWords Go.Proofs.YtogainbkidgkhaaW.PrintLast Go.Proofs.YtogainbkidgkhaaW.PrintMore Go.Proofs.Ytogainbkidgkhaa.Q12f F12 P12F P12P
abbrev R := S25
theorem text_w2 : Q12P.data_Text.f 200000 [(⟨1, 5⟩ : R), (⟨2, 5⟩ : R)] = some ⟨#[49, 58, 53, 44, 50, 58, 53]⟩ := by decide +kernel
theorem works_f2 : Q12P.watershedlaw12_works.f 200000 = some true := by
  unfold Q12P.watershedlaw12_works.f
  rw [fold_w, Option.bind_some, fold_w2, Option.bind_some]
  rw [show Ext.oper_One.f (⟨#[]⟩ : ByteArray) 3 0 0 2 1 7 3 = some (7, 7, true) from (one_f _ 3 0 0 2 1 ⟨7, 3⟩).trans (by decide +kernel), Option.bind_some]
  rw [show Ext.oper_One.f (⟨#[]⟩ : ByteArray) 4 0 0 5 1 0 (-4) = some (0, -4, true) from (one_f _ 4 0 0 5 1 ⟨0, -4⟩).trans (by decide +kernel), Option.bind_some]
  rw [show Ext.oper_One.f (⟨#[]⟩ : ByteArray) 4 0 0 5 1 0 4 = some (0, 0, false) from (one_f _ 4 0 0 5 1 ⟨0, 4⟩).trans (by decide +kernel), Option.bind_some]
  simp only [if_true]
  rw [text_w2, Option.bind_some]
  decide +kernel
theorem valsOf_cons (x : Int) (r : R) (t : List R) : valsOf x (r :: t) = if r.f0 = x then r.f1 :: valsOf x t else valsOf x t := by
  unfold valsOf
  by_cases h : r.f0 = x <;> simp [h]
theorem l1_f (l c3 c5 c7 : List R) (x9 : Int) (i : Nat) (x mn mx : Int) (h3 : i < c3.length) (h5 : i < c5.length) (h7 : i < c7.length) (hx : (rd_T25 c3 (i : Int)).f0 = x) (hmn : (rd_T25 c5 (i : Int)).f1 = mn) (hmx : (rd_T25 c7 (i : Int)).f1 = mx)
    (hl : l.length ≤ 300) (hb : ∀ r ∈ l, r.f0 = x → mn ≤ r.f1 ∧ r.f1 ≤ mx) (k : Nat) : ∀ (xs pre : List R) (n : Nat) (b1 b2 : Bool), l = pre ++ xs → n ≤ pre.length →
    Q12P.watershedlaw12_OperBounds.l1 (k + xs.length) l c3 c5 c7 x9 (i : Int) (n : Int) b1 b2 (pre.length : Int) = Q12P.watershedlaw12_OperBounds.l1 k l c3 c5 c7 x9 (i : Int) ((n + (valsOf x xs).length : Nat) : Int) (b1 || (valsOf x xs).contains mn) (b2 || (valsOf x xs).contains mx) (l.length : Int) := by
  intro xs
  induction xs with
  | nil =>
    intro pre n b1 b2 h hn
    subst h
    simp [valsOf]
  | cons r t ih =>
    intro pre n b1 b2 h hn
    have hlen : l.length = pre.length + (t.length + 1) := by rw [h, List.length_append, List.length_cons]
    have hi : pre.length < l.length := by omega
    have hr : l[pre.length] = r := by subst h; simp
    have hrd : rd_T25 l (pre.length : Int) = r := by rw [rd_get l pre.length hi, hr]
    have hmem : r ∈ l := by rw [h]; simp
    have hw : wrap64 ((pre.length : Int) + 1) = ((pre ++ [r]).length : Int) := by rw [Pl.w64 (by omega) (by omega)]; simp
    have i3 : (i : Int) < (c3.length : Int) := by omega
    have i5 : (i : Int) < (c5.length : Int) := by omega
    have i7 : (i : Int) < (c7.length : Int) := by omega
    rw [show k + (r :: t).length = (k + t.length) + 1 from by simp; omega]
    rw [Q12P.watershedlaw12_OperBounds.l1, if_pos (by omega), if_pos (by omega), if_pos (by omega), if_pos i3, hrd, hx, hmn, hmx]
    by_cases hk : r.f0 = x
    · have hbr := hb r hmem hk
      have hn1 : wrap64 ((n : Int) + 1) = ((n + 1 : Nat) : Int) := by rw [Pl.w64 (by omega) (by omega)]; omega
      have g1 : ¬ r.f1 < mn := by omega
      have g2 : ¬ r.f1 > mx := by omega
      have hI := ih (pre ++ [r]) (n + 1) (b1 || (r.f1 == mn)) (b2 || (r.f1 == mx)) (by rw [h]; simp) (by simp; omega)
      have e : (n + 1 + (valsOf x t).length : Nat) = n + (valsOf x (r :: t)).length := by rw [valsOf_cons, if_pos hk, List.length_cons]; omega
      have e1 : (b1 || (r.f1 == mn) || (valsOf x t).contains mn) = (b1 || (valsOf x (r :: t)).contains mn) := by
        rw [valsOf_cons, if_pos hk, List.contains_cons, Bool.or_assoc, Bool.beq_comm]
      have e2 : (b2 || (r.f1 == mx) || (valsOf x t).contains mx) = (b2 || (valsOf x (r :: t)).contains mx) := by
        rw [valsOf_cons, if_pos hk, List.contains_cons, Bool.or_assoc, Bool.beq_comm]
      rw [e, e1, e2] at hI
      rw [← hI, if_pos hk, hw, hn1]
      cases b1 <;> cases b2 <;> simp only [Bool.true_or, Bool.false_or, if_pos i5, if_pos i7, if_neg g1, if_neg g2, if_true, Bool.false_eq_true, if_false]
    · have hI := ih (pre ++ [r]) n b1 b2 (by rw [h]; simp) (by simp; omega)
      rw [if_neg hk, hw, hI, valsOf_cons, if_neg hk]
theorem l1_end (l c3 c5 c7 : List R) (x9 : Int) (i : Nat) (x mn mx : Int) (n : Nat) (h3 : i < c3.length) (h5 : i < c5.length) (h7 : i < c7.length) (hx : (rd_T25 c3 (i : Int)) = ⟨x, n⟩) (hmn : (rd_T25 c5 (i : Int)) = ⟨x, mn⟩) (hmx : (rd_T25 c7 (i : Int)) = ⟨x, mx⟩) (hn : 0 < n) (k : Nat) :
    Q12P.watershedlaw12_OperBounds.l1 (k + 1) l c3 c5 c7 x9 (i : Int) (n : Int) true true (l.length : Int) = Q12P.watershedlaw12_OperBounds.l0 k l c3 c5 c7 (wrap64 (x9 + n)) (wrap64 ((i : Int) + 1)) := by
  rw [Q12P.watershedlaw12_OperBounds.l1, if_neg (by omega), if_pos (by omega), if_pos (by omega), hx, hmn, hmx]
  simp only
  rw [if_pos trivial, if_neg (by omega), if_pos trivial, if_pos trivial, if_pos (by omega), if_pos trivial, if_pos (by omega), if_pos trivial]
theorem sum_ind (y : Int) : ∀ (ks : List Int), ks.Nodup → (ks.map fun x => if y = x then 1 else 0).sum = if y ∈ ks then 1 else 0
  | [], _ => rfl
  | a :: ks, h => by
    obtain ⟨h1, h2⟩ := List.nodup_cons.1 h
    rw [List.map_cons, List.sum_cons, sum_ind y ks h2]
    by_cases e : y = a
    · subst e
      simp [h1]
    · simp [e]
theorem sum_add (f g : Int → Nat) : ∀ ks : List Int, (ks.map fun x => f x + g x).sum = (ks.map f).sum + (ks.map g).sum
  | [] => rfl
  | a :: ks => by
    simp only [List.map_cons, List.sum_cons]
    rw [sum_add f g ks]
    omega
theorem sum_vals (ks : List Int) (hk : ks.Nodup) : ∀ (l : List R), (∀ r ∈ l, r.f0 ∈ ks) → (ks.map fun x => (valsOf x l).length).sum = l.length
  | [], _ => by
    have : (ks.map fun x => (valsOf x ([] : List R)).length) = ks.map fun _ => 0 := rfl
    rw [this]
    clear this hk
    induction ks with
    | nil => rfl
    | cons a ks ih => simpa using ih
  | r :: t, h => by
    have h1 : (ks.map fun x => (valsOf x (r :: t)).length) = ks.map fun x => (valsOf x t).length + if r.f0 = x then 1 else 0 := by
      refine List.map_congr_left fun x _ => ?_
      rw [valsOf_cons]
      split <;> simp
    rw [h1, sum_add, sum_vals ks hk t (fun y hy => h y (by simp [hy])), sum_ind r.f0 ks hk, if_pos (h r (by simp))]
    rfl
theorem l0_f (l : List R) (hl : l.length ≤ 300) (F3 F5 F7 : List R) (h3 : F3 = foldsF 12 l) (h5 : F5 = foldsF 13 l) (h7 : F7 = foldsF 14 l) : ∀ (rest pre : List Int) (k : Nat), keysOf l = pre ++ rest → rest.length * 302 + 1 ≤ k →
    Q12P.watershedlaw12_OperBounds.l0 k l F3 F5 F7 (((pre.map fun x => (valsOf x l).length).sum : Nat) : Int) (pre.length : Int) = some true := by
  have hkl := keysOf_length l
  have f3 : F3.length = (keysOf l).length := by rw [h3]; unfold foldsF; rw [List.length_map]
  have f5 : F5.length = (keysOf l).length := by rw [h5]; unfold foldsF; rw [List.length_map]
  have f7 : F7.length = (keysOf l).length := by rw [h7]; unfold foldsF; rw [List.length_map]
  have hnd : (keysOf l).Nodup := (keysOf_srt l).imp fun h => by omega
  have htot := sum_vals (keysOf l) hnd l (fun r hr => (mem_keysOf l _).2 (List.mem_map.2 ⟨r, hr, rfl⟩))
  intro rest
  induction rest with
  | nil =>
    intro pre k h hk
    obtain ⟨k, rfl⟩ : ∃ j, k = j + 1 := ⟨k - 1, by omega⟩
    rw [List.append_nil] at h
    rw [Q12P.watershedlaw12_OperBounds.l0, if_neg (by rw [f3, h]; omega), ← h, htot]
    simp
  | cons x rest ih =>
    intro pre k h hk
    have hlen : (keysOf l).length = pre.length + (rest.length + 1) := by rw [h, List.length_append, List.length_cons]
    have hi : pre.length < (keysOf l).length := by omega
    have hx : (keysOf l)[pre.length] = x := by
      simp [h]
    have hne := valsOf_ne (l := l) (x := x) (by rw [h]; simp)
    have hvl := valsOf_length x l
    have hpos : 0 < (valsOf x l).length := by cases hv : valsOf x l with
      | nil => exact absurd hv hne
      | cons a b => simp
    obtain ⟨k2, hk2, hkk⟩ : ∃ k2, k = k2 + 1 + l.length + 1 ∧ rest.length * 302 + 1 ≤ k2 := by
      clear hne hvl hpos hx hlen ih h htot hnd f3 f5 f7 hkl hi
      rw [List.length_cons, Nat.add_mul, Nat.one_mul] at hk
      generalize rest.length * 302 = z at hk ⊢
      exact ⟨k - (l.length + 2), by omega, by omega⟩
    subst hk2
    have r3 : rd_T25 F3 (pre.length : Int) = ⟨x, (valsOf x l).length⟩ := by
      rw [rd_get F3 pre.length (by omega)]
      subst h3
      unfold foldsF
      rw [List.getElem_map, hx]
      rfl
    have r5 : rd_T25 F5 (pre.length : Int) = ⟨x, Lib.minOf (valsOf x l)⟩ := by
      rw [rd_get F5 pre.length (by omega)]
      subst h5
      unfold foldsF
      rw [List.getElem_map, hx]
      rfl
    have r7 : rd_T25 F7 (pre.length : Int) = ⟨x, Lib.maxOf (valsOf x l)⟩ := by
      rw [rd_get F7 pre.length (by omega)]
      subst h7
      unfold foldsF
      rw [List.getElem_map, hx]
      rfl
    have m1 := minOf_spec hne
    have m2 := maxOf_spec hne
    have hb : ∀ r ∈ l, r.f0 = x → Lib.minOf (valsOf x l) ≤ r.f1 ∧ r.f1 ≤ Lib.maxOf (valsOf x l) := fun r hr he => by
      have : r.f1 ∈ valsOf x l := by
        unfold valsOf
        exact List.mem_map.2 ⟨r, List.mem_filter.2 ⟨hr, by simp [he]⟩, rfl⟩
      exact ⟨m1.2 _ this, m2.2 _ this⟩
    have hstep := l1_f l F3 F5 F7 (((pre.map fun x => (valsOf x l).length).sum : Nat) : Int) pre.length x _ _ (by omega) (by omega) (by omega) (by rw [r3]) (by rw [r5]) (by rw [r7]) hl hb (k2 + 1) l [] 0 false false rfl (Nat.le_refl _)
    have c1 : (valsOf x l).contains (Lib.minOf (valsOf x l)) = true := by rw [List.contains_iff_mem]; exact m1.1
    have c2 : (valsOf x l).contains (Lib.maxOf (valsOf x l)) = true := by rw [List.contains_iff_mem]; exact m2.1
    rw [c1, c2, Nat.zero_add] at hstep
    have hstep2 : Q12P.watershedlaw12_OperBounds.l1 (k2 + 1 + l.length) l F3 F5 F7 (((pre.map fun x => (valsOf x l).length).sum : Nat) : Int) (pre.length : Int) 0 false false 0 = _ := hstep
    have hsum : (((pre ++ [x]).map fun x => (valsOf x l).length).sum : Nat) = (pre.map fun x => (valsOf x l).length).sum + (valsOf x l).length := by simp
    have hbound : (pre.map fun x => (valsOf x l).length).sum + (valsOf x l).length ≤ l.length := by
      rw [← htot, h]
      simp
    rw [Q12P.watershedlaw12_OperBounds.l0, if_pos (by omega), hstep2]
    simp only [Bool.false_or]
    rw [l1_end l F3 F5 F7 _ pre.length x _ _ _ (by omega) (by omega) (by omega) r3 r5 r7 hpos k2]
    have := ih (pre ++ [x]) k2 (by rw [h]; simp) hkk
    rw [hsum] at this
    rw [Pl.w64 (by omega) (by omega), Pl.w64 (by omega) (by omega)]
    rw [List.length_append, List.length_singleton] at this
    rw [← this]
    congr 1
theorem OperBounds_f (l : List R) (hw : l.all wfR = true) : Q12P.watershedlaw12_OperBounds.f 200000 l = some true := by
  unfold Q12P.watershedlaw12_OperBounds.f
  rw [works_f2, Option.bind_some, if_pos rfl]
  by_cases h1 : (l.length : Int) > 300
  · rw [if_pos h1]
  · rw [if_neg h1]
    have hl : l.length ≤ 300 := by omega
    have g0 := own_f l (by omega)
    have g1 := Fold_f 12 l hl hw
    have g2 := Fold_f 13 l hl hw
    have g3 := Fold_f 14 l hl hw
    rw [if_pos (by omega)] at g1 g2 g3
    simp only [g0, g1, g2, g3, Option.bind_some]
    have f3 : (foldsF 12 l).length = (keysOf l).length := by unfold foldsF; rw [List.length_map]
    have f5 : (foldsF 13 l).length = (keysOf l).length := by unfold foldsF; rw [List.length_map]
    have f7 : (foldsF 14 l).length = (keysOf l).length := by unfold foldsF; rw [List.length_map]
    have e : ((((foldsF 14 l).length : Nat) : Int) != (((foldsF 12 l).length : Nat) : Int)) = false := by rw [f3, f7]; simp
    simp only [if_true]
    rw [if_pos (by rw [f3, f5]), e]
    have hkl := keysOf_length l
    have := l0_f l hl _ _ _ rfl rfl rfl (keysOf l) [] 199999 rfl (by omega)
    rw [show (200000 : Nat) = 199999 + 1 from rfl, Q12P.watershedlaw12_OperBounds.j0, if_neg (by simp)]
    exact this
end Go.Proofs.Ytogainbkidgkhaa.P12B
