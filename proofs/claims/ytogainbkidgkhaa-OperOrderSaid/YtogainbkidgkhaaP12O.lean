import Derived.Test.YtogainbkidgkhaaP12F
import Derived.Test.YtogainbkidgkhaaX12go
import Derived.Test.YtogainbkidgkhaaQ12Ox
/- Plain: the law OperOrder. -/
namespace Go.Proofs.Ytogainbkidgkhaa.P12O
set_option linter.unusedSimpArgs false
set_option linter.unusedVariables false
open Go.RowKit Go.Proofs.YtogainbkidgkhaaW.PrintWords Go.Proofs.YtogainbkidgkhaaW.PrintLast Go.Proofs.YtogainbkidgkhaaW.PrintMore Go.Proofs.Ytogainbkidgkhaa.Q12f F12 P12F
abbrev R := S25
/-! ### works -/
theorem keysOf_w : keysOf [(⟨1, 2⟩ : R), (⟨2, 5⟩ : R), (⟨1, 3⟩ : R)] = [1, 2] := keysOf_eq (by unfold SrtI; simp) (fun x => by simp; omega)
theorem fold_w : Ext.oper_Fold.f 11 [(⟨1, 2⟩ : R), (⟨2, 5⟩ : R), (⟨1, 3⟩ : R)] = some ([⟨1, 5⟩, ⟨2, 5⟩], 0) := by
  rw [Fold_f 11 _ (by decide) (by decide +kernel), if_pos (by omega)]
  have hK := keysOf_w
  unfold foldsF
  rw [hK]
  have h1 : foldV 11 (valsOf 1 [(⟨1, 2⟩ : R), (⟨2, 5⟩ : R), (⟨1, 3⟩ : R)]) = 5 := by decide +kernel
  have h2 : foldV 11 (valsOf 2 [(⟨1, 2⟩ : R), (⟨2, 5⟩ : R), (⟨1, 3⟩ : R)]) = 5 := by decide +kernel
  simp only [List.map_cons, List.map_nil, h1, h2]
theorem fold_w2 : Ext.oper_Fold.f 3 ([] : List R) = some ([], 70) := by
  rw [Fold_f 3 _ (by decide) (by decide +kernel), if_neg (by omega)]
theorem one_f (nm : ByteArray) (kd c d a b : Int) (x : R) : Ext.oper_One.f nm kd c d a b x.f0 x.f1 = some (P12.oneF kd a b x) := by
  unfold Ext.oper_One.f
  exact P12.One_f 199995 nm kd c d a b x
theorem one_f' (nm : ByteArray) (kd c d a b k v : Int) : Ext.oper_One.f nm kd c d a b k v = some (P12.oneF kd a b ⟨k, v⟩) := one_f nm kd c d a b ⟨k, v⟩
theorem text_w : Q12O.data_Text.f 10000 [(⟨1, 5⟩ : R), (⟨2, 5⟩ : R)] = some ⟨#[49, 58, 53, 44, 50, 58, 53]⟩ := by decide +kernel
theorem keeps_f (x : Int) : Ext.oper_Keeps.f x = some (decide (11 ≤ x ∧ x ≤ 14)) := by
  unfold Ext.oper_Keeps.f
  exact P12.Keeps_f x
theorem works_f : Q12O.watershedlaw12_works.f 10000 = some true := by
  unfold Q12O.watershedlaw12_works.f
  rw [fold_w, Option.bind_some, fold_w2, Option.bind_some]
  rw [show Ext.oper_One.f (⟨#[]⟩ : ByteArray) 3 0 0 2 1 7 3 = some (7, 7, true) from (one_f' _ 3 0 0 2 1 7 3).trans (by decide +kernel), Option.bind_some]
  rw [show Ext.oper_One.f (⟨#[]⟩ : ByteArray) 4 0 0 5 1 0 (-4) = some (0, -4, true) from (one_f' _ 4 0 0 5 1 0 (-4)).trans (by decide +kernel), Option.bind_some]
  rw [show Ext.oper_One.f (⟨#[]⟩ : ByteArray) 4 0 0 5 1 0 4 = some (0, 0, false) from (one_f' _ 4 0 0 5 1 0 4).trans (by decide +kernel), Option.bind_some]
  simp only [if_true]
  rw [text_w, Option.bind_some, keeps_f, keeps_f]
  decide +kernel
/-! ### Order -/
theorem srt_perm {x y : List R} (h : x.Perm y) : O12.srt x = O12.srt y := by
  have tr : ∀ a b c : R, (!(Go.Proofs.ltOf C12.cfR) b a) = true → (!(Go.Proofs.ltOf C12.cfR) c b) = true → (!(Go.Proofs.ltOf C12.cfR) c a) = true := fun a b c h1 h2 => by
    simp only [Bool.not_eq_true', O12.lt_iff_f] at *
    omega
  have tot : ∀ a b : R, ((!(Go.Proofs.ltOf C12.cfR) b a) || (!(Go.Proofs.ltOf C12.cfR) a b)) = true := fun a b => by
    simp only [Bool.or_eq_true, Bool.not_eq_true', O12.lt_iff_f]
    omega
  refine List.Perm.eq_of_pairwise (le := fun a b => (!(Go.Proofs.ltOf C12.cfR) b a) = true) (fun a b _ _ h1 h2 => ?_) (List.pairwise_mergeSort tr tot x) (List.pairwise_mergeSort tr tot y) (((List.mergeSort_perm x _).trans h).trans (List.mergeSort_perm y _).symm)
  simp only [Bool.not_eq_true'] at h1 h2
  exact O12.total a b h2 h1
theorem Eq_l (s : List R) (hl : s.length ≤ 1000000) : ∀ (d : Nat) (k : Nat) (i : Int), 0 ≤ i → i + d = s.length → d < k → Q12O.api_Record_30.l0 k s s (s.length : Int) i = some true
  | 0, k + 1, i, h0, hd, _ => by rw [Q12O.api_Record_30.l0, if_neg (by omega)]
  | d + 1, k + 1, i, h0, hd, hk => by
    have ih := Eq_l s hl d k (i + 1) (by omega) (by omega) (by omega)
    have hw : wrap64 (i + 1) = i + 1 := Pl.w64 (by omega) (by omega)
    have hi : i < (s.length : Int) := by omega
    clear hd hk hl
    rw [Q12O.api_Record_30.l0, if_pos hi, if_pos h0, if_pos hi, if_pos hi, hw, ih]
    simp
theorem Same_f (k : Nat) {x y : List R} (h : x.Perm y) (hl : x.length ≤ 100000) (hk : x.length < k) : Q12O.data_Same.f k x y = some true := by
  have hy : y.length ≤ 100000 := by rw [← h.length_eq]; exact hl
  have hs : (O12.srt y).length = y.length := by unfold O12.srt; simp
  unfold Q12O.data_Same.f Ext.data_Order.f
  rw [if_pos hl, Option.bind_some, if_pos hy, Option.bind_some, srt_perm h]
  unfold Q12O.api_Record_30.f
  rw [if_pos rfl, Eq_l (O12.srt y) (by omega) (O12.srt y).length k 0 (by omega) (by omega) (by rw [hs, ← h.length_eq]; exact hk)]
  rfl
/-! ### What an operator makes does not hang on the order -/
theorem eachF_perm (kd a b : Int) {x y : List R} (h : x.Perm y) : (P12.eachF kd a b x).Perm (P12.eachF kd a b y) := by
  induction h with
  | nil => exact .refl _
  | cons x _ ih =>
    rw [P12.eachF, P12.eachF]
    split
    · exact ih.cons _
    · exact ih
  | swap x y l =>
    simp only [P12.eachF]
    split <;> split
    · exact .swap _ _ _
    · exact .refl _
    · exact .refl _
    · exact .refl _
  | trans _ _ h1 h2 => exact h1.trans h2
theorem goesF_perm (kd a b : Int) {x y : List R} (h : x.Perm y) : (J12.goesF kd a b x).Perm (J12.goesF kd a b y) := by
  unfold J12.goesF
  split
  · rw [folds_perm kd h]
  · exact eachF_perm kd a b h
theorem foldsF_length (kd : Int) (l : List R) : (foldsF kd l).length ≤ l.length := by
  unfold foldsF
  rw [List.length_map]
  exact keysOf_length l
theorem goesF_length (kd a b : Int) (l : List R) : (J12.goesF kd a b l).length ≤ l.length := by
  unfold J12.goesF
  split
  · exact foldsF_length kd l
  · exact P12.eachF_length kd a b l
theorem goes_f (nm : ByteArray) (kd c d a b : Int) (l : List R) (hl : l.length ≤ 300) (hw : l.all wfR = true) : Ext.oper_Goes.f nm kd c d a b l = some (J12.goesF kd a b l) := if_pos ⟨hl, hw⟩
theorem own_f (l : List R) (hl : l.length ≤ 100000) : Ext.watershedlaw12_own.f l = some l := by
  unfold Ext.watershedlaw12_own.f
  exact P12.own_f l (by omega)
theorem to_f (nm : ByteArray) (kd c d a b : Int) : Ext.watershedlaw12_To.f nm kd c d a b = some (nm, kd, c, d, a, b) := by
  unfold Ext.watershedlaw12_To.f
  exact P12.To_f nm kd c d a b
/-! ### The parts by keys -/
def partN (m : Nat) (x : Int) : Nat := ((Q12O.num_Part.f x (m : Int)).getD (0, 0)).1.toNat
theorem part_f (m : Nat) (h1 : 1 ≤ m) (h4 : m ≤ 4) (x : Int) : Q12O.num_Part.f x (m : Int) = some (((partN m x : Nat) : Int), 0) ∧ partN m x < m := by
  have hm : IntKind.u64.wrap (m : Int) = (m : Int) := Pl.u64_id (by omega) (by omega)
  obtain ⟨t, ht⟩ : ∃ t, Q12O.num_Mix.f x = some t := ⟨_, rfl⟩
  have hp : Q12O.num_Part.f x (m : Int) = some (Int.tmod (IntKind.u64.wrap t) (m : Int), 0) := by
    unfold Q12O.num_Part.f
    rw [if_neg (by omega), if_neg (by omega), ht, Option.bind_some, hm, if_neg (by omega)]
    have hu0 := (Pl.u64_range t).1
    rw [Int.tmod_eq_emod_of_nonneg hu0]
    have b0 : 0 ≤ IntKind.u64.wrap t % (m : Int) := Int.emod_nonneg _ (by omega)
    have b1 : IntKind.u64.wrap t % (m : Int) < m := Int.emod_lt_of_pos _ (by omega)
    rw [Pl.w64 (by omega) (by omega)]
  have hu0 := (Pl.u64_range t).1
  rw [Int.tmod_eq_emod_of_nonneg hu0] at hp
  have b0 : 0 ≤ IntKind.u64.wrap t % (m : Int) := Int.emod_nonneg _ (by omega)
  have b1 : IntKind.u64.wrap t % (m : Int) < m := Int.emod_lt_of_pos _ (by omega)
  generalize IntKind.u64.wrap t % (m : Int) = v at hp b0 b1
  have hn : partN m x = v.toNat := by
    unfold partN
    rw [hp]
    rfl
  rw [hn, hp]
  refine ⟨?_, by omega⟩
  rw [Int.toNat_of_nonneg b0]
def partL (m : Nat) (l : List R) (j : Nat) : List R := l.filter fun r => decide (partN m r.f0 = j)
def partsF (m : Nat) (l : List R) : List (List R) := (List.range m).map fun j => l.filter fun r => decide (partN m r.f0 = j)
theorem partsF_get (m : Nat) (l : List R) (j : Nat) (h : j < m) : Q12O.rd_L3 (partsF m l) (j : Int) = l.filter fun r => decide (partN m r.f0 = j) := by
  unfold Q12O.rd_L3 partsF
  rw [Int.toNat_natCast, List.getD_eq_getElem?_getD, List.getElem?_map, List.getElem?_range h]
  rfl
theorem partsF_step (m : Nat) (l : List R) (x : R) (h : partN m x.f0 < m) : (partsF m l).set (partN m x.f0) ((l.filter fun r => decide (partN m r.f0 = partN m x.f0)) ++ [x]) = partsF m (l ++ [x]) := by
  apply List.ext_getElem
  · simp [partsF]
  · intro j h1 h2
    rw [List.getElem_set]
    by_cases e : partN m x.f0 = j
    · rw [if_pos e]
      subst e
      simp [partsF]
    · rw [if_neg e]
      simp [partsF, e]
theorem spread_l (m : Nat) (h1 : 1 ≤ m) (h4 : m ≤ 4) (l : List R) (hl : l.length ≤ 1000) : ∀ (xs pre : List R) (k : Nat), l = pre ++ xs → xs.length < k →
    Q12O.data_Spread.l0 k (m : Int) (partsF m pre) l (l.length : Int) (pre.length : Int) = some (partsF m l, 0) := by
  intro xs
  induction xs with
  | nil =>
    intro pre k h hk
    obtain ⟨k, rfl⟩ : ∃ j, k = j + 1 := ⟨k - 1, by simp at hk; omega⟩
    rw [List.append_nil] at h
    subst h
    clear hk hl
    rw [Q12O.data_Spread.l0, if_neg (by simp)]
  | cons x t ih =>
    intro pre k h hk
    obtain ⟨k, rfl⟩ : ∃ j, k = j + 1 := ⟨k - 1, by simp at hk; omega⟩
    have hlen : l.length = pre.length + (t.length + 1) := by rw [h, List.length_append, List.length_cons]
    have hi : pre.length < l.length := by omega
    have hr : l[pre.length] = x := by subst h; simp
    have hrd : rd_T25 l (pre.length : Int) = x := by rw [rd_get l pre.length hi, hr]
    have hw : wrap64 ((pre.length : Int) + 1) = ((pre ++ [x]).length : Int) := by rw [Pl.w64 (by omega) (by omega)]; simp
    have ih := ih (pre ++ [x]) k (by rw [h]; simp) (by simp at hk; omega)
    obtain ⟨hp, hpm⟩ := part_f m h1 h4 x.f0
    have hlm : (partsF m pre).length = m := by simp [partsF]
    have hge := partsF_get m pre _ hpm
    have hst := partsF_step m pre x hpm
    obtain ⟨P, hP⟩ : ∃ P, P = pre.filter fun r => decide (partN m r.f0 = partN m x.f0) := ⟨_, rfl⟩
    have hfl : P.length ≤ pre.length := by rw [hP]; exact List.length_filter_le _ _
    rw [← hP] at hge hst
    have c1 : (pre.length : Int) < (l.length : Int) := by omega
    have c2 : (0 : Int) ≤ (pre.length : Int) := by omega
    have c3 : P.length < 8796093022208 := by omega
    have c4 : (0 : Int) ≤ ((partN m x.f0 : Nat) : Int) := by omega
    have c5 : ((partN m x.f0 : Nat) : Int) < ((partsF m pre).length : Int) := by omega
    rw [← hst] at ih
    clear hk hl hfl hlen hi hr h hP hpm hlm h1 h4 hst
    generalize partN m x.f0 = pn at *
    rw [Q12O.data_Spread.l0, if_pos c1, if_pos c2, if_pos c1, hrd, hp, Option.bind_some]
    simp only [Int.toNat_natCast]
    rw [if_pos c4, if_pos c5, hge, if_pos c3, eta, hw]
    exact ih
theorem spread_f (m : Nat) (h1 : 1 ≤ m) (h4 : m ≤ 4) (l : List R) (hl : l.length ≤ 1000) (k : Nat) (hk : l.length < k) : Q12O.data_Spread.f k l (m : Int) = some (partsF m l, 0) := by
  have hL := spread_l m h1 h4 l hl l [] k rfl hk
  have e : List.replicate ((m : Int)).toNat ([] : List R) = partsF m [] := by
    rw [Int.toNat_natCast]
    unfold partsF
    apply List.ext_getElem <;> simp
  have c1 : (0 : Int) ≤ (m : Int) := by omega
  have c2 : ((m : Int)).toNat ≤ 11728124029610 := by omega
  unfold Q12O.data_Spread.f
  rw [(part_f m h1 h4 0).1, Option.bind_some]
  clear hk hl h4 h1
  simp only [if_true]
  rw [if_pos c1, if_pos c2, e]
  exact hL
theorem valsOf_part (m : Nat) (l : List R) (x : Int) (j : Nat) (h : partN m x = j) : valsOf x (l.filter fun r => decide (partN m r.f0 = j)) = valsOf x l := by
  unfold valsOf
  rw [List.filter_filter]
  congr 1
  refine List.filter_congr fun r _ => ?_
  by_cases e : r.f0 = x
  · simp [e, h]
  · simp [e]
theorem parts_perm (m : Nat) (h1 : 1 ≤ m) (h4 : m ≤ 4) (kd : Int) (l : List R) : ((partsF m l).map (foldsF kd)).flatten.Perm (foldsF kd l) := by
  have e1 : (partsF m l).map (foldsF kd) = (List.range m).map fun j => (keysOf (l.filter fun r => decide (partN m r.f0 = j))).map fun x => (⟨x, foldV kd (valsOf x l)⟩ : R) := by
    unfold partsF
    rw [List.map_map]
    refine List.map_congr_left fun j _ => ?_
    show foldsF kd _ = _
    unfold foldsF
    refine List.map_congr_left fun x hx => ?_
    rw [mem_keysOf] at hx
    obtain ⟨r, hr, rfl⟩ := List.mem_map.1 hx
    have hj := (List.mem_filter.1 hr).2
    rw [valsOf_part m l r.f0 j (by simpa using hj)]
  have e2 : ((partsF m l).map (foldsF kd)).flatten = ((List.range m).map fun j => keysOf (l.filter fun r => decide (partN m r.f0 = j))).flatten.map fun x => (⟨x, foldV kd (valsOf x l)⟩ : R) := by
    rw [e1, List.map_flatten, List.map_map]
    rfl
  rw [e2]
  unfold foldsF
  refine List.Perm.map _ ((List.perm_ext_iff_of_nodup ?_ ?_).2 fun x => ?_)
  · unfold List.Nodup
    rw [List.pairwise_flatten]
    refine ⟨fun ks hks => ?_, ?_⟩
    · obtain ⟨j, _, rfl⟩ := List.mem_map.1 hks
      exact (keysOf_srt _).imp fun h => by omega
    · rw [List.pairwise_map]
      refine List.Pairwise.imp (fun {i j} hij x hx y hy e => ?_) List.pairwise_lt_range
      subst e
      rw [mem_keysOf] at hx hy
      obtain ⟨r, hr, h2⟩ := List.mem_map.1 hx
      obtain ⟨r', hr', h3⟩ := List.mem_map.1 hy
      have q1 := (List.mem_filter.1 hr).2
      have q2 := (List.mem_filter.1 hr').2
      simp only [decide_eq_true_eq] at q1 q2
      rw [h2] at q1
      rw [h3] at q2
      omega
  · exact (keysOf_srt _).imp fun h => by omega
  · rw [List.mem_flatten, mem_keysOf]
    constructor
    · rintro ⟨ks, hks, hx⟩
      obtain ⟨j, _, rfl⟩ := List.mem_map.1 hks
      rw [mem_keysOf] at hx
      obtain ⟨r, hr, h2⟩ := List.mem_map.1 hx
      exact List.mem_map.2 ⟨r, (List.mem_filter.1 hr).1, h2⟩
    · intro hx
      obtain ⟨r, hr, h2⟩ := List.mem_map.1 hx
      refine ⟨_, List.mem_map.2 ⟨partN m x, List.mem_range.2 (part_f m h1 h4 x).2, rfl⟩, ?_⟩
      rw [mem_keysOf]
      exact List.mem_map.2 ⟨r, List.mem_filter.2 ⟨hr, by rw [h2]; simp⟩, h2⟩
/-! ### The law's loops -/
theorem l2_f (nm : ByteArray) (kd c d a b : Int) (hk : 11 ≤ kd ∧ kd ≤ 14) (m : Nat) (h1 : 1 ≤ m) (h4 : m ≤ 4) (l : List R) (hl : l.length ≤ 300) (hw : l.all wfR = true) (k : Nat) (hk1 : 1000 < k) : ∀ (n j : Nat), j + n = m → ∀ acc : List R, acc = (((partsF m l).take j).map (foldsF kd)).flatten →
    acc.length ≤ 300 * j →
    Q12O.watershedlaw12_OperOrder.l2 (k + n + 1) (foldsF kd l) (partsF m l) acc (j : Int) nm kd c d a b = some true := by
  have hlm : (partsF m l).length = m := by simp [partsF]
  intro n
  induction n with
  | zero =>
    intro j hj acc he hn
    have hp := parts_perm m h1 h4 kd l
    have hfl := foldsF_length kd l
    have hle := hp.length_eq
    have hS := Same_f k hp (by omega) (by omega)
    rw [List.take_of_length_le (by omega)] at he
    subst he
    have hj2 : ¬ ((j : Int) < ((partsF m l).length : Int)) := by omega
    clear hn hk1 hfl hle hl
    rw [Nat.add_zero, Q12O.watershedlaw12_OperOrder.l2, if_neg hj2, hS]
    rfl
  | succ n ih =>
    intro j hj acc he hn
    have hjl : j < (partsF m l).length := by omega
    have hjm : j < m := by omega
    obtain ⟨P, hP⟩ : ∃ P, P = l.filter fun r => decide (partN m r.f0 = j) := ⟨_, rfl⟩
    have hwp : P.all wfR = true := by
      rw [hP]
      rw [List.all_eq_true] at hw ⊢
      exact fun x hx => hw x (List.mem_filter.1 hx).1
    have hlp : P.length ≤ l.length := by rw [hP]; exact List.length_filter_le _ _
    have hgl : J12.goesF kd a b P = foldsF kd P := if_pos hk
    have hfl := foldsF_length kd P
    have hge : (partsF m l)[j] = P := by rw [hP]; simp [partsF]
    have htk : (((partsF m l).take (j + 1)).map (foldsF kd)).flatten = acc ++ foldsF kd P := by
      rw [List.take_succ_eq_append_getElem hjl, List.map_append, List.flatten_append, hge, he]
      simp
    have ih := ih (j + 1) (by omega) (acc ++ foldsF kd P) htk.symm (by rw [List.length_append]; omega)
    have hget : Q12O.rd_L3 (partsF m l) (j : Int) = P := by rw [hP]; exact partsF_get m l j hjm
    have hG := goes_f nm kd c d a b P (by omega) hwp
    have c1 : (j : Int) < ((partsF m l).length : Int) := by omega
    have c2 : (0 : Int) ≤ (j : Int) := by omega
    have c3 : acc.length + (foldsF kd P).length < 8796093022208 := by omega
    have hw1 : wrap64 ((j : Int) + 1) = ((j + 1 : Nat) : Int) := by rw [Pl.w64 (by omega) (by omega)]; omega
    rw [hgl] at hG
    clear hn hlp hfl he htk hge hP hk1 hl hw hwp hgl hj hjm hjl h1 h4 hlm hk
    rw [show k + (n + 1) + 1 = (k + n + 1) + 1 from rfl, Q12O.watershedlaw12_OperOrder.l2, if_pos c1, to_f, Option.bind_some, if_pos c2, hget]
    simp only []
    rw [hG, Option.bind_some, if_pos c3, hw1]
    exact ih
theorem l1_f (nm : ByteArray) (kd c d a b : Int) (hk : 11 ≤ kd ∧ kd ≤ 14) (n : Int) (l : List R) (hl : l.length ≤ 300) (hw : l.all wfR = true) (k : Nat) (hk1 : 2000 < k) : ∀ (q i : Nat), 1 ≤ i → (i + q = (foldsF kd l).length ∨ (q = 0 ∧ (foldsF kd l).length ≤ i ∧ i ≤ 1)) →
    Q12O.watershedlaw12_OperOrder.l1 (k + q + 1) l n (foldsF kd l) (i : Int) nm kd c d a b = some true := by
  have hfl := foldsF_length kd l
  intro q
  induction q with
  | zero =>
    intro i h1 h
    obtain ⟨m, hm, hm1, hm4⟩ : ∃ m : Nat, (wrap64 (1 + (wrap64 (Int.tmod (IntKind.u64.wrap n) 4)))) = (m : Int) ∧ 1 ≤ m ∧ m ≤ 4 := by
      have hu0 := (Pl.u64_range n).1
      generalize IntKind.u64.wrap n = u at hu0
      have e : Int.tmod u 4 = u % 4 := Int.tmod_eq_emod_of_nonneg hu0
      rw [e, Pl.w64 (x := u % 4) (by omega) (by omega), Pl.w64 (by omega) (by omega)]
      exact ⟨(1 + u % 4).toNat, by omega, by omega, by omega⟩
    have hS := spread_f m hm1 hm4 l (by omega) k (by omega)
    have hO := own_f l (by omega)
    have hL := l2_f nm kd c d a b hk m hm1 hm4 l hl hw (k - m - 1) (by omega) m 0 (by omega) [] (by simp) (by simp)
    rw [show k - m - 1 + m + 1 = k by omega] at hL
    have c1 : ¬ ((i : Int) < ((foldsF kd l).length : Int)) := by omega
    clear hk1 hl hfl h h1 hm1 hm4 hk hw
    rw [Nat.add_zero, Q12O.watershedlaw12_OperOrder.l1, if_neg c1, hO, Option.bind_some, hm, hS, Option.bind_some, if_pos rfl]
    exact hL
  | succ q ih =>
    intro i h1 h
    have hi : i < (foldsF kd l).length := by omega
    have hi' : i - 1 < (foldsF kd l).length := by omega
    have hw1 : wrap64 ((i : Int) + 1) = ((i + 1 : Nat) : Int) := by rw [Pl.w64 (by omega) (by omega)]; omega
    have hw2 : wrap64 ((i : Int) - 1) = ((i - 1 : Nat) : Int) := by rw [Pl.w64 (by omega) (by omega)]; omega
    have hlt : (foldsF kd l)[i - 1].f0 < (foldsF kd l)[i].f0 := by
      have hs := keysOf_srt l
      unfold SrtI at hs
      have := List.pairwise_iff_getElem.1 hs (i - 1) i (by simp [foldsF] at hi'; exact hi') (by simp [foldsF] at hi; exact hi) (by omega)
      simpa [foldsF] using this
    have ih := ih (i + 1) (by omega) (by omega)
    have hr1 := rd_get (foldsF kd l) i hi
    have hr2 := rd_get (foldsF kd l) (i - 1) hi'
    have c1 : (i : Int) < ((foldsF kd l).length : Int) := by omega
    have c2 : (0 : Int) ≤ (i : Int) := by omega
    have c3 : (0 : Int) ≤ ((i - 1 : Nat) : Int) := by omega
    have c4 : ((i - 1 : Nat) : Int) < ((foldsF kd l).length : Int) := by omega
    have c5 : ¬ ((foldsF kd l)[i].f0 ≤ (foldsF kd l)[i - 1].f0) := by omega
    clear hk1 hl hfl h h1 hk hw hlt
    rw [show k + (q + 1) + 1 = (k + q + 1) + 1 from rfl, Q12O.watershedlaw12_OperOrder.l1, if_pos c1, if_pos c2, hw2, if_pos c3, if_pos c4, hr1, hr2, if_neg c5, hw1]
    exact ih
theorem l0_f (nm : ByteArray) (kd c d a b : Int) (n : Int) (l : List R) (hl : l.length ≤ 300) (hw : l.all wfR = true) (k : Nat) (hk1 : 4000 < k) : ∀ i : Nat, i ≤ l.length →
    Q12O.watershedlaw12_OperOrder.l0 (k + i + 1) l n (l.drop i).reverse ((i : Int) - 1) nm kd c d a b = some true := by
  intro i
  induction i with
  | zero =>
    intro _
    have hwr : l.reverse.all wfR = true := by rw [List.all_reverse]; exact hw
    have hp := goesF_perm kd a b (List.reverse_perm l).symm
    have hgl := goesF_length kd a b l
    have hO := own_f l (by omega)
    have hG1 := goes_f nm kd c d a b l hl hw
    have hG2 := goes_f nm kd c d a b l.reverse (by simpa using hl) hwr
    have hS := Same_f k hp (by omega) (by omega)
    have hfl := foldsF_length kd l
    have hL : (11 ≤ kd ∧ kd ≤ 14) → Q12O.watershedlaw12_OperOrder.l1 k l n (foldsF kd l) 1 nm kd c d a b = some true := fun hk => by
      by_cases h0 : (foldsF kd l).length = 0
      · have := l1_f nm kd c d a b hk n l hl hw (k - 1) (by omega) 0 1 (by omega) (.inr ⟨rfl, by omega, by omega⟩)
        rw [show k - 1 + 0 + 1 = k by omega] at this
        exact this
      · have := l1_f nm kd c d a b hk n l hl hw (k - ((foldsF kd l).length - 1) - 1) (by omega) ((foldsF kd l).length - 1) 1 (by omega) (.inl (by omega))
        rw [show k - ((foldsF kd l).length - 1) - 1 + ((foldsF kd l).length - 1) + 1 = k by omega] at this
        exact this
    have c1 : ¬ (((0 : Nat) : Int) - 1 ≥ 0) := by omega
    clear hk1 hl hfl hgl hp hwr hw
    rw [Nat.add_zero, Q12O.watershedlaw12_OperOrder.l0, if_neg c1, List.drop_zero]
    simp only [to_f, Option.bind_some, hO, hG1, hG2, hS, if_true, keeps_f]
    by_cases hk : 11 ≤ kd ∧ kd ≤ 14
    · rw [if_pos (decide_eq_true hk)]
      have hg : J12.goesF kd a b l = foldsF kd l := if_pos hk
      rw [hg]
      exact hL hk
    · rw [if_neg (by simpa using hk)]
  | succ i ih =>
    intro h
    have hi : i < l.length := by omega
    have hw2 : wrap64 (((i + 1 : Nat) : Int) - 1 - 1) = (i : Int) - 1 := by rw [Pl.w64 (by omega) (by omega)]; omega
    have ih := ih (by omega)
    have hrd : rd_T25 l (((i + 1 : Nat) : Int) - 1) = l[i] := by rw [show ((i + 1 : Nat) : Int) - 1 = (i : Int) by omega, rd_get l i hi]
    have hdr : (l.drop i).reverse = (l.drop (i + 1)).reverse ++ [l[i]] := by rw [List.drop_eq_getElem_cons hi, List.reverse_cons]
    have c1 : ((i + 1 : Nat) : Int) - 1 ≥ 0 := by omega
    have c2 : ((i + 1 : Nat) : Int) - 1 < (l.length : Int) := by omega
    have c3 : (l.drop (i + 1)).reverse.length < 8796093022208 := by simp; omega
    rw [hdr] at ih
    clear hk1 hl h hw
    rw [show k + (i + 1) + 1 = (k + i + 1) + 1 from rfl, Q12O.watershedlaw12_OperOrder.l0, if_pos c1, if_pos c1, if_pos c2, if_pos c3, hrd, eta, hw2]
    exact ih
theorem OperOrder_f (nm : ByteArray) (kd c d a b : Int) (l : List R) (hw : l.all wfR = true) (n : Int) (hn : -9223372036854775808 ≤ n ∧ n ≤ 9223372036854775807) : Q12O.watershedlaw12_OperOrder.f 10000 nm kd c d a b l n = some true := by
  unfold Q12O.watershedlaw12_OperOrder.f
  rw [works_f, Option.bind_some, if_pos rfl]
  by_cases h1 : (l.length : Int) > 300
  · rw [if_pos h1]
  · rw [if_neg h1]
    have := l0_f nm kd c d a b n l (by omega) hw (10000 - l.length - 1) (by omega) l.length (Nat.le_refl _)
    rw [show 10000 - l.length - 1 + l.length + 1 = 10000 by omega, List.drop_length] at this
    rw [show wrap64 ((l.length : Int) - 1) = (l.length : Int) - 1 from Pl.w64 (by omega) (by omega)]
    exact this
end Go.Proofs.Ytogainbkidgkhaa.P12O
