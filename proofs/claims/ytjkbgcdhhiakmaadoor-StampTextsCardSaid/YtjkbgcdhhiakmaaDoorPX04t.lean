import Derived.Test.YtjkbgcdhhiakmaaDoorX04p
import Derived.Test.YtjkbgcdhhiakmaaDoorX04t
import Derived.Test.YtjkbgcdhhiakmaaDoorX04k
import Derived.Lib.SplitLaws
/- Plain: a time's writing, and the time of a writing. -/
namespace Go.Proofs.YtjkbgcdhhiakmaaDoor.P04y
set_option linter.unusedSimpArgs false
open Go.RowKit Go.Proofs.YtjkbgcdhhiakmaaDoorW.PrintWords Go.Proofs.YtjkbgcdhhiakmaaDoorW.PrintLast Go.Proofs.YtjkbgcdhhiakmaaDoorW.PrintMore Go.Proofs.YtjkbgcdhhiakmaaDoor.Pl Go.Proofs.YtjkbgcdhhiakmaaDoor.Ext
open Go.Proofs.YtjkbgcdhhiakmaaDoor.P04 (chk chk_ok)
open Go.Proofs.YtjkbgcdhhiakmaaDoor.M08 (dig dig_props can_dig hv hv_dig hv_mono hv_cons hv_nil Dg Cano dig_length dig_hv dig_lt dig_ge)
/-! What is in writing is read as the time. -/
theorem index_at : ∀ (x r : List UInt8), (46 : UInt8) ∉ x → Lib.index (x ++ 46 :: r) [46] = (x.length : Int)
  | [], r, _ => by simp [Lib.index, List.isPrefixOf]
  | y :: x, r, h => by
    have h1 : y ≠ 46 := fun q => h (q ▸ List.mem_cons_self)
    have h2 := index_at x r (fun q => h (List.mem_cons_of_mem _ q))
    have hp : ([46] : List UInt8).isPrefixOf (y :: (x ++ 46 :: r)) = false := by simp [List.isPrefixOf, Ne.symm h1]
    rw [List.cons_append, Lib.index, hp, h2, if_neg (by decide), if_neg (by simp <;> omega)]
    simp
theorem count_at (x : List UInt8) (h : (46 : UInt8) ∉ x) : Lib.count x [46] = 0 := by
  rw [Lib.count_one, List.count_eq_zero]
  exact h
theorem splitK_join : ∀ (ws : List (List UInt8)), ws ≠ [] → (∀ x ∈ ws, (46 : UInt8) ∉ x) → Lib.splitK [46] 0 (Lib.count (Lib.join ws [46]) [46]) (Lib.join ws [46]) = ws
  | [], h, _ => absurd rfl h
  | [x], _, h => by
    have e : Lib.join [x] [46] = x := by simp [Lib.join, List.intercalate]
    rw [e, count_at x (h x List.mem_cons_self)]
    rfl
  | x :: y :: ys, _, h => by
    have ih := splitK_join (y :: ys) (by simp) (fun z hz => h z (List.mem_cons_of_mem _ hz))
    have hx := h x List.mem_cons_self
    have e : Lib.join (x :: y :: ys) [46] = x ++ 46 :: Lib.join (y :: ys) [46] := by simp [Lib.join, List.intercalate]
    have hi := index_at x (Lib.join (y :: ys) [46]) hx
    have hc : Lib.count (x ++ 46 :: Lib.join (y :: ys) [46]) [46] = Lib.count (Lib.join (y :: ys) [46]) [46] + 1 := by
      rw [Lib.count_one, Lib.count_one, List.count_append, List.count_eq_zero.2 hx, List.count_cons_self]
      omega
    rw [e, hc, Lib.splitK, hi, if_neg (by simp <;> omega)]
    have e1 : ((x.length : Int).toNat + 0) = x.length := by simp
    have e2 : ((x.length : Int).toNat + ([46] : List UInt8).length) = x.length + 1 := by simp
    rw [e1, e2, List.take_left]
    have e3 : (x ++ 46 :: Lib.join (y :: ys) [46]).drop (x.length + 1) = Lib.join (y :: ys) [46] := by
      rw [show x ++ 46 :: Lib.join (y :: ys) [46] = (x ++ [46]) ++ Lib.join (y :: ys) [46] from by simp, List.drop_left' (by simp)]
    rw [e3, ih]
theorem data_inj {a b : ByteArray} (h : a.data.toList = b.data.toList) : a = b := by
  obtain ⟨⟨x⟩⟩ := a
  obtain ⟨⟨y⟩⟩ := b
  simp only at h
  rw [h]
theorem map_inj : ∀ (a b : List ByteArray), a.map (·.data.toList) = b.map (·.data.toList) → a = b
  | [], [], _ => rfl
  | [], _ :: _, h => by cases h
  | _ :: _, [], h => by cases h
  | x :: a, y :: b, h => by
    rw [List.map_cons, List.map_cons] at h
    obtain ⟨h1, h2⟩ := List.cons.inj h
    rw [data_inj h1, map_inj a b h2]
theorem split_dots (ws : List ByteArray) (h0 : ws ≠ []) (h : ∀ x ∈ ws, (46 : UInt8) ∉ x.data.toList) : splitF (dots ws) = ws := by
  apply map_inj
  unfold splitF
  rw [Lib.splitB_data]
  have e : (dots ws).data.toList = Lib.join (ws.map (·.data.toList)) [46] := rfl
  have e2 : Lib.countB (dots ws) dot = Lib.count (Lib.join (ws.map (·.data.toList)) [46]) [46] := rfl
  have e3 : dot.data.toList = [46] := rfl
  rw [e2, e, e3]
  exact splitK_join _ (by simpa using h0) (fun x hx => by
    obtain ⟨y, hy, rfl⟩ := List.mem_map.1 hx
    exact h y hy)
theorem dgs_no (v : Int) : (46 : UInt8) ∉ (dgs v).data.toList := by
  unfold dgs
  rw [strOfNums_dat]
  intro h
  obtain ⟨n, hn, e⟩ := List.mem_map.1 h
  have hd := (dig_props v.toNat).1 n hn
  have := congrArg UInt8.toNat e
  rw [UInt8.toNat_ofNat'] at this
  have h46 : (46 : UInt8).toNat = 46 := rfl
  rw [h46] at this
  omega
theorem numD_hv : ∀ (l : List Int) (n : Int), 0 ≤ n → Dg l → hv n l ≤ 1048576 → P04.numD l n = (hv n l, true)
  | [], n, _, _, h => by
    have h : n ≤ 1048576 := h
    simp [P04.numD, hv_nil, h]
  | c :: t, n, h0, hd, h => by
    have hc := hd c List.mem_cons_self
    have ht : Dg t := fun x hx => hd x (List.mem_cons_of_mem _ hx)
    rw [hv_cons] at h ⊢
    have hm := hv_mono ht (10 * n + (c - 48)) (by omega)
    rw [P04.numD, if_neg (by omega)]
    exact numD_hv t _ (by omega) ht h
theorem numF_dgs (v : Int) (h : 0 ≤ v ∧ v ≤ 1048576) : P04.numF (dgs v) = (v, true) := by
  have hp := dig_props v.toNat
  have hc := can_dig v.toNat
  unfold P04.numF dgs
  rw [bytesOf_strOfNums _ (fun b hb => by have := hp.1 b hb; omega)]
  cases hl : dig v.toNat with
  | nil => exact absurd hl hp.2.1
  | cons c t =>
    rw [hl] at hc hp
    simp only
    rw [if_neg (by
      rintro ⟨h1, rfl⟩
      exact hc.2.2 (by cases t with
        | nil => exact absurd rfl h1
        | cons _ _ => simp) rfl)]
    rw [numD_hv _ 0 (by omega) hp.1 (by rw [hp.2.2.1]; omega), hp.2.2.1]
    rw [show ((v.toNat : Nat) : Int) = v from by omega]
theorem dgs_sz (v : Int) (h : 0 ≤ v ∧ v ≤ 1048576) : (dgs v).size ≤ 10 := dgs_size v (by omega)
theorem join_len : ∀ (ws : List (List UInt8)), (∀ x ∈ ws, x.length ≤ 10) → (Lib.join ws [46]).length ≤ 11 * ws.length
  | [], _ => by simp [Lib.join, List.intercalate]
  | [x], h => by
    have := h x List.mem_cons_self
    simp [Lib.join, List.intercalate]
    omega
  | x :: y :: ys, h => by
    have ih := join_len (y :: ys) (fun z hz => h z (List.mem_cons_of_mem _ hz))
    have := h x List.mem_cons_self
    have e : Lib.join (x :: y :: ys) [46] = x ++ 46 :: Lib.join (y :: ys) [46] := by simp [Lib.join, List.intercalate]
    rw [e]
    simp only [List.length_append, List.length_cons] at ih ⊢
    omega
theorem dots_size (ws : List ByteArray) (h : ∀ x ∈ ws, x.size ≤ 10) : (dots ws).size ≤ 11 * ws.length := by
  have := join_len (ws.map (·.data.toList)) (fun x hx => by
    obtain ⟨y, hy, rfl⟩ := List.mem_map.1 hx
    exact h y hy)
  rw [List.length_map] at this
  exact this
theorem Text_back (e d a b c : Int) (h : chk e d a b c = 0) (nn : 0 ≤ e ∧ 0 ≤ a ∧ 0 ≤ b ∧ 0 ≤ c) :
    stamp_Text.f e d a b c = some (dots (wordsT e d a b c), 0) ∧ stamp_Parse.f (dots (wordsT e d a b c)) = some (e, d, a, b, c, 0) := by
  have k := chk_ok h
  have hw : ∀ x ∈ wordsT e d a b c, (46 : UInt8) ∉ x.data.toList ∧ x.size ≤ 10 := by
    have q : ∀ v, 0 ≤ v ∧ v ≤ 1048576 → (46 : UInt8) ∉ (dgs v).data.toList ∧ (dgs v).size ≤ 10 := fun v hv => ⟨dgs_no v, dgs_sz v hv⟩
    have q0 := q e (by omega)
    have q1 := q a (by omega)
    have q2 := q b (by omega)
    have q3 := q c (by omega)
    unfold wordsT
    repeat' split
    all_goals
      intro x hx
      simp only [List.mem_cons, List.not_mem_nil, or_false] at hx
      rcases hx with rfl | rfl | rfl | rfl <;> assumption
  have hn : wordsT e d a b c ≠ [] ∧ (wordsT e d a b c).length ≤ 4 := by
    unfold wordsT
    repeat' split
    all_goals exact ⟨by simp, by simp⟩
  constructor
  · unfold stamp_Text.f textF
    rw [if_pos (by omega), if_neg (by simpa using h)]
  · have hs := dots_size _ (fun x hx => (hw x hx).2)
    unfold stamp_Parse.f parseF
    rw [if_pos (by omega), split_dots _ hn.1 (fun x hx => (hw x hx).1)]
    have f0 := numF_dgs e (by omega)
    have f1 := numF_dgs a (by omega)
    have f2 := numF_dgs b (by omega)
    have f3 := numF_dgs c (by omega)
    unfold wordsT
    obtain rfl | rfl | rfl | rfl : d = 0 ∨ d = 1 ∨ d = 2 ∨ d = 3 := by omega
    · obtain ⟨rfl, rfl, rfl⟩ : a = 0 ∧ b = 0 ∧ c = 0 := by omega
      simp [parseW, f0]
    · obtain ⟨rfl, rfl⟩ : b = 0 ∧ c = 0 := by omega
      simp [parseW, f0, f1]
    · obtain rfl : c = 0 := by omega
      simp [parseW, f0, f1, f2]
    · simp [parseW, f0, f1, f2, f3]
theorem index_take : ∀ (s : List UInt8) (i : Nat), Lib.index s [46] = i → s = s.take i ++ 46 :: s.drop (i + 1)
  | [], i, h => by
    rw [Lib.index] at h
    simp at h
  | b :: l, i, h => by
    rw [Lib.index] at h
    by_cases hp : b = 46
    · subst hp
      have e : ([46] : List UInt8).isPrefixOf (46 :: l) = true := by simp [List.isPrefixOf]
      rw [e, if_pos rfl] at h
      obtain rfl : i = 0 := by omega
      rfl
    · have e : ([46] : List UInt8).isPrefixOf (b :: l) = false := by simp [List.isPrefixOf, Ne.symm hp]
      rw [e, if_neg (by decide)] at h
      split at h
      · omega
      · rename_i q
        have hge := Lib.index_ge l [46]
        have hne : Lib.index l [46] ≠ -1 := fun z => q (beq_iff_eq.2 z)
        obtain ⟨j, rfl⟩ : ∃ j, i = j + 1 := ⟨i - 1, by omega⟩
        have ih := index_take l j (by omega)
        rw [List.take_succ_cons, List.drop_succ_cons, List.cons_append, ← ih]
theorem join_split : ∀ (k : Nat) (s : List UInt8), Lib.join (Lib.splitK [46] 0 k s) [46] = s
  | 0, s => Lib.join_one s [46]
  | k + 1, s => by
    rw [Lib.splitK]
    split
    · exact Lib.join_one s [46]
    · rename_i q
      have hne : Lib.index s [46] ≠ -1 := fun z => q (beq_iff_eq.2 z)
      have hge := Lib.index_ge s [46]
      obtain ⟨i, hi⟩ : ∃ i : Nat, Lib.index s [46] = i := ⟨(Lib.index s [46]).toNat, by omega⟩
      have ih := join_split k (s.drop (i + 1))
      have e := index_take s i hi
      rw [hi]
      simp only [Int.toNat_natCast, List.length_singleton, Nat.add_zero]
      have hn : Lib.splitK [46] 0 k (s.drop (i + 1)) ≠ [] := by
        cases k with
        | zero => simp [Lib.splitK]
        | succ k => rw [Lib.splitK]; split <;> simp
      cases hz : Lib.splitK [46] 0 k (s.drop (i + 1)) with
      | nil => exact absurd hz hn
      | cons y ys =>
        rw [hz] at ih
        have e2 : Lib.join (s.take i :: y :: ys) [46] = s.take i ++ 46 :: Lib.join (y :: ys) [46] := by simp [Lib.join, List.intercalate]
        rw [e2, ih, ← e]
theorem dots_split (s : ByteArray) : dots (splitF s) = s := by
  apply data_inj
  have e : (dots (splitF s)).data.toList = Lib.join ((splitF s).map (·.data.toList)) [46] := rfl
  rw [e]
  unfold splitF
  rw [Lib.splitB_data]
  exact join_split _ _
theorem numD_inv : ∀ (l : List Int) (m n : Int), P04.numD l m = (n, true) → Dg l ∧ hv m l = n ∧ n ≤ 1048576
  | [], m, n, h => by
    rw [P04.numD] at h
    obtain ⟨rfl, h2⟩ := Prod.mk.inj h
    exact ⟨fun x hx => (by cases hx), rfl, of_decide_eq_true h2⟩
  | c :: t, m, n, h => by
    rw [P04.numD] at h
    split at h
    · cases (Prod.mk.inj h).2
    · rename_i q
      obtain ⟨h1, h2, h3⟩ := numD_inv t _ _ h
      refine ⟨fun x hx => ?_, ?_, h3⟩
      · rcases List.mem_cons.1 hx with rfl | hx
        · omega
        · exact h1 x hx
      · rw [hv_cons]
        exact h2
theorem numF_inv (w : ByteArray) (h : (P04.numF w).2 = true) : w = dgs (P04.numF w).1 ∧ 0 ≤ (P04.numF w).1 ∧ (P04.numF w).1 ≤ 1048576 := by
  have hr := P04.numF_range w
  refine ⟨?_, hr.1, hr.2 h⟩
  unfold P04.numF at h ⊢
  cases hb : bytesOf w with
  | nil => rw [hb] at h; cases h
  | cons c t =>
    rw [hb] at h
    simp only at h ⊢
    by_cases q : t ≠ [] ∧ c = 48
    · rw [if_pos q] at h
      cases h
    · rw [if_neg q] at h ⊢
      obtain ⟨h1, h2, h3⟩ := numD_inv (c :: t) 0 (P04.numD (c :: t) 0).1 (Prod.ext rfl h)
      have hc : Cano (c :: t) := ⟨by simp, h1, fun hl e => q ⟨by rintro rfl; simp at hl, by simpa using e⟩⟩
      apply bytes_inj
      unfold dgs
      rw [bytesOf_strOfNums _ (fun b hb => by have := (dig_props _).1 b hb; omega), ← h2, dig_hv _ _ rfl hc, hb]
theorem ckd (e d a b c : Int) (hd : 0 ≤ d ∧ d ≤ 3) (he : e ≤ 1048576) (ha : a ≤ 1048576) (hb : b ≤ 1048576) (hc : c ≤ 1048576) (h5 : d ≤ 0 → a = 0) (h6 : d ≤ 1 → b = 0) (h7 : d ≤ 2 → c = 0) : chk e d a b c = 0 := by
  unfold chk
  rw [if_neg (by omega), if_neg (by omega), if_neg (by omega)]
/-- A writing of which a time comes is that time's own; of any other comes nothing. -/
theorem parse_cases (s : ByteArray) : parseF s = badP ∨ ∃ e d a b c, parseF s = ((e, d, a, b, c), 0) ∧ chk e d a b c = 0 ∧ (0 ≤ e ∧ 0 ≤ a ∧ 0 ≤ b ∧ 0 ≤ c) ∧ s = dots (wordsT e d a b c) := by
  have hs := dots_split s
  unfold parseF
  generalize splitF s = ws at hs
  subst hs
  match ws with
  | [] => exact .inl rfl
  | [x0] =>
    rw [show parseW [x0] = if (P04.numF x0).2 = true then (((P04.numF x0).1, 0, 0, 0, 0), 0) else badP from rfl]
    split
    · rename_i h
      obtain ⟨e0, r0⟩ := numF_inv x0 h
      exact .inr ⟨_, _, _, _, _, rfl, ckd _ _ _ _ _ (by omega) (by omega) (by omega) (by omega) (by omega) (by omega) (by omega) (by omega), by omega, by rw [show wordsT (P04.numF x0).1 0 0 0 0 = [dgs (P04.numF x0).1] from rfl, ← e0]⟩
    · exact .inl rfl
  | [x0, x1] =>
    rw [show parseW [x0, x1] = if (P04.numF x0).2 = true ∧ (P04.numF x1).2 = true then (((P04.numF x0).1, 1, (P04.numF x1).1, 0, 0), 0) else badP from rfl]
    split
    · rename_i h
      obtain ⟨e0, r0⟩ := numF_inv x0 h.1
      obtain ⟨e1, r1⟩ := numF_inv x1 h.2
      exact .inr ⟨_, _, _, _, _, rfl, ckd _ _ _ _ _ (by omega) (by omega) (by omega) (by omega) (by omega) (by omega) (by omega) (by omega), by omega, by rw [show wordsT (P04.numF x0).1 1 (P04.numF x1).1 0 0 = [dgs (P04.numF x0).1, dgs (P04.numF x1).1] from rfl, ← e0, ← e1]⟩
    · exact .inl rfl
  | [x0, x1, x2] =>
    rw [show parseW [x0, x1, x2] = if (P04.numF x0).2 = true ∧ (P04.numF x1).2 = true ∧ (P04.numF x2).2 = true then (((P04.numF x0).1, 2, (P04.numF x1).1, (P04.numF x2).1, 0), 0) else badP from rfl]
    split
    · rename_i h
      obtain ⟨e0, r0⟩ := numF_inv x0 h.1
      obtain ⟨e1, r1⟩ := numF_inv x1 h.2.1
      obtain ⟨e2, r2⟩ := numF_inv x2 h.2.2
      exact .inr ⟨_, _, _, _, _, rfl, ckd _ _ _ _ _ (by omega) (by omega) (by omega) (by omega) (by omega) (by omega) (by omega) (by omega), by omega, by rw [show wordsT (P04.numF x0).1 2 (P04.numF x1).1 (P04.numF x2).1 0 = [dgs (P04.numF x0).1, dgs (P04.numF x1).1, dgs (P04.numF x2).1] from rfl, ← e0, ← e1, ← e2]⟩
    · exact .inl rfl
  | [x0, x1, x2, x3] =>
    rw [show parseW [x0, x1, x2, x3] = if (P04.numF x0).2 = true ∧ (P04.numF x1).2 = true ∧ (P04.numF x2).2 = true ∧ (P04.numF x3).2 = true then (((P04.numF x0).1, 3, (P04.numF x1).1, (P04.numF x2).1, (P04.numF x3).1), 0) else badP from rfl]
    split
    · rename_i h
      obtain ⟨e0, r0⟩ := numF_inv x0 h.1
      obtain ⟨e1, r1⟩ := numF_inv x1 h.2.1
      obtain ⟨e2, r2⟩ := numF_inv x2 h.2.2.1
      obtain ⟨e3, r3⟩ := numF_inv x3 h.2.2.2
      exact .inr ⟨_, _, _, _, _, rfl, ckd _ _ _ _ _ (by omega) (by omega) (by omega) (by omega) (by omega) (by omega) (by omega) (by omega), by omega, by rw [show wordsT (P04.numF x0).1 3 (P04.numF x1).1 (P04.numF x2).1 (P04.numF x3).1 = [dgs (P04.numF x0).1, dgs (P04.numF x1).1, dgs (P04.numF x2).1, dgs (P04.numF x3).1] from rfl, ← e0, ← e1, ← e2, ← e3]⟩
    · exact .inl rfl
  | x0 :: x1 :: x2 :: x3 :: x4 :: ws => exact .inl (parseW_many (by simp))
end Go.Proofs.YtjkbgcdhhiakmaaDoor.P04y
