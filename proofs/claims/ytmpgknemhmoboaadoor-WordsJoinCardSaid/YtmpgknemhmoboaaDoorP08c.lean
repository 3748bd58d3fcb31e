import Derived.Test.YtmpgknemhmoboaaDoorQ08cx
import Derived.Test.YtmpgknemhmoboaaDoorPl
import Derived.Lib.SplitLaws
/- Plain: the law WordsCut: lines, words, names. -/
namespace Go.Proofs.YtmpgknemhmoboaaDoor.P08c
set_option linter.unusedSimpArgs false
open Go.RowKit Go.Proofs.YtmpgknemhmoboaaDoorW.PrintWords Go.Proofs.YtmpgknemhmoboaaDoorW.PrintLast Go.Proofs.YtmpgknemhmoboaaDoorW.PrintMore Go.Proofs.YtmpgknemhmoboaaDoor.Q08c Go.Proofs.YtmpgknemhmoboaaDoor.Pl Go.Proofs.YtmpgknemhmoboaaDoor.Ext
/-- A list cut at a number. -/
def sp (c : Int) : List Int → List (List Int)
  | [] => [[]]
  | b :: l => if b = c then [] :: sp c l else match sp c l with
    | [] => [[b]]
    | h :: t => (b :: h) :: t
def spU (c : UInt8) : List UInt8 → List (List UInt8)
  | [] => [[]]
  | b :: l => if b = c then [] :: spU c l else match spU c l with
    | [] => [[b]]
    | h :: t => (b :: h) :: t
theorem spU_ne (c : UInt8) : ∀ l, spU c l ≠ []
  | [] => by simp [spU]
  | b :: l => by
    rw [spU]
    split
    · simp
    · split <;> simp
theorem sp_ne (c : Int) : ∀ l, sp c l ≠ []
  | [] => by simp [sp]
  | b :: l => by
    rw [sp]
    split
    · simp
    · split <;> simp
theorem splitK_sp (c : UInt8) : ∀ s : List UInt8, Lib.splitK [c] 0 (Lib.count s [c]) s = spU c s
  | [] => by
    rw [show Lib.count [] [c] = 0 from by rw [Lib.count_one]; rfl]
    rfl
  | b :: l => by
    have ih := splitK_sp c l
    by_cases h : b = c
    · subst h
      have hix : Lib.index (b :: l) [b] = 0 := by rw [Lib.index]; simp [List.isPrefixOf]
      rw [Lib.count_cons_eq, Nat.add_comm, Lib.splitK, hix, if_neg (by decide), spU, if_pos rfl, ← ih]
      rfl
    · have hp : ([c] : List UInt8).isPrefixOf (b :: l) = false := by simp [List.isPrefixOf, Ne.symm h]
      have hix : Lib.index (b :: l) [c] = if Lib.index l [c] == -1 then -1 else Lib.index l [c] + 1 := by rw [Lib.index, hp]; simp
      rw [Lib.count_cons_ne b c l h, spU, if_neg h]
      cases hk : Lib.count l [c] with
      | zero =>
        rw [hk] at ih
        rw [← ih]
        rfl
      | succ k =>
        rw [hk] at ih
        have hm : Lib.index l [c] ≠ -1 := fun q => by rw [Lib.count_miss q] at hk; cases hk
        have hge := Lib.index_ge l [c]
        obtain ⟨j, hj⟩ : ∃ j : Nat, Lib.index l [c] = j := ⟨(Lib.index l [c]).toNat, by omega⟩
        have e1 : (Lib.index l [c] == -1) = false := beq_eq_false_iff_ne.2 hm
        rw [e1, if_neg (by decide), hj] at hix
        rw [Lib.splitK, hj, if_neg (by simp <;> omega)] at ih
        rw [Lib.splitK, hix, if_neg (by simp <;> omega), ← ih]
        have e2 : ((j : Int) + 1).toNat = j + 1 := by omega
        rw [e2]
        simp only [Int.toNat_natCast, Nat.add_zero, List.length_singleton, List.take_succ_cons, List.drop_succ_cons]
def nums (l : List UInt8) : List Int := l.map (fun b => (b.toNat : Int))
theorem spU_nums (c : UInt8) : ∀ l, (spU c l).map nums = sp (c.toNat : Int) (nums l)
  | [] => rfl
  | b :: l => by
    have ih := spU_nums c l
    have e : nums (b :: l) = (b.toNat : Int) :: nums l := rfl
    rw [e, spU, sp]
    by_cases h : b = c
    · subst h
      rw [if_pos rfl, if_pos rfl, List.map_cons, ih]
      rfl
    · have h2 : ¬ ((b.toNat : Int) = (c.toNat : Int)) := fun q => h (UInt8.toNat_inj.1 (by omega))
      rw [if_neg h, if_neg h2, ← ih]
      have hne := spU_ne c l
      cases hz : spU c l with
      | nil => exact absurd hz hne
      | cons x xs => rfl
theorem bytes_nums (s : ByteArray) : bytesOf s = nums s.data.toList := by
  have h := strOfNums_bytesOf s
  have hr := bytes_range s
  have e := strOfNums_dat (bytesOf s)
  rw [h] at e
  unfold nums
  rw [e, List.map_map]
  have e2 : (bytesOf s).map ((fun b : UInt8 => ((b.toNat : Nat) : Int)) ∘ fun n : Int => UInt8.ofNat n.toNat) = (bytesOf s).map id := List.map_congr_left (fun n hn => by
    have := hr n hn
    simp only [Function.comp, UInt8.toNat_ofNat', id]
    omega)
  rw [e2, List.map_id]
theorem split_sp (c : UInt8) (s : ByteArray) : (Lib.splitB ⟨#[c]⟩ 0 (Lib.countB s ⟨#[c]⟩) s).map bytesOf = sp (c.toNat : Int) (bytesOf s) := by
  have h := Lib.splitB_data ⟨#[c]⟩ 0 (Lib.countB s ⟨#[c]⟩) s
  have e : (Lib.splitB ⟨#[c]⟩ 0 (Lib.countB s ⟨#[c]⟩) s).map bytesOf = ((Lib.splitB ⟨#[c]⟩ 0 (Lib.countB s ⟨#[c]⟩) s).map (·.data.toList)).map nums := by
    rw [List.map_map]
    apply List.map_congr_left
    intro x _
    exact bytes_nums x
  rw [e, h, bytes_nums s, ← spU_nums, ← splitK_sp]
theorem list_inj : ∀ (a b : List ByteArray), a.map bytesOf = b.map bytesOf → a = b
  | [], [], _ => rfl
  | [], _ :: _, h => by cases h
  | _ :: _, [], h => by cases h
  | x :: a, y :: b, h => by
    rw [List.map_cons, List.map_cons] at h
    obtain ⟨h1, h2⟩ := List.cons.inj h
    rw [bytes_inj h1, list_inj a b h2]
theorem ext_step {s : ByteArray} {a i : Nat} (ha : a ≤ i) (hi : i < s.size) : bytesOf (s.extract a (i + 1)) = bytesOf (s.extract a i) ++ [bt s i] := by
  rw [bytesOf_extract, bytesOf_extract]
  have hd := bytes_drop hi
  have hg : (bytesOf s)[i]? = some (bt s i) := by
    have := congrArg (fun l => l[0]?) hd
    simpa using this
  rw [List.take_add_one, hg, List.drop_append_of_le_length (by rw [List.length_take, bytesOf_length]; omega)]
  rfl
theorem ext_none (s : ByteArray) (a : Nat) : bytesOf (s.extract a a) = [] := by
  rw [bytesOf_extract]
  exact List.drop_eq_nil_of_le (by rw [List.length_take]; omega)
/-- The lines, as the document scans them. -/
def lin (cur : List Int) : List Int → List (List Int)
  | [] => if cur = [] then [] else [cur]
  | b :: l => if b = 10 then cur :: lin [] l else lin (cur ++ [b]) l
theorem refLines_l (s : ByteArray) (hs : s.size ≤ 50000) : ∀ (m k a i : Nat) (acc : List ByteArray), i + m = s.size → a ≤ i → acc.length ≤ i → m < k →
    ∃ Y, watershedref08_Lines.l0 k s acc (a : Int) (i : Int) = some Y ∧ Y.map bytesOf = acc.map bytesOf ++ lin (bytesOf (s.extract a i)) ((bytesOf s).drop i)
  | 0, k, a, i, acc, hm, ha, hl, hk => by
    obtain ⟨k, rfl⟩ : ∃ q, k = q + 1 := ⟨k - 1, by omega⟩
    rw [watershedref08_Lines.l0, if_neg (by omega), bytes_end (by omega), lin]
    have hz : (bytesOf (s.extract a i)).length = i - a := by rw [bytesOf_length, ByteArray.size_extract]; omega
    by_cases c : (a : Int) < (s.size : Int)
    · rw [if_pos c, if_pos (by omega), if_pos (by omega), if_pos (by omega)]
      refine ⟨_, rfl, ?_⟩
      rw [if_neg (fun q => by rw [q] at hz; simp at hz; omega), List.map_append]
      rw [show i = s.size from by omega]
      simp
    · rw [if_neg c]
      refine ⟨_, rfl, ?_⟩
      rw [if_pos (List.length_eq_zero_iff.1 (by omega)), List.append_nil]
  | m + 1, k, a, i, acc, hm, ha, hl, hk => by
    obtain ⟨k, rfl⟩ : ∃ q, k = q + 1 := ⟨k - 1, by omega⟩
    rw [watershedref08_Lines.l0, if_pos (by omega), if_pos (by omega), bytes_drop (by omega), lin]
    have ew : wrap64 ((i : Int) + 1) = ((i + 1 : Nat) : Int) := by rw [w64 (by omega) (by omega)]; omega
    by_cases c : bt s i = 10
    · rw [if_pos c, if_pos c, if_pos (by omega), if_pos (by omega), if_pos (by omega), if_pos (by omega), ew]
      obtain ⟨Y, h1, h2⟩ := refLines_l s hs m k (i + 1) (i + 1) (acc ++ [s.extract (a : Int).toNat (i : Int).toNat]) (by omega) (by omega) (by simp; omega) (by omega)
      refine ⟨Y, h1, ?_⟩
      rw [h2, ext_none, List.map_append, List.append_assoc]
      simp
    · rw [if_neg c, if_neg c, ew]
      obtain ⟨Y, h1, h2⟩ := refLines_l s hs m k a (i + 1) acc (by omega) (by omega) (by omega) (by omega)
      refine ⟨Y, h1, ?_⟩
      rw [h2, ext_step ha (by omega)]
theorem refLines_f (s : ByteArray) (hs : s.size ≤ 50000) (k : Nat) (hk : 50000 < k) : ∃ Y, watershedref08_Lines.f k s = some Y ∧ Y.map bytesOf = lin [] (bytesOf s) := by
  obtain ⟨Y, h1, h2⟩ := refLines_l s hs s.size k 0 0 [] (by omega) (by omega) (by simp) (by omega)
  refine ⟨Y, h1, ?_⟩
  rw [h2, ext_none]
  rfl
theorem sp_snoc (c : Int) : ∀ l, sp c (l ++ [c]) = sp c l ++ [[]]
  | [] => by simp [sp]
  | b :: l => by
    have ih := sp_snoc c l
    rw [List.cons_append, sp, sp, ih]
    by_cases h : b = c
    · rw [if_pos h, if_pos h]; rfl
    · rw [if_neg h, if_neg h]
      cases hz : sp c l with
      | nil => exact absurd hz (sp_ne c l)
      | cons x xs => rfl
/-- The lines without the last one where it is empty. -/
def cutE : List (List Int) → List (List Int)
  | [] => []
  | [x] => if x = [] then [] else [x]
  | x :: y :: t => x :: cutE (y :: t)
def pre (cur : List Int) : List (List Int) → List (List Int)
  | [] => [cur]
  | h :: t => (cur ++ h) :: t
theorem cutE_cons (x : List Int) (t : List (List Int)) (h : t ≠ []) : cutE (x :: t) = x :: cutE t := by
  cases t with
  | nil => exact absurd rfl h
  | cons y t => rfl
theorem lin_sp : ∀ (l cur : List Int), lin cur l = cutE (pre cur (sp 10 l))
  | [], cur => by simp [lin, sp, pre, cutE]
  | b :: l, cur => by
    rw [lin, sp]
    by_cases h : b = 10
    · rw [if_pos h, if_pos h, lin_sp l []]
      have hne := sp_ne 10 l
      cases hz : sp 10 l with
      | nil => exact absurd hz hne
      | cons x xs => simp [pre, cutE]
    · rw [if_neg h, if_neg h, lin_sp l (cur ++ [b])]
      have hne := sp_ne 10 l
      cases hz : sp 10 l with
      | nil => exact absurd hz hne
      | cons x xs => simp [pre]
theorem cutE_snoc : ∀ xs : List (List Int), cutE (xs ++ [[]]) = xs
  | [] => by simp [cutE]
  | x :: xs => by
    rw [List.cons_append, cutE_cons _ _ (by simp), cutE_snoc xs]
theorem sp_last (c b : Int) (h : b ≠ c) : ∀ l, ∃ ys y, sp c (l ++ [b]) = ys ++ [y ++ [b]] ∧ sp c l = ys ++ [y]
  | [] => ⟨[], [], by simp [sp, h], by simp [sp]⟩
  | a :: l => by
    obtain ⟨ys, y, e1, e2⟩ := sp_last c b h l
    rw [List.cons_append, sp, sp, e1, e2]
    by_cases q : a = c
    · rw [if_pos q, if_pos q]
      exact ⟨[] :: ys, y, rfl, rfl⟩
    · rw [if_neg q, if_neg q]
      cases ys with
      | nil => exact ⟨[], a :: y, rfl, rfl⟩
      | cons z ys => exact ⟨(a :: z) :: ys, y, rfl, rfl⟩
theorem cutE_last (ys : List (List Int)) (y : List Int) (h : y ≠ []) : cutE (ys ++ [y]) = ys ++ [y] := by
  induction ys with
  | nil => simp [cutE, h]
  | cons x xs ih => rw [List.cons_append, cutE_cons _ _ (by simp), ih]
theorem beq_bytes (a b : ByteArray) : (a.toList == b.toList) = decide (bytesOf a = bytesOf b) := by
  by_cases h : bytesOf a = bytesOf b
  · rw [decide_eq_true h, beq_iff_eq.2 (toList_bytes.2 h)]
  · rw [decide_eq_false h, beq_eq_false_iff_ne.2 (fun q => h (toList_bytes.1 q))]
theorem Trim_f (s : ByteArray) (hs : s.size ≤ 50000) : ∃ r, strings_TrimSuffix.f s ⟨#[10]⟩ = some r ∧ r.size ≤ s.size ∧ (bytesOf r ++ [10] = bytesOf s ∨ (r = s ∧ ∀ l, bytesOf s ≠ l ++ [10])) := by
  unfold strings_TrimSuffix.f stringslite_TrimSuffix.f stringslite_HasSuffix.f
  have z1 : (⟨#[10]⟩ : ByteArray).size = 1 := rfl
  have b1 : bytesOf (⟨#[10]⟩ : ByteArray) = [10] := rfl
  rw [z1]
  by_cases h : (s.size : Int) ≥ ((1 : Nat) : Int)
  · have ew : wrap64 ((s.size : Int) - ((1 : Nat) : Int)) = ((s.size - 1 : Nat) : Int) := by rw [w64 (by omega) (by omega)]; omega
    rw [if_pos h, ew, if_pos (by omega), if_pos (by omega), beq_bytes, b1]
    simp only [Option.bind_some, Int.toNat_natCast]
    have e1 : bytesOf (s.extract (s.size - 1) s.size) = [bt s ((s.size - 1 : Nat) : Int)] := by
      have := ext_step (s := s) (a := s.size - 1) (i := s.size - 1) (Nat.le_refl _) (by omega)
      rw [ext_none] at this
      rw [show s.size - 1 + 1 = s.size from by omega] at this
      exact this
    have e2 : bytesOf s = bytesOf (s.extract 0 (s.size - 1)) ++ [bt s ((s.size - 1 : Nat) : Int)] := by
      have := ext_step (s := s) (a := 0) (i := s.size - 1) (by omega) (by omega)
      rw [show s.size - 1 + 1 = s.size from by omega] at this
      rw [← this, bytesOf_extract, List.drop_zero, List.take_of_length_le (by rw [bytesOf_length]; omega)]
    simp only [e1]
    by_cases c : bt s ((s.size - 1 : Nat) : Int) = 10
    · rw [decide_eq_true (by rw [c]), if_pos rfl, if_pos (by omega), if_pos (by omega)]
      refine ⟨_, rfl, by rw [ByteArray.size_extract]; omega, .inl ?_⟩
      rw [e2, c]
    · rw [decide_eq_false (fun q => c (List.cons.inj q).1), if_neg (by decide)]
      refine ⟨_, rfl, Nat.le_refl _, .inr ⟨rfl, fun l q => c ?_⟩⟩
      rw [e2] at q
      have := List.append_inj_right' q rfl
      exact (List.cons.inj this).1
  · rw [if_neg h]
    refine ⟨_, rfl, Nat.le_refl _, .inr ⟨rfl, fun l q => ?_⟩⟩
    have := congrArg List.length q
    rw [bytesOf_length] at this
    simp at this
    omega
theorem Lines_f (s : ByteArray) (hs : s.size ≤ 50000) : ∃ X, words_Lines.f s = some X ∧ X.map bytesOf = lin [] (bytesOf s) := by
  unfold words_Lines.f
  by_cases h : s.toList = ([] : List UInt8)
  · rw [if_pos h, toList_nil.1 h]
    exact ⟨_, rfl, rfl⟩
  · have hb : bytesOf s ≠ [] := fun q => h (toList_nil.2 q)
    rw [if_neg h]
    obtain ⟨r, h1, hz, h2⟩ := Trim_f s hs
    rw [h1]
    simp only [Option.bind_some, strings_Split.f]
    rw [if_pos ⟨by omega, by decide⟩, lin_sp]
    refine ⟨_, rfl, ?_⟩
    rw [split_sp]
    have e0 : ∀ l, pre [] (sp 10 l) = sp 10 l := fun l => by
      cases hz : sp 10 l with
      | nil => exact absurd hz (sp_ne 10 l)
      | cons x xs => rfl
    rw [e0]
    have et : (((10 : UInt8).toNat : Nat) : Int) = 10 := rfl
    rw [et]
    rcases h2 with h2 | ⟨rfl, h2⟩
    · rw [← h2, sp_snoc, cutE_snoc]
    · obtain ⟨l, b, e⟩ : ∃ l b, bytesOf r = l ++ [b] := ⟨(bytesOf r).dropLast, (bytesOf r).getLast hb, (List.dropLast_concat_getLast hb).symm⟩
      have hb10 : b ≠ 10 := fun q => h2 l (by rw [e, q])
      obtain ⟨ys, y, e1, _⟩ := sp_last 10 b hb10 l
      rw [e, e1, cutE_last _ _ (by simp)]
/-! Words of a line. -/
def wsp : List (List Int) → List (List Int)
  | [] => []
  | w :: t => if w.head? = some 35 then [] else if w = [] then wsp t else w :: wsp t
theorem HasPre_f (x : ByteArray) : strings_HasPrefix.f x ⟨#[35]⟩ = some (decide ((bytesOf x).head? = some 35)) := by
  unfold strings_HasPrefix.f stringslite_HasPrefix.f
  have z1 : (⟨#[35]⟩ : ByteArray).size = 1 := rfl
  have b1 : bytesOf (⟨#[35]⟩ : ByteArray) = [35] := rfl
  rw [z1]
  have hl := bytesOf_length x
  by_cases h : (x.size : Int) ≥ ((1 : Nat) : Int)
  · rw [if_pos h, if_pos (by omega), if_pos (by omega), beq_bytes, b1, bytesOf_extract]
    simp only [Option.bind_some, Int.toNat_natCast, List.drop_zero]
    cases hb : bytesOf x with
    | nil => rw [hb] at hl; simp at hl; omega
    | cons c t => simp
  · rw [if_neg h]
    have : bytesOf x = [] := List.length_eq_zero_iff.1 (by omega)
    rw [this]
    rfl
theorem Split_l (ws : List ByteArray) (hw : ws.length ≤ 100000) : ∀ (m k i : Nat) (acc : List ByteArray), i + m = ws.length → acc.length ≤ i → m < k →
    ∃ Y, words_Split.l0 k acc ws (ws.length : Int) (i : Int) = some Y ∧ Y.map bytesOf = acc.map bytesOf ++ wsp ((ws.drop i).map bytesOf)
  | 0, k, i, acc, hm, hl, hk => by
    obtain ⟨k, rfl⟩ : ∃ q, k = q + 1 := ⟨k - 1, by omega⟩
    rw [words_Split.l0, if_neg (by omega), List.drop_eq_nil_of_le (by omega)]
    exact ⟨_, rfl, by simp [wsp]⟩
  | m + 1, k, i, acc, hm, hl, hk => by
    obtain ⟨k, rfl⟩ : ∃ q, k = q + 1 := ⟨k - 1, by omega⟩
    have ew : wrap64 ((i : Int) + 1) = ((i + 1 : Nat) : Int) := by rw [w64 (by omega) (by omega)]; omega
    have hd : ws.drop i = rdOf ByteArray.empty ws (i : Int) :: ws.drop (i + 1) := by
      rw [List.drop_eq_getElem_cons (by omega)]
      unfold rdOf
      simp [List.getD_eq_getElem?_getD, List.getElem?_eq_getElem (show i < ws.length from by omega)]
    rw [words_Split.l0, if_pos (by omega), if_pos (by omega), if_pos (by omega), HasPre_f, Option.bind_some, hd, List.map_cons, wsp]
    by_cases c : (bytesOf (rdOf ByteArray.empty ws (i : Int))).head? = some 35
    · rw [if_pos c, decide_eq_true c, if_pos rfl]
      exact ⟨_, rfl, by simp⟩
    · rw [if_neg c, decide_eq_false c, if_neg (by decide)]
      by_cases c2 : bytesOf (rdOf ByteArray.empty ws (i : Int)) = []
      · rw [if_pos c2, if_pos (toList_nil.2 c2), ew]
        exact Split_l ws hw m k (i + 1) acc (by omega) (by omega) (by omega)
      · rw [if_neg c2, if_neg (fun q => c2 (toList_nil.1 q)), if_pos (by omega), ew]
        obtain ⟨Y, h1, h2⟩ := Split_l ws hw m k (i + 1) (acc ++ [rdOf ByteArray.empty ws (i : Int)]) (by omega) (by simp; omega) (by omega)
        exact ⟨Y, h1, by rw [h2]; simp⟩
theorem Split_f (s : ByteArray) (hs : s.size ≤ 50000) (k : Nat) (hk : 50002 ≤ k) : ∃ X, words_Split.f k s = some X ∧ X.map bytesOf = wsp (sp 32 (bytesOf s)) := by
  unfold words_Split.f strings_Split.f
  rw [if_pos ⟨by omega, by decide⟩, Option.bind_some]
  have hl := Lib.splitB_all ⟨#[32]⟩ (by decide) 0 _ s rfl
  have hle := Lib.countB_le ⟨#[32]⟩ (by decide) s.size s (Nat.le_refl _)
  obtain ⟨Y, h1, h2⟩ := Split_l (Lib.splitB ⟨#[32]⟩ 0 (Lib.countB s ⟨#[32]⟩) s) (by omega) (Lib.splitB ⟨#[32]⟩ 0 (Lib.countB s ⟨#[32]⟩) s).length k 0 [] (by omega) (by simp) (by omega)
  refine ⟨Y, h1, ?_⟩
  rw [h2, List.drop_zero, split_sp]
  rfl
def rsp (cur : List Int) : List Int → List (List Int)
  | [] => if cur = [] then [] else [cur]
  | b :: l => if b = 32 then (if cur = [] then rsp [] l else cur :: rsp [] l) else if cur = [] ∧ b = 35 then [] else rsp (cur ++ [b]) l
theorem rsp_wsp : ∀ (l cur : List Int), cur.head? ≠ some 35 → rsp cur l = wsp (pre cur (sp 32 l))
  | [], cur, hc => by
    by_cases h : cur = []
    · subst h; rfl
    · simp [rsp, h, sp, pre, wsp, hc]
  | b :: l, cur, hc => by
    rw [rsp, sp]
    have hne := sp_ne 32 l
    by_cases h : b = 32
    · have ih := rsp_wsp l [] (by simp)
      rw [if_pos h, if_pos h, ih]
      cases hz : sp 32 l with
      | nil => exact absurd hz hne
      | cons x xs =>
        by_cases h2 : cur = []
        · subst h2; simp [pre, wsp]
        · simp [pre, wsp, h2, hc]
    · rw [if_neg h, if_neg h]
      by_cases h2 : cur = [] ∧ b = 35
      · obtain ⟨rfl, rfl⟩ := h2
        rw [if_pos ⟨rfl, rfl⟩]
        cases hz : sp 32 l with
        | nil => exact absurd hz hne
        | cons x xs => simp [pre, wsp]
      · rw [if_neg h2]
        have ih := rsp_wsp l (cur ++ [b]) (by
          cases cur with
          | nil => simpa using h2
          | cons y ys => simpa using hc)
        rw [ih]
        cases hz : sp 32 l with
        | nil => exact absurd hz hne
        | cons x xs => simp [pre]
theorem refSplit_end (s : ByteArray) (hs : s.size ≤ 50000) (k : Nat) (acc : List ByteArray) (cur : ByteArray) : watershedref08_Split.l0 (k + 1) s acc cur (wrap64 ((s.size : Int) + 1)) = some acc := by
  rw [watershedref08_Split.l0, if_neg (by rw [w64 (by omega) (by omega)]; omega)]
theorem refSplit_l (s : ByteArray) (hs : s.size ≤ 50000) : ∀ (m k i : Nat) (acc : List ByteArray) (cur : ByteArray), i + m = s.size → acc.length ≤ i → cur.size ≤ i → 3 * m + 5 ≤ k →
    ∃ Y, watershedref08_Split.l0 k s acc cur (i : Int) = some Y ∧ Y.map bytesOf = acc.map bytesOf ++ rsp (bytesOf cur) ((bytesOf s).drop i)
  | 0, k, i, acc, cur, hm, hl, hc, hk => by
    obtain ⟨k, rfl⟩ : ∃ q, k = q + 3 := ⟨k - 3, by omega⟩
    obtain rfl : i = s.size := by omega
    rw [watershedref08_Split.l0, if_pos (by omega), if_neg (by omega), watershedref08_Split.j1, if_neg (by decide), bytes_end (Nat.le_refl _), rsp]
    by_cases c : bytesOf cur = []
    · rw [if_pos (toList_nil.2 c), if_pos c, refSplit_end s hs]
      exact ⟨_, rfl, by simp⟩
    · rw [if_neg (fun q => c (toList_nil.1 q)), if_neg c, if_pos (by omega), refSplit_end s hs]
      exact ⟨_, rfl, by simp⟩
  | m + 1, k, i, acc, cur, hm, hl, hc, hk => by
    obtain ⟨k, rfl⟩ : ∃ q, k = q + 3 := ⟨k - 3, by omega⟩
    have ew : wrap64 ((i : Int) + 1) = ((i + 1 : Nat) : Int) := by rw [w64 (by omega) (by omega)]; omega
    have e1 : bytesOf (s.extract i (i + 1)) = [bt s i] := by
      have := ext_step (s := s) (a := i) (i := i) (Nat.le_refl _) (by omega)
      rw [ext_none] at this
      exact this
    have z1 : (s.extract i (i + 1)).size = 1 := by rw [ByteArray.size_extract]; omega
    rw [watershedref08_Split.l0, if_pos (by omega), if_pos (by omega), if_pos (by omega), watershedref08_Split.j1, bytes_drop (by omega), rsp]
    by_cases c : bt s i = 32
    · rw [if_neg (by simp [c]), if_pos c]
      by_cases c2 : bytesOf cur = []
      · rw [if_pos (toList_nil.2 c2), if_pos c2, ew]
        obtain ⟨Y, h1, h2⟩ := refSplit_l s hs m (k + 1) (i + 1) acc ⟨#[]⟩ (by omega) (by omega) (Nat.zero_le _) (by omega)
        exact ⟨Y, h1, h2⟩
      · rw [if_neg (fun q => c2 (toList_nil.1 q)), if_neg c2, if_pos (by omega), ew]
        obtain ⟨Y, h1, h2⟩ := refSplit_l s hs m (k + 1) (i + 1) (acc ++ [cur]) ⟨#[]⟩ (by omega) (by simp; omega) (Nat.zero_le _) (by omega)
        refine ⟨Y, h1, ?_⟩
        rw [h2, List.map_append, List.append_assoc]
        rfl
    · have e2 : watershedref08_Split.j2 (k + 1) s acc cur (i : Int) false = watershedref08_Split.l0 k s acc (cur ++ s.extract i (i + 1)) ((i + 1 : Nat) : Int) := by
        rw [watershedref08_Split.j2, if_neg (by decide), ew, if_pos (by omega), if_pos (by omega), if_pos (by omega)]
        simp only [Int.toNat_natCast]
        rw [if_pos (by omega)]
      have go : ∃ Y, watershedref08_Split.l0 k s acc (cur ++ s.extract i (i + 1)) ((i + 1 : Nat) : Int) = some Y ∧ Y.map bytesOf = acc.map bytesOf ++ rsp (bytesOf cur ++ [bt s i]) ((bytesOf s).drop (i + 1)) := by
        obtain ⟨Y, h1, h2⟩ := refSplit_l s hs m k (i + 1) acc (cur ++ s.extract i (i + 1)) (by omega) (by omega) (by rw [ByteArray.size_append]; omega) (by omega)
        exact ⟨Y, h1, by rw [h2, bytesOf_append, e1]⟩
      rw [if_pos (by simp [c]), if_neg c]
      by_cases c2 : bytesOf cur = []
      · rw [if_pos (toList_nil.2 c2), if_pos (by omega), if_pos (by omega)]
        by_cases c3 : bt s i = 35
        · rw [if_pos ⟨c2, c3⟩, c3, watershedref08_Split.j2, if_pos (by rfl)]
          exact ⟨_, rfl, by simp⟩
        · rw [if_neg (fun q => c3 q.2), beq_eq_false_iff_ne.2 c3, e2]
          exact go
      · rw [if_neg (fun q => c2 (toList_nil.1 q)), if_neg (fun q => c2 q.1), e2]
        exact go
theorem refSplit_f (s : ByteArray) (hs : s.size ≤ 50000) (k : Nat) (hk : 150010 ≤ k) : ∃ Y, watershedref08_Split.f k s = some Y ∧ Y.map bytesOf = wsp (sp 32 (bytesOf s)) := by
  obtain ⟨Y, h1, h2⟩ := refSplit_l s hs s.size k 0 [] ⟨#[]⟩ (by omega) (by simp) (Nat.le_refl _) (by omega)
  refine ⟨Y, h1, ?_⟩
  rw [h2, List.drop_zero]
  have e := rsp_wsp (bytesOf s) [] (by simp)
  have e0 : pre [] (sp 32 (bytesOf s)) = sp 32 (bytesOf s) := by
    cases hz : sp 32 (bytesOf s) with
    | nil => exact absurd hz (sp_ne 32 _)
    | cons x xs => rfl
  rw [e0] at e
  exact e
theorem Same_l (l : List ByteArray) (hl : l.length ≤ 100000) : ∀ (m k i : Nat), i + m = l.length → m < k → watershedref08_Same.l0 k l l (i : Int) = some true
  | 0, k, i, hm, hk => by
    obtain ⟨k, rfl⟩ : ∃ q, k = q + 1 := ⟨k - 1, by omega⟩
    rw [watershedref08_Same.l0, if_neg (by omega)]
  | m + 1, k, i, hm, hk => by
    obtain ⟨k, rfl⟩ : ∃ q, k = q + 1 := ⟨k - 1, by omega⟩
    have ew : wrap64 ((i : Int) + 1) = ((i + 1 : Nat) : Int) := by rw [w64 (by omega) (by omega)]; omega
    rw [watershedref08_Same.l0, if_pos (by omega), if_pos (by omega), if_pos (by omega), if_pos rfl, ew]
    exact Same_l l hl m k (i + 1) (by omega) (by omega)
theorem Same_f (l : List ByteArray) (hl : l.length ≤ 100000) (k : Nat) (hk : 100000 < k) : watershedref08_Same.f k l l = some true := by
  unfold watershedref08_Same.f
  rw [if_pos rfl]
  exact Same_l l hl l.length k 0 (by omega) (by omega)
/-! Names. -/
theorem Name_l (s : ByteArray) (hs : s.size ≤ 50000) : ∀ (m k i : Nat), i + m = s.size → m < k → watershedref08_Name.l0 k s (i : Int) = some (((bytesOf s).drop i).all (fun c => letB c || digB c))
  | 0, k, i, hm, hk => by
    obtain ⟨k, rfl⟩ : ∃ q, k = q + 1 := ⟨k - 1, by omega⟩
    rw [watershedref08_Name.l0, if_neg (by omega), bytes_end (by omega)]
    rfl
  | m + 1, k, i, hm, hk => by
    obtain ⟨k, rfl⟩ : ∃ q, k = q + 1 := ⟨k - 1, by omega⟩
    have ew : wrap64 ((i : Int) + 1) = ((i + 1 : Nat) : Int) := by rw [w64 (by omega) (by omega)]; omega
    have ih := Name_l s hs m k (i + 1) (by omega) (by omega)
    rw [watershedref08_Name.l0, if_pos (by omega), if_pos (by omega), ew, ih, bytes_drop (s := s) (k := i) (by omega), List.all_cons]
    generalize bt s (i : Int) = c
    unfold letB digB
    by_cases h1 : c ≥ 97
    · by_cases h2 : c ≤ 122
      · rw [if_pos h1, if_pos h2, decide_eq_true (show 97 ≤ c from h1), decide_eq_true h2]; rfl
      · rw [if_pos h1, if_neg h2, if_pos (by omega), if_neg (by omega), decide_eq_false h2, decide_eq_false (show ¬ c ≤ 57 from by omega)]; simp
    · rw [if_neg h1, decide_eq_false (show ¬ 97 ≤ c from h1)]
      by_cases h3 : c ≥ 48
      · by_cases h4 : c ≤ 57
        · rw [if_pos h3, if_pos h4, decide_eq_true (show 48 ≤ c from h3), decide_eq_true h4]; rfl
        · rw [if_pos h3, if_neg h4, decide_eq_false h4]; simp
      · rw [if_neg h3, decide_eq_false (show ¬ 48 ≤ c from h3)]; simp
theorem refName_f (s : ByteArray) (hs : s.size ≤ 50000) (k : Nat) (hk : 50002 ≤ k) : watershedref08_Name.f k s = some (nameB s) := by
  obtain ⟨k, rfl⟩ : ∃ q, k = q + 1 := ⟨k - 1, by omega⟩
  unfold watershedref08_Name.f nameB
  have e : ∀ b, watershedref08_Name.j0 (k + 1) s b = if b = true then some false else watershedref08_Name.l0 k s 0 := fun b => rfl
  have ih := Name_l s hs s.size k 0 (by omega) (by omega)
  rw [List.drop_zero] at ih
  simp only [e]
  by_cases h0 : (s.size : Int) < 1
  · rw [if_pos h0, if_pos trivial, decide_eq_true (show s.size = 0 from by omega)]; rfl
  · rw [if_neg h0, decide_eq_false (show ¬ s.size = 0 from by omega)]
    by_cases h1 : (s.size : Int) > 12
    · rw [if_pos h1, if_pos trivial, decide_eq_true (show 12 < s.size from by omega)]; simp
    · rw [if_neg h1, decide_eq_false (show ¬ 12 < s.size from by omega), if_pos (by omega)]
      unfold letB
      by_cases h2 : bt s 0 < 97
      · rw [if_pos h2, if_pos trivial, decide_eq_false (show ¬ 97 ≤ bt s 0 from by omega)]; simp
      · rw [if_neg h2, decide_eq_true (show 97 ≤ bt s 0 from by omega)]
        by_cases h3 : bt s 0 > 122
        · rw [decide_eq_true h3, if_pos rfl, decide_eq_false (show ¬ bt s 0 ≤ 122 from by omega)]; simp
        · rw [decide_eq_false h3, if_neg (by decide), decide_eq_true (show bt s 0 ≤ 122 from by omega)]
          have e0 : ((0 : Nat) : Int) = 0 := rfl
          rw [e0] at ih
          rw [ih]
          simp [letB, digB]
theorem lin_len : ∀ (l cur : List Int), (lin cur l).length ≤ l.length + 1
  | [], cur => by rw [lin]; split <;> simp
  | b :: l, cur => by
    rw [lin]
    split
    · have := lin_len l []; simp; omega
    · have := lin_len l (cur ++ [b]); simp; omega
theorem rsp_len : ∀ (l cur : List Int), (rsp cur l).length ≤ l.length + 1
  | [], cur => by rw [rsp]; split <;> simp
  | b :: l, cur => by
    rw [rsp]
    have h1 := rsp_len l []
    have h2 := rsp_len l (cur ++ [b])
    repeat' split
    all_goals (simp; try omega)
theorem WordsCut_pure (s : ByteArray) : watershedlaw08_WordsCut.f 200000 s = some true := by
  unfold watershedlaw08_WordsCut.f
  by_cases h : (s.size : Int) > 5000
  · rw [if_pos h]
  · rw [if_neg h]
    have hs : s.size ≤ 50000 := by omega
    obtain ⟨X, x1, x2⟩ := Lines_f s hs
    obtain ⟨Y, y1, y2⟩ := refLines_f s hs 200000 (by omega)
    obtain ⟨U, u1, u2⟩ := Split_f s hs 200000 (by omega)
    obtain ⟨V, v1, v2⟩ := refSplit_f s hs 200000 (by omega)
    obtain rfl : X = Y := list_inj X Y (by rw [x2, y2])
    obtain rfl : U = V := list_inj U V (by rw [u2, v2])
    have lx : X.length ≤ 100000 := by
      have := congrArg List.length x2
      rw [List.length_map] at this
      have h2 := lin_len (bytesOf s) []
      rw [bytesOf_length] at h2
      omega
    have lu : U.length ≤ 100000 := by
      have e := rsp_wsp (bytesOf s) [] (by simp)
      have e0 : pre [] (sp 32 (bytesOf s)) = sp 32 (bytesOf s) := by
        cases hz : sp 32 (bytesOf s) with
        | nil => exact absurd hz (sp_ne 32 _)
        | cons x xs => rfl
      rw [e0] at e
      have := congrArg List.length u2
      rw [List.length_map, ← e] at this
      have h2 := rsp_len (bytesOf s) []
      rw [bytesOf_length] at h2
      omega
    rw [x1, y1, u1, v1, refName_f s hs 200000 (by omega)]
    simp only [Option.bind_some, Same_f X lx 200000 (by omega), Same_f U lu 200000 (by omega), words_Name.f, if_true, beq_self_eq_true]
end Go.Proofs.YtmpgknemhmoboaaDoor.P08c
