import Derived.Test.YtjkbgcdhhiakmaaDoorQ04Tx
import Derived.Test.YtjkbgcdhhiakmaaDoorPX04t
/- Plain: the law StampTexts. -/
namespace Go.Proofs.YtjkbgcdhhiakmaaDoor.P04T
set_option linter.unusedSimpArgs false
open Go.RowKit Go.Proofs.YtjkbgcdhhiakmaaDoorW.PrintWords Go.Proofs.YtjkbgcdhhiakmaaDoorW.PrintLast Go.Proofs.YtjkbgcdhhiakmaaDoorW.PrintMore Go.Proofs.YtjkbgcdhhiakmaaDoor.Q04T Go.Proofs.YtjkbgcdhhiakmaaDoor.Pl Go.Proofs.YtjkbgcdhhiakmaaDoor.Ext Go.Proofs.YtjkbgcdhhiakmaaDoor.P04y
open Go.Proofs.YtjkbgcdhhiakmaaDoor.P04 (chk chk_ok)
open Go.Proofs.YtjkbgcdhhiakmaaDoor.M08 (dig dig_props can_dig hv hv_dig hv_mono hv_cons hv_nil Dg Cano dig_length dig_hv dig_lt dig_ge)
theorem refCheck_f (e d a b c : Int) : ref_chk.f e d a b c = some (chk e d a b c) := rfl
theorem u64w (x : Int) (h : 0 ≤ x ∧ x < 18446744073709551616) : IntKind.u64.wrap x = x := by
  simp [IntKind.wrap, IntKind.bits, IntKind.signed]
  omega
theorem Digits_l : ∀ (j k : Nat) (x i : Int) (acc : ByteArray), 0 ≤ x → x < 10 ^ (j + 1) → x < 4294967296 → 0 ≤ i → i + j < 20 → (acc.size : Int) ≤ i → j < k →
    watershedref04_Digits.l0 k x acc i = some (strOfNums (dig x.toNat) ++ acc)
  | j, k, x, i, acc, h0, h1, h2, h3, h4, h5, h6 => by
    obtain ⟨k, rfl⟩ : ∃ q, k = q + 1 := ⟨k - 1, by omega⟩
    have et : Int.tmod x 10 = x % 10 := Int.tmod_eq_emod_of_nonneg h0
    have ed : Int.tdiv x 10 = x / 10 := Int.tdiv_eq_ediv_of_nonneg h0
    rw [watershedref04_Digits.l0, if_pos (by omega), et, ed]
    simp only [Option.bind_some]
    rw [u64w (48 + x % 10) (by omega), u64w (x / 10) (by omega), show (48 + x % 10) % 256 = 48 + x % 10 from by omega]
    have es : (strOfNums [48 + x % 10]).size = 1 := strOfNums_sz _
    rw [es, if_pos (by omega)]
    by_cases c : x / 10 = 0
    · rw [if_pos c, dig_lt (by omega), show ((x.toNat : Nat) : Int) = x from by omega, show x % 10 = x from by omega]
    · rw [if_neg c, dig_ge (by omega)]
      obtain ⟨j, rfl⟩ : ∃ q, j = q + 1 := ⟨j - 1, by
        have : j ≠ 0 := by
          rintro rfl
          have : (10 : Int) ^ (0 + 1) = 10 := by decide
          omega
        omega⟩
      have hp : (10 : Int) ^ (j + 1 + 1) = 10 ^ (j + 1) * 10 := Int.pow_succ ..
      rw [w64 (x := i + 1) (by omega) (by omega), Digits_l j k (x / 10) (i + 1) _ (by omega) (by omega) (by omega) (by omega) (by omega) (by rw [ByteArray.size_append, es]; omega) (by omega), strOfNums_append, ByteArray.append_assoc]
      rw [show (x / 10).toNat = x.toNat / 10 from by omega, show ((x.toNat % 10 : Nat) : Int) = x % 10 from by omega]
theorem Digits_f (k : Nat) (hk : 12 ≤ k) (x : Int) (h0 : 0 ≤ x) (h2 : x < 4294967296) : watershedref04_Digits.f k (IntKind.u64.wrap x) = some (dgs x) := by
  unfold watershedref04_Digits.f
  rw [u64w x (by omega), Digits_l 9 k x 0 _ h0 (by have : (10 : Int) ^ (9 + 1) = 10000000000 := by decide
                                                   omega) h2 (by omega) (by omega) (by decide) (by omega)]
  have e : strOfNums (dig x.toNat) ++ (⟨#[]⟩ : ByteArray) = dgs x := by apply bytes_inj; rw [bytesOf_append]; exact List.append_nil _
  rw [e]
theorem dots_one (x : ByteArray) : dots [x] = x := data_inj (Lib.join_one x.data.toList [46])
theorem dots_more (x y : ByteArray) (ys : List ByteArray) : dots (x :: y :: ys) = x ++ (⟨#[46]⟩ : ByteArray) ++ dots (y :: ys) := by
  apply data_inj
  have e : ∀ a b : ByteArray, (a ++ b).data.toList = a.data.toList ++ b.data.toList := fun a b => by simp [ByteArray.append]
  rw [e, e]
  have e1 : (dots (x :: y :: ys)).data.toList = Lib.join (x.data.toList :: y.data.toList :: ys.map (·.data.toList)) [46] := rfl
  have e2 : (dots (y :: ys)).data.toList = Lib.join (y.data.toList :: ys.map (·.data.toList)) [46] := rfl
  have e3 : (⟨#[46]⟩ : ByteArray).data.toList = [46] := rfl
  rw [e1, e2, e3]
  simp [Lib.join, List.intercalate]
theorem dsz (x : Int) (h : 0 ≤ x ∧ x < 4294967296) : (dgs x).size ≤ 10 := dgs_size x h
theorem refText_f (k : Nat) (hk : 20 ≤ k) (e d a b c : Int) (he : 0 ≤ e ∧ e < 4294967296) (ha : 0 ≤ a ∧ a < 4294967296) (hb : 0 ≤ b ∧ b < 4294967296) (hc : 0 ≤ c ∧ c < 4294967296) :
    watershedref04_Text.f k e d a b c = some (textF e d a b c) := by
  obtain ⟨k, rfl⟩ : ∃ q, k = q + 4 := ⟨k - 4, by omega⟩
  unfold watershedref04_Text.f textF
  rw [refCheck_f, Option.bind_some]
  by_cases h : chk e d a b c = 0
  · have kk := chk_ok h
    have s0 := dsz e he
    have s1 := dsz a ha
    have s2 := dsz b hb
    have s3 := dsz c hc
    have z : (⟨#[46]⟩ : ByteArray).size = 1 := rfl
    rw [if_pos h, if_neg (show ¬ chk e d a b c ≠ 0 from fun q => q h), Digits_f _ (by omega) e he.1 he.2, Option.bind_some]
    unfold wordsT
    obtain rfl | rfl | rfl | rfl : d = 0 ∨ d = 1 ∨ d = 2 ∨ d = 3 := by omega
    · rw [if_pos rfl, dots_one, watershedref04_Text.l0, if_neg (by omega)]
    · rw [if_neg (by omega), if_pos rfl, dots_more, dots_one, watershedref04_Text.l0, if_pos (by omega), if_pos (by omega), if_pos rfl, Digits_f _ (by omega) a ha.1 ha.2, Option.bind_some, if_pos (by rw [ByteArray.size_append]; omega), w64 (x := 0 + 1) (by omega) (by omega)]
      rw [watershedref04_Text.l0, if_neg (by omega)]
    · rw [if_neg (by omega), if_neg (by omega), if_pos rfl, dots_more, dots_more, dots_one, watershedref04_Text.l0, if_pos (by omega), if_pos (by omega), if_pos rfl, Digits_f _ (by omega) a ha.1 ha.2, Option.bind_some, if_pos (by rw [ByteArray.size_append]; omega), w64 (x := 0 + 1) (by omega) (by omega)]
      rw [watershedref04_Text.l0, if_pos (by omega), if_pos (by simp only [ByteArray.size_append]; omega), if_neg (by omega), if_pos (by omega), Digits_f _ (by omega) b hb.1 hb.2, Option.bind_some, if_pos (by simp only [ByteArray.size_append]; omega), w64 (x := 0 + 1 + 1) (by omega) (by omega)]
      rw [watershedref04_Text.l0, if_neg (by omega)]
      simp only [ByteArray.append_assoc]
    · rw [if_neg (by omega), if_neg (by omega), if_neg (by omega), dots_more, dots_more, dots_more, dots_one, watershedref04_Text.l0, if_pos (by omega), if_pos (by omega), if_pos rfl, Digits_f _ (by omega) a ha.1 ha.2, Option.bind_some, if_pos (by rw [ByteArray.size_append]; omega), w64 (x := 0 + 1) (by omega) (by omega)]
      rw [watershedref04_Text.l0, if_pos (by omega), if_pos (by simp only [ByteArray.size_append]; omega), if_neg (by omega), if_pos (by omega), Digits_f _ (by omega) b hb.1 hb.2, Option.bind_some, if_pos (by simp only [ByteArray.size_append]; omega), w64 (x := 0 + 1 + 1) (by omega) (by omega)]
      rw [watershedref04_Text.l0, if_pos (by omega), if_pos (by simp only [ByteArray.size_append]; omega), if_neg (by omega), if_neg (by omega), if_pos (by omega), Digits_f _ (by omega) c hc.1 hc.2, Option.bind_some, if_pos (by simp only [ByteArray.size_append]; omega), w64 (x := 0 + 1 + 1 + 1) (by omega) (by omega)]
      rw [watershedref04_Text.l0, if_neg (by omega)]
      simp only [ByteArray.append_assoc]
  · rw [if_neg h, if_pos h]
/-! The reference's reading. -/
abbrev N5 := Int × Int × Int × Int × Int
def get (i : Int) (n : N5) : Int := if i = 0 then n.1 else if i = 1 then n.2.1 else if i = 2 then n.2.2.1 else if i = 3 then n.2.2.2.1 else n.2.2.2.2
def put (i v : Int) (n : N5) : N5 := if i = 0 then (v, n.2) else if i = 1 then (n.1, v, n.2.2) else if i = 2 then (n.1, n.2.1, v, n.2.2.2) else if i = 3 then (n.1, n.2.1, n.2.2.1, v, n.2.2.2.2) else (n.1, n.2.1, n.2.2.1, n.2.2.2.1, v)
def upd (v c : Int) : Int := mn (IntKind.u64.wrap ((IntKind.u64.wrap (v * 10)) + ((c - 48) % 256))) 1073741824
def scan : List Int → Int → N5 → Option (Int × N5)
  | [], i, n => some (i, n)
  | c :: t, i, n => if c = 46 ∧ i < 4 then scan t (i + 1) n else if 48 ≤ c ∧ c ≤ 57 then scan t i (put i (upd (get i n) c) n) else none
abbrev R6 := Int × Int × Int × Int × Int × Int
def bad : R6 := (0, 0, 0, 0, 0, 6)
def fin (s : ByteArray) : Option (Int × N5) → R6
  | none => bad
  | some (i, n) => if i > 3 then bad else if (textF (n.1 % 4294967296) i (n.2.1 % 4294967296) (n.2.2.1 % 4294967296) (n.2.2.2.1 % 4294967296)).2 = 0 ∧ (textF (n.1 % 4294967296) i (n.2.1 % 4294967296) (n.2.2.1 % 4294967296) (n.2.2.2.1 % 4294967296)).1 = s then (n.1 % 4294967296, i, n.2.1 % 4294967296, n.2.2.1 % 4294967296, n.2.2.2.1 % 4294967296, 0) else bad
theorem end_f (k : Nat) (hk : 21 ≤ k) (s : ByteArray) (i x6 : Int) (n0 n1 n2 n3 n4 : Int) : watershedref04_Parse.j1 k s i x6 false n0 n1 n2 n3 n4 = some (fin s (some (i, n0, n1, n2, n3, n4))) := by
  obtain ⟨k, rfl⟩ : ∃ q, k = q + 1 := ⟨k - 1, by omega⟩
  rw [watershedref04_Parse.j1, if_neg (by decide)]
  simp only [fin]
  by_cases c : i > 3
  · rw [if_pos c, if_pos c]; rfl
  · rw [if_neg c, if_neg c, refText_f k (by omega) _ _ _ _ _ (by omega) (by omega) (by omega) (by omega), Option.bind_some]
    by_cases c1 : (textF (n0 % 4294967296) i (n1 % 4294967296) (n2 % 4294967296) (n3 % 4294967296)).2 = 0
    · rw [if_pos c1]
      by_cases c2 : (textF (n0 % 4294967296) i (n1 % 4294967296) (n2 % 4294967296) (n3 % 4294967296)).1 = s
      · rw [if_pos (by rw [c2]), if_pos ⟨c1, c2⟩]
      · rw [if_neg (fun q => c2 (str_inj q)), if_neg (fun q => c2 q.2)]; rfl
    · rw [if_neg c1, if_neg (fun q => c1 q.1)]; rfl
theorem loop_f (s : ByteArray) (hs : s.size ≤ 5000) : ∀ (m k : Nat) (i x : Int) (n : N5), 0 ≤ x → x + m = min (s.size : Int) 40 → 0 ≤ i → i ≤ 4 → 3 * m + 30 ≤ k →
    watershedref04_Parse.l0 k s i x n.1 n.2.1 n.2.2.1 n.2.2.2.1 n.2.2.2.2 = some (fin s (scan (((bytesOf s).take 40).drop x.toNat) i n))
  | 0, k, i, x, (n0, n1, n2, n3, n4), h0, hx, h1, h2, hk => by
    obtain ⟨k, rfl⟩ : ∃ q, k = q + 1 := ⟨k - 1, by omega⟩
    have e : ((bytesOf s).take 40).drop x.toNat = [] := List.drop_eq_nil_of_le (by rw [List.length_take, bytesOf_length]; omega)
    rw [e, scan, watershedref04_Parse.l0]
    by_cases c : x < (s.size : Int)
    · rw [if_pos c, decide_eq_false (by omega)]
      exact end_f k (by omega) s i x n0 n1 n2 n3 n4
    · rw [if_neg c]
      exact end_f k (by omega) s i x n0 n1 n2 n3 n4
  | m + 1, k, i, x, (n0, n1, n2, n3, n4), h0, hx, h1, h2, hk => by
    obtain ⟨k, rfl⟩ : ∃ q, k = q + 3 := ⟨k - 3, by omega⟩
    have hc : x < (s.size : Int) ∧ x < 40 := by omega
    have hb := bt_range s x
    have e : ((bytesOf s).take 40).drop x.toNat = bt s x :: ((bytesOf s).take 40).drop (x + 1).toNat := by
      have e1 := bytes_dropI (s := s) (i := x) h0 hc.1
      rw [List.drop_take, List.drop_take, e1]
      rw [show 40 - x.toNat = (40 - (x + 1).toNat) + 1 from by omega, List.take_succ_cons]
    have ih := fun i' n' hi hi' => loop_f s hs m k i' (x + 1) n' (by omega) (by omega) hi hi' (by omega)
    rw [e, scan, watershedref04_Parse.l0, if_pos hc.1, decide_eq_true hc.2, watershedref04_Parse.j1, if_pos rfl, if_pos h0, if_pos hc.1]
    have ex : wrap64 (x + 1) = x + 1 := w64 (by omega) (by omega)
    have ei : wrap64 (i + 1) = i + 1 := w64 (by omega) (by omega)
    by_cases c1 : bt s x = 46 ∧ i < 4
    · rw [if_pos c1, if_pos c1.1, decide_eq_true c1.2, watershedref04_Parse.j2, if_pos rfl, ex, ei]
      exact ih (i + 1) (n0, n1, n2, n3, n4) (by omega) (by omega)
    · have e2 : (if bt s x = 46 then watershedref04_Parse.j2 (k + 1) s i x (decide (i < 4)) n0 n1 n2 n3 n4 else watershedref04_Parse.j2 (k + 1) s i x false n0 n1 n2 n3 n4) = watershedref04_Parse.j2 (k + 1) s i x false n0 n1 n2 n3 n4 := by
        by_cases c2 : bt s x = 46
        · rw [if_pos c2, decide_eq_false (fun q => c1 ⟨c2, q⟩)]
        · rw [if_neg c2]
      rw [if_neg c1]
      refine e2.trans ?_
      rw [watershedref04_Parse.j2, if_neg (by decide), if_pos h0, if_pos hc.1]
      by_cases c3 : 48 ≤ bt s x ∧ bt s x ≤ 57
      · rw [if_pos c3.1, if_pos c3.2, if_pos c3, ex]
        obtain rfl | rfl | rfl | rfl | rfl : i = 0 ∨ i = 1 ∨ i = 2 ∨ i = 3 ∨ i = 4 := by omega
        · exact ih 0 (put 0 _ (n0, n1, n2, n3, n4)) (by omega) (by omega)
        · exact ih 1 (put 1 _ (n0, n1, n2, n3, n4)) (by omega) (by omega)
        · exact ih 2 (put 2 _ (n0, n1, n2, n3, n4)) (by omega) (by omega)
        · exact ih 3 (put 3 _ (n0, n1, n2, n3, n4)) (by omega) (by omega)
        · exact ih 4 (put 4 _ (n0, n1, n2, n3, n4)) (by omega) (by omega)
      · rw [if_neg c3]
        by_cases c4 : bt s x ≥ 48
        · rw [if_pos c4, if_neg (fun q => c3 ⟨c4, q⟩)]
          rfl
        · rw [if_neg c4]
          rfl
theorem refParse_f (s : ByteArray) (hs : s.size ≤ 5000) : watershedref04_Parse.f 200 s = some (fin s (scan ((bytesOf s).take 40) 0 (0, 0, 0, 0, 0))) := by
  have h := loop_f s hs (min s.size 40) 200 0 0 (0, 0, 0, 0, 0) (by omega) (by omega) (by omega) (by omega) (by omega)
  exact h
theorem get_put (i v : Int) (n : N5) : get i (put i v n) = v := by
  unfold get put
  repeat' split
  all_goals first | rfl | omega
theorem put_put (i v u : Int) (n : N5) : put i v (put i u n) = put i v n := by
  unfold put
  repeat' split
  all_goals first | rfl | omega
theorem put_get (i : Int) (n : N5) : put i (get i n) n = n := by
  unfold get put
  repeat' split
  all_goals first | rfl | omega
theorem scan_dig : ∀ (l rest : List Int) (i : Int) (n : N5), Dg l → 0 ≤ get i n → hv (get i n) l ≤ 1048576 → scan (l ++ rest) i n = scan rest i (put i (hv (get i n) l) n)
  | [], rest, i, n, _, _, _ => by rw [hv_nil, put_get]; rfl
  | c :: t, rest, i, n, hd, h0, h => by
    have hc := hd c List.mem_cons_self
    have ht : Dg t := fun x hx => hd x (List.mem_cons_of_mem _ hx)
    rw [hv_cons] at h ⊢
    have hm := hv_mono ht (10 * get i n + (c - 48)) (by omega)
    have eu : upd (get i n) c = 10 * get i n + (c - 48) := by
      unfold upd
      rw [u64w (get i n * 10) (by omega), u64w _ (by omega)]
      unfold mn
      rw [if_neg (by omega)]
      omega
    rw [List.cons_append, scan, if_neg (by omega), if_pos (by omega), eu]
    have ih := scan_dig t rest i (put i (10 * get i n + (c - 48)) n) ht (by rw [get_put]; omega) (by rw [get_put]; exact h)
    rw [ih, get_put, put_put]
theorem scan_dgs (v : Int) (rest : List Int) (i : Int) (n : N5) (hg : get i n = 0) (hv' : 0 ≤ v ∧ v ≤ 1048576) : scan (dig v.toNat ++ rest) i n = scan rest i (put i v n) := by
  have hp := dig_props v.toNat
  have e : hv 0 (dig v.toNat) = v := by rw [hp.2.2.1]; omega
  have h := scan_dig (dig v.toNat) rest i n hp.1 (by omega) (by rw [hg, e]; omega)
  rw [h, hg, e]
theorem bytes_dgs (v : Int) : bytesOf (dgs v) = dig v.toNat := bytesOf_strOfNums _ (fun b hb => by have := (dig_props v.toNat).1 b hb; omega)
theorem len7 (v : Int) (h : 0 ≤ v ∧ v ≤ 1048576) : (dig v.toNat).length ≤ 7 := dig_length 6 _ (by omega)
theorem scan_text (e d a b c : Int) (h : chk e d a b c = 0) (nn : 0 ≤ e ∧ 0 ≤ a ∧ 0 ≤ b ∧ 0 ≤ c) : scan ((bytesOf (dots (wordsT e d a b c))).take 40) 0 (0, 0, 0, 0, 0) = some (d, e, a, b, c, 0) := by
  have k := chk_ok h
  have l0 := len7 e (by omega)
  have l1 := len7 a (by omega)
  have l2 := len7 b (by omega)
  have l3 := len7 c (by omega)
  have z : bytesOf (⟨#[46]⟩ : ByteArray) = [46] := rfl
  unfold wordsT
  obtain rfl | rfl | rfl | rfl : d = 0 ∨ d = 1 ∨ d = 2 ∨ d = 3 := by omega
  · obtain ⟨rfl, rfl, rfl⟩ : a = 0 ∧ b = 0 ∧ c = 0 := by omega
    rw [if_pos rfl, dots_one, bytes_dgs, List.take_of_length_le (by omega), ← List.append_nil (dig e.toNat), scan_dgs e [] 0 _ rfl (by omega)]
    rfl
  · obtain ⟨rfl, rfl⟩ : b = 0 ∧ c = 0 := by omega
    rw [if_neg (by omega), if_pos rfl, dots_more, dots_one]
    simp only [bytesOf_append, bytes_dgs, z]
    rw [List.take_of_length_le (by simp only [List.length_append, List.length_singleton]; omega), List.append_assoc, scan_dgs e _ 0 _ rfl (by omega), List.singleton_append, scan, if_pos ⟨rfl, by omega⟩, ← List.append_nil (dig a.toNat), scan_dgs a [] (0 + 1) _ rfl (by omega)]
    rfl
  · obtain rfl : c = 0 := by omega
    rw [if_neg (by omega), if_neg (by omega), if_pos rfl, dots_more, dots_more, dots_one]
    simp only [bytesOf_append, bytes_dgs, z]
    rw [List.take_of_length_le (by simp only [List.length_append, List.length_singleton]; omega), List.append_assoc, scan_dgs e _ 0 _ rfl (by omega), List.singleton_append, scan, if_pos ⟨rfl, by omega⟩, List.append_assoc, scan_dgs a _ (0 + 1) _ rfl (by omega), List.singleton_append, scan, if_pos ⟨rfl, by omega⟩, ← List.append_nil (dig b.toNat), scan_dgs b [] (0 + 1 + 1) _ rfl (by omega)]
    rfl
  · rw [if_neg (by omega), if_neg (by omega), if_neg (by omega), dots_more, dots_more, dots_more, dots_one]
    simp only [bytesOf_append, bytes_dgs, z]
    rw [List.take_of_length_le (by simp only [List.length_append, List.length_singleton]; omega), List.append_assoc, scan_dgs e _ 0 _ rfl (by omega), List.singleton_append, scan, if_pos ⟨rfl, by omega⟩, List.append_assoc, scan_dgs a _ (0 + 1) _ rfl (by omega), List.singleton_append, scan, if_pos ⟨rfl, by omega⟩, List.append_assoc, scan_dgs b _ (0 + 1 + 1) _ rfl (by omega), List.singleton_append, scan, if_pos ⟨rfl, by omega⟩, ← List.append_nil (dig c.toNat), scan_dgs c [] (0 + 1 + 1 + 1) _ rfl (by omega)]
    rfl
def flat (p : P6) : R6 := (p.1.1, p.1.2.1, p.1.2.2.1, p.1.2.2.2.1, p.1.2.2.2.2, p.2)
theorem same (s : ByteArray) : fin s (scan ((bytesOf s).take 40) 0 (0, 0, 0, 0, 0)) = flat (parseF s) := by
  rcases parse_cases s with h | ⟨e, d, a, b, c, h, hk, nn, hs⟩
  · rw [h]
    unfold fin
    split
    · rfl
    · rename_i i n hn
      by_cases c : i > 3
      · rw [if_pos c]; rfl
      · rw [if_neg c]
        by_cases c2 : (textF (n.1 % 4294967296) i (n.2.1 % 4294967296) (n.2.2.1 % 4294967296) (n.2.2.2.1 % 4294967296)).2 = 0 ∧ (textF (n.1 % 4294967296) i (n.2.1 % 4294967296) (n.2.2.1 % 4294967296) (n.2.2.2.1 % 4294967296)).1 = s
        · exfalso
          obtain ⟨q0, e0⟩ : ∃ q, n.1 % 4294967296 = q := ⟨_, rfl⟩
          obtain ⟨q1, e1⟩ : ∃ q, n.2.1 % 4294967296 = q := ⟨_, rfl⟩
          obtain ⟨q2, e2⟩ : ∃ q, n.2.2.1 % 4294967296 = q := ⟨_, rfl⟩
          obtain ⟨q3, e3⟩ : ∃ q, n.2.2.2.1 % 4294967296 = q := ⟨_, rfl⟩
          rw [e0, e1, e2, e3] at c2
          have hck : chk q0 i q1 q2 q3 = 0 := by
            have := c2.1
            unfold textF at this
            by_cases hz : chk q0 i q1 q2 q3 = 0
            · exact hz
            · rw [if_pos hz] at this; exact absurd this hz
          have tb := (Text_back q0 i q1 q2 q3 hck (by omega)).2
          have es : dots (wordsT q0 i q1 q2 q3) = s := by
            have := c2.2
            unfold textF at this
            rw [if_neg (by simpa using hck)] at this
            exact this
          rw [es] at tb
          unfold stamp_Parse.f at tb
          rw [h] at tb
          split at tb
          · simp [badP] at tb
          · cases tb
        · rw [if_neg c2]; rfl
  · subst hs
    have k := chk_ok hk
    rw [scan_text e d a b c hk nn, h]
    unfold fin
    have ht : textF e d a b c = (dots (wordsT e d a b c), 0) := by unfold textF; rw [if_neg (by simpa using hk)]
    simp only
    rw [if_neg (by omega), show e % 4294967296 = e from by omega, show a % 4294967296 = a from by omega, show b % 4294967296 = b from by omega, show c % 4294967296 = c from by omega, ht, if_pos ⟨rfl, rfl⟩]
    rfl
theorem StampTexts_pure (e d a b c : Int) (s : ByteArray) (he : 0 ≤ e ∧ e < 4294967296) (ha : 0 ≤ a ∧ a < 4294967296) (hb : 0 ≤ b ∧ b < 4294967296) (hc : 0 ≤ c ∧ c < 4294967296) : watershedlaw04_StampTexts.f 200 e d a b c s = some true := by
  unfold watershedlaw04_StampTexts.f
  by_cases h : (s.size : Int) > 5000
  · rw [if_pos h]
  · rw [if_neg h, refText_f 200 (by omega) e d a b c he ha hb hc, refParse_f s (by omega), same]
    unfold stamp_Text.f stamp_Parse.f
    rw [if_pos ⟨he, ha, hb, hc⟩, if_pos (by omega)]
    simp only [Option.bind_some, flat, if_true, beq_self_eq_true, Bool.and_self]
end Go.Proofs.YtjkbgcdhhiakmaaDoor.P04T
