import Derived.Test.YtjkbgcdhhiakmaaDoorQ04Kx
import Derived.Test.YtjkbgcdhhiakmaaDoorPX04o
import Derived.Test.YtjkbgcdhhiakmaaDoorX04p
import Derived.Test.YtjkbgcdhhiakmaaDoorX04w
import Derived.Lib.SplitLaws
/- Plain: the law StampBack. -/
namespace Go.Proofs.YtjkbgcdhhiakmaaDoor.P04K
set_option linter.unusedSimpArgs false
open Go.RowKit Go.Proofs.YtjkbgcdhhiakmaaDoorW.PrintWords Go.Proofs.YtjkbgcdhhiakmaaDoorW.PrintLast Go.Proofs.YtjkbgcdhhiakmaaDoorW.PrintMore Go.Proofs.YtjkbgcdhhiakmaaDoor.Q04K Go.Proofs.YtjkbgcdhhiakmaaDoor.Pl Go.Proofs.YtjkbgcdhhiakmaaDoor.Ext
open Go.Proofs.YtjkbgcdhhiakmaaDoor.P04 (w01 w11 w12 w22 w23 w33 w34 w44 w00 chk chk_ok chk_cases rd0 rd1)
open Go.Proofs.YtjkbgcdhhiakmaaDoor.P04x
open Go.Proofs.YtjkbgcdhhiakmaaDoor.P04o (T6 noT sgc sgc_zero orZ cmpT enterF leaveF nextF addF)
theorem Check_f (e d a b c : Int) : stamp_chk.f e d a b c = some (chk e d a b c) := rfl
theorem refCheck_f (e d a b c : Int) : ref_chk.f e d a b c = some (chk e d a b c) := rfl
open Go.Proofs.YtjkbgcdhhiakmaaDoor.M02 (numL numL_leb leb leb_range leb_length)
open Go.Proofs.YtjkbgcdhhiakmaaDoor.M08 (dig dig_props can_dig hv hv_dig hv_mono hv_cons hv_nil Dg Cano dig_length)

theorem wA1 : wrap64 (0 + 1) = 1 := by unfold wrap64; omega
theorem wA2 : wrap64 (1 + 1) = 2 := by unfold wrap64; omega
theorem wA3 : wrap64 (2 + 1) = 3 := by unfold wrap64; omega
def laterF (e d a b c n : Int) : T6 := if chk e d a b c ≠ 0 then noT (chk e d a b c) else if (addF e n).2 = 0 then ((addF e n).1, d, a, b, c, 0) else noT (addF e n).2
theorem Later_f (e d a b c n : Int) (he : 0 ≤ e ∧ e < 4294967296) (hn : 0 ≤ n ∧ n < 4294967296) : stamp_Later.f e d a b c n = some (laterF e d a b c n) := by
  unfold stamp_Later.f laterF
  rw [Check_f, Option.bind_some]
  by_cases h : chk e d a b c = 0
  · rw [if_pos h, Add_x e n he hn, Option.bind_some, if_neg (show ¬ chk e d a b c ≠ 0 from fun q => q h)]
    by_cases h2 : (addF e n).2 = 0
    · rw [if_pos h2, if_pos h2]
    · rw [if_neg h2, if_neg h2]; rfl
  · rw [if_neg h, if_pos h]; rfl
/-! What is written is read. -/
theorem num_back (v : Int) (r : ByteArray) (h : 0 ≤ v ∧ v ≤ 1048576) (hr : r.size ≤ 1000) : code_Reader_Num.f (nb v ++ r) 0 = some (v, r, 0) := by
  unfold code_Reader_Num.f
  have hz : (nb v ++ r).size = (leb 9 v).length + r.size := by rw [ByteArray.size_append]; unfold nb; rw [strOfNums_sz]
  have hl := leb_length 9 v
  have hb : bytesOf (nb v ++ r) = leb 9 v ++ bytesOf r := by rw [bytesOf_append]; unfold nb; rw [bytesOf_strOfNums _ (leb_range 9 v)]
  have e := numL_leb 9 0 0 v (bytesOf r) (by omega) h.1 (by omega) (by simp; omega)
  rw [if_pos rfl, code_number_f _ (by omega), Option.bind_some, hb, e]
  simp only [Int.pow_zero, Int.mul_one, Int.zero_add, Nat.zero_add, Int.toNat_natCast]
  rw [if_pos (by omega), if_pos (by omega)]
  have x : (nb v ++ r).extract (leb 9 v).length (nb v ++ r).size = r := by
    apply bytes_inj
    rw [bytesOf_extract, hb, List.take_of_length_le (by rw [List.length_append, bytesOf_length]; omega), List.drop_left]
  rw [x]
theorem int_back (k : Nat) (m v : Int) (r : ByteArray) (h : 0 ≤ v ∧ v ≤ m) (hm : m ≤ 1048576) (hr : r.size ≤ 1000) : code_Reader_Int.f (k + 1) (nb v ++ r) 0 m = some (v, r, 0) := by
  unfold code_Reader_Int.f
  rw [num_back v r ⟨h.1, by omega⟩ hr, Option.bind_some, if_neg (by omega)]
  have e : IntKind.u64.wrap m = m := by rw [M02.wrap_u64]; omega
  rw [e, decide_eq_false (by omega)]
  rw [code_Reader_Int.j0, if_neg (by decide), if_pos rfl]
  simp only
  rw [w64 (x := v) (by omega) (by omega)]
theorem Read_back (e d a b c : Int) (h : chk e d a b c = 0) (nn : 0 ≤ e ∧ 0 ≤ a ∧ 0 ≤ b ∧ 0 ≤ c) : stamp_Read.f 30 (writeF e d a b c).1 0 = some (e, d, a, b, c, ⟨#[]⟩, 0) ∧ (writeF e d a b c).2 = 0 := by
  have k := chk_ok h
  have z : ∀ v, (nb v).size ≤ 10 := nb_size
  have ap : ∀ x : ByteArray, x ++ (⟨#[]⟩ : ByteArray) = x := fun x => by apply bytes_inj; rw [bytesOf_append]; exact List.append_nil _
  have i3 : ∀ j v r, 0 ≤ v ∧ v ≤ 3 → r.size ≤ 1000 → code_Reader_Int.f (j + 1) (nb v ++ r) 0 3 = some (v, r, 0) := fun j v r h1 h2 => int_back j 3 v r h1 (by omega) h2
  have iN : ∀ j v r, 0 ≤ v ∧ v ≤ 1048576 → r.size ≤ 1000 → code_Reader_Int.f (j + 1) (nb v ++ r) 0 1048576 = some (v, r, 0) := fun j v r h1 h2 => int_back j _ v r h1 (by omega) h2
  have iE : ∀ j v, 0 ≤ v ∧ v ≤ 1048576 → code_Reader_Int.f (j + 1) (nb v) 0 1048576 = some (v, ⟨#[]⟩, 0) := fun j v h1 => by rw [← ap (nb v)]; exact iN j v _ h1 (by decide)
  have s0 := z e
  have s1 := z a
  have s2 := z b
  have s3 := z c
  unfold writeF
  rw [if_neg (by simpa using h)]
  unfold stamp_Read.f
  obtain rfl | rfl | rfl | rfl : d = 0 ∨ d = 1 ∨ d = 2 ∨ d = 3 := by omega
  · obtain ⟨rfl, rfl, rfl⟩ : a = 0 ∧ b = 0 ∧ c = 0 := by omega
    refine ⟨?_, rfl⟩
    simp only [if_true]
    rw [i3 29 0 _ (by omega) (by omega), Option.bind_some, iE 29 e (by omega), Option.bind_some]
    simp only
    rw [show e % 4294967296 = e from by omega]
    rw [stamp_Read.l0, if_neg (by omega)]
    rfl
  · obtain ⟨rfl, rfl⟩ : b = 0 ∧ c = 0 := by omega
    refine ⟨?_, rfl⟩
    simp only [show ¬ (1 : Int) = 0 from by omega, if_false, if_true]
    rw [ByteArray.append_assoc, i3 29 1 _ (by omega) (by rw [ByteArray.size_append]; omega), Option.bind_some, iN 29 e _ (by omega) (by omega), Option.bind_some]
    simp only
    rw [show e % 4294967296 = e from by omega]
    rw [stamp_Read.l0, if_pos (by omega), iE 28 a (by omega), Option.bind_some]
    simp only [if_true]
    rw [show a % 4294967296 = a from by omega, wA1, stamp_Read.l0, if_neg (by omega)]
    rfl
  · obtain rfl : c = 0 := by omega
    refine ⟨?_, rfl⟩
    simp only [show ¬ (2 : Int) = 0 from by omega, show ¬ (2 : Int) = 1 from by omega, if_false, if_true]
    rw [ByteArray.append_assoc, ByteArray.append_assoc, i3 29 2 _ (by omega) (by simp only [ByteArray.size_append]; omega), Option.bind_some, iN 29 e _ (by omega) (by simp only [ByteArray.size_append]; omega), Option.bind_some]
    simp only
    rw [show e % 4294967296 = e from by omega]
    rw [stamp_Read.l0, if_pos (by omega), iN 28 a _ (by omega) (by omega), Option.bind_some]
    simp only [if_true]
    rw [show a % 4294967296 = a from by omega, wA1, stamp_Read.l0, if_pos (by omega), iE 27 b (by omega), Option.bind_some]
    simp only [show ¬ (1 : Int) = 0 from by omega, if_false, if_true]
    rw [show b % 4294967296 = b from by omega, wA2, stamp_Read.l0, if_neg (by omega)]
    rfl
  · refine ⟨?_, rfl⟩
    simp only [show ¬ (3 : Int) = 0 from by omega, show ¬ (3 : Int) = 1 from by omega, show ¬ (3 : Int) = 2 from by omega, if_false]
    rw [ByteArray.append_assoc, ByteArray.append_assoc, ByteArray.append_assoc, i3 29 3 _ (by omega) (by simp only [ByteArray.size_append]; omega), Option.bind_some, iN 29 e _ (by omega) (by simp only [ByteArray.size_append]; omega), Option.bind_some]
    simp only
    rw [show e % 4294967296 = e from by omega]
    rw [stamp_Read.l0, if_pos (by omega), iN 28 a _ (by omega) (by simp only [ByteArray.size_append]; omega), Option.bind_some]
    simp only [if_true]
    rw [show a % 4294967296 = a from by omega, wA1, stamp_Read.l0, if_pos (by omega), iN 27 b _ (by omega) (by omega), Option.bind_some]
    simp only [show ¬ (1 : Int) = 0 from by omega, if_false, if_true]
    rw [show b % 4294967296 = b from by omega, wA2, stamp_Read.l0, if_pos (by omega), iE 26 c (by omega), Option.bind_some]
    simp only [show ¬ (2 : Int) = 0 from by omega, show ¬ (2 : Int) = 1 from by omega, if_false, if_true]
    rw [show c % 4294967296 = c from by omega, wA3, stamp_Read.l0, if_neg (by omega)]
    rfl
/-! What is in writing is read as the time. -/
theorem index_at : ∀ (x r : List UInt8), (46 : UInt8) ∉ x → Lib.index (x ++ 46 :: r) [46] = (x.length : Int)
  | [], r, _ => by simp [Lib.index, List.isPrefixOf]
  | y :: x, r, h => by
    have h1 : y ≠ 46 := fun q => h (q ▸ List.mem_cons_self)
    have h2 := index_at x r (fun q => h (List.mem_cons_of_mem _ q))
    have hp : ([46] : List UInt8).isPrefixOf (y :: (x ++ 46 :: r)) = false := by simp [List.isPrefixOf, Ne.symm h1]
    rw [List.cons_append, Lib.index, hp, h2, if_neg (by decide), if_neg (by simp <;> omega)]
    simp
theorem count_at (x : List UInt8) (h : (46 : UInt8) ∉ x) : Lib.count x [46] = 0 := by
  rw [Lib.count_one, List.count_eq_zero]
  exact h
theorem splitK_join : ∀ (ws : List (List UInt8)), ws ≠ [] → (∀ x ∈ ws, (46 : UInt8) ∉ x) → Lib.splitK [46] 0 (Lib.count (Lib.join ws [46]) [46]) (Lib.join ws [46]) = ws
  | [], h, _ => absurd rfl h
  | [x], _, h => by
    have e : Lib.join [x] [46] = x := by simp [Lib.join, List.intercalate]
    rw [e, count_at x (h x List.mem_cons_self)]
    rfl
  | x :: y :: ys, _, h => by
    have ih := splitK_join (y :: ys) (by simp) (fun z hz => h z (List.mem_cons_of_mem _ hz))
    have hx := h x List.mem_cons_self
    have e : Lib.join (x :: y :: ys) [46] = x ++ 46 :: Lib.join (y :: ys) [46] := by simp [Lib.join, List.intercalate]
    have hi := index_at x (Lib.join (y :: ys) [46]) hx
    have hc : Lib.count (x ++ 46 :: Lib.join (y :: ys) [46]) [46] = Lib.count (Lib.join (y :: ys) [46]) [46] + 1 := by
      rw [Lib.count_one, Lib.count_one, List.count_append, List.count_eq_zero.2 hx, List.count_cons_self]
      omega
    rw [e, hc, Lib.splitK, hi, if_neg (by simp <;> omega)]
    have e1 : ((x.length : Int).toNat + 0) = x.length := by simp
    have e2 : ((x.length : Int).toNat + ([46] : List UInt8).length) = x.length + 1 := by simp
    rw [e1, e2, List.take_left]
    have e3 : (x ++ 46 :: Lib.join (y :: ys) [46]).drop (x.length + 1) = Lib.join (y :: ys) [46] := by
      rw [show x ++ 46 :: Lib.join (y :: ys) [46] = (x ++ [46]) ++ Lib.join (y :: ys) [46] from by simp, List.drop_left' (by simp)]
    rw [e3, ih]
theorem data_inj {a b : ByteArray} (h : a.data.toList = b.data.toList) : a = b := by
  obtain ⟨⟨x⟩⟩ := a
  obtain ⟨⟨y⟩⟩ := b
  simp only at h
  rw [h]
theorem map_inj : ∀ (a b : List ByteArray), a.map (·.data.toList) = b.map (·.data.toList) → a = b
  | [], [], _ => rfl
  | [], _ :: _, h => by cases h
  | _ :: _, [], h => by cases h
  | x :: a, y :: b, h => by
    rw [List.map_cons, List.map_cons] at h
    obtain ⟨h1, h2⟩ := List.cons.inj h
    rw [data_inj h1, map_inj a b h2]
theorem split_dots (ws : List ByteArray) (h0 : ws ≠ []) (h : ∀ x ∈ ws, (46 : UInt8) ∉ x.data.toList) : splitF (dots ws) = ws := by
  apply map_inj
  unfold splitF
  rw [Lib.splitB_data]
  have e : (dots ws).data.toList = Lib.join (ws.map (·.data.toList)) [46] := rfl
  have e2 : Lib.countB (dots ws) dot = Lib.count (Lib.join (ws.map (·.data.toList)) [46]) [46] := rfl
  have e3 : dot.data.toList = [46] := rfl
  rw [e2, e, e3]
  exact splitK_join _ (by simpa using h0) (fun x hx => by
    obtain ⟨y, hy, rfl⟩ := List.mem_map.1 hx
    exact h y hy)
theorem dgs_no (v : Int) : (46 : UInt8) ∉ (dgs v).data.toList := by
  unfold dgs
  rw [strOfNums_dat]
  intro h
  obtain ⟨n, hn, e⟩ := List.mem_map.1 h
  have hd := (dig_props v.toNat).1 n hn
  have := congrArg UInt8.toNat e
  rw [UInt8.toNat_ofNat'] at this
  have h46 : (46 : UInt8).toNat = 46 := rfl
  rw [h46] at this
  omega
theorem numD_hv : ∀ (l : List Int) (n : Int), 0 ≤ n → Dg l → hv n l ≤ 1048576 → P04.numD l n = (hv n l, true)
  | [], n, _, _, h => by
    have h : n ≤ 1048576 := h
    simp [P04.numD, hv_nil, h]
  | c :: t, n, h0, hd, h => by
    have hc := hd c List.mem_cons_self
    have ht : Dg t := fun x hx => hd x (List.mem_cons_of_mem _ hx)
    rw [hv_cons] at h ⊢
    have hm := hv_mono ht (10 * n + (c - 48)) (by omega)
    rw [P04.numD, if_neg (by omega)]
    exact numD_hv t _ (by omega) ht h
theorem numF_dgs (v : Int) (h : 0 ≤ v ∧ v ≤ 1048576) : P04.numF (dgs v) = (v, true) := by
  have hp := dig_props v.toNat
  have hc := can_dig v.toNat
  unfold P04.numF dgs
  rw [bytesOf_strOfNums _ (fun b hb => by have := hp.1 b hb; omega)]
  cases hl : dig v.toNat with
  | nil => exact absurd hl hp.2.1
  | cons c t =>
    rw [hl] at hc hp
    simp only
    rw [if_neg (by
      rintro ⟨h1, rfl⟩
      exact hc.2.2 (by cases t with
        | nil => exact absurd rfl h1
        | cons _ _ => simp) rfl)]
    rw [numD_hv _ 0 (by omega) hp.1 (by rw [hp.2.2.1]; omega), hp.2.2.1]
    rw [show ((v.toNat : Nat) : Int) = v from by omega]
theorem dgs_sz (v : Int) (h : 0 ≤ v ∧ v ≤ 1048576) : (dgs v).size ≤ 10 := dgs_size v (by omega)
theorem join_len : ∀ (ws : List (List UInt8)), (∀ x ∈ ws, x.length ≤ 10) → (Lib.join ws [46]).length ≤ 11 * ws.length
  | [], _ => by simp [Lib.join, List.intercalate]
  | [x], h => by
    have := h x List.mem_cons_self
    simp [Lib.join, List.intercalate]
    omega
  | x :: y :: ys, h => by
    have ih := join_len (y :: ys) (fun z hz => h z (List.mem_cons_of_mem _ hz))
    have := h x List.mem_cons_self
    have e : Lib.join (x :: y :: ys) [46] = x ++ 46 :: Lib.join (y :: ys) [46] := by simp [Lib.join, List.intercalate]
    rw [e]
    simp only [List.length_append, List.length_cons] at ih ⊢
    omega
theorem dots_size (ws : List ByteArray) (h : ∀ x ∈ ws, x.size ≤ 10) : (dots ws).size ≤ 11 * ws.length := by
  have := join_len (ws.map (·.data.toList)) (fun x hx => by
    obtain ⟨y, hy, rfl⟩ := List.mem_map.1 hx
    exact h y hy)
  rw [List.length_map] at this
  exact this
theorem Text_back (e d a b c : Int) (h : chk e d a b c = 0) (nn : 0 ≤ e ∧ 0 ≤ a ∧ 0 ≤ b ∧ 0 ≤ c) :
    stamp_Text.f e d a b c = some (dots (wordsT e d a b c), 0) ∧ stamp_Parse.f (dots (wordsT e d a b c)) = some (e, d, a, b, c, 0) := by
  have k := chk_ok h
  have hw : ∀ x ∈ wordsT e d a b c, (46 : UInt8) ∉ x.data.toList ∧ x.size ≤ 10 := by
    have q : ∀ v, 0 ≤ v ∧ v ≤ 1048576 → (46 : UInt8) ∉ (dgs v).data.toList ∧ (dgs v).size ≤ 10 := fun v hv => ⟨dgs_no v, dgs_sz v hv⟩
    have q0 := q e (by omega)
    have q1 := q a (by omega)
    have q2 := q b (by omega)
    have q3 := q c (by omega)
    unfold wordsT
    repeat' split
    all_goals
      intro x hx
      simp only [List.mem_cons, List.not_mem_nil, or_false] at hx
      rcases hx with rfl | rfl | rfl | rfl <;> assumption
  have hn : wordsT e d a b c ≠ [] ∧ (wordsT e d a b c).length ≤ 4 := by
    unfold wordsT
    repeat' split
    all_goals exact ⟨by simp, by simp⟩
  constructor
  · unfold stamp_Text.f textF
    rw [if_pos (by omega), if_neg (by simpa using h)]
  · have hs := dots_size _ (fun x hx => (hw x hx).2)
    unfold stamp_Parse.f parseF
    rw [if_pos (by omega), split_dots _ hn.1 (fun x hx => (hw x hx).1)]
    have f0 := numF_dgs e (by omega)
    have f1 := numF_dgs a (by omega)
    have f2 := numF_dgs b (by omega)
    have f3 := numF_dgs c (by omega)
    unfold wordsT
    obtain rfl | rfl | rfl | rfl : d = 0 ∨ d = 1 ∨ d = 2 ∨ d = 3 := by omega
    · obtain ⟨rfl, rfl, rfl⟩ : a = 0 ∧ b = 0 ∧ c = 0 := by omega
      simp [parseW, f0]
    · obtain ⟨rfl, rfl⟩ : b = 0 ∧ c = 0 := by omega
      simp [parseW, f0, f1]
    · obtain rfl : c = 0 := by omega
      simp [parseW, f0, f1, f2]
    · simp [parseW, f0, f1, f2, f3]
theorem Write_f (e d a b c : Int) (h : chk e d a b c = 0) (nn : 0 ≤ e ∧ 0 ≤ a ∧ 0 ≤ b ∧ 0 ≤ c) : stamp_Write.f e d a b c = some (writeF e d a b c) := by
  have k := chk_ok h
  unfold stamp_Write.f
  rw [if_pos (by omega)]
theorem j1_t (e d a b c : Int) (h : chk e d a b c = 0) (nn : 0 ≤ e ∧ 0 ≤ a ∧ 0 ≤ b ∧ 0 ≤ c) : watershedlaw04_StampBack.j1 31 false e d a b c = some true := by
  obtain ⟨t1, t2⟩ := Text_back e d a b c h nn
  obtain ⟨r1, r2⟩ := Read_back e d a b c h nn
  rw [watershedlaw04_StampBack.j1, if_neg (by decide), t1, Option.bind_some, t2, Option.bind_some, Write_f e d a b c h nn, Option.bind_some]
  simp only [code_New.f, Option.bind_some, r1, r2, if_true, beq_self_eq_true, Bool.and_self]
  simp only [code_Reader_End.f]
  rw [if_pos (toList_nil.2 rfl)]
  rfl
theorem j0_t (e d a b c n : Int) (h : chk e d a b c = 0) (nn : 0 ≤ e ∧ 0 ≤ a ∧ 0 ≤ b ∧ 0 ≤ c) (hn : 0 ≤ n ∧ n < 4294967296) : watershedlaw04_StampBack.j0 32 n e d a b c = some true := by
  have k := chk_ok h
  rw [watershedlaw04_StampBack.j0, Later_f e d a b c n (by omega) hn, Option.bind_some]
  unfold laterF
  rw [if_neg (show ¬ chk e d a b c ≠ 0 from fun q => q h)]
  unfold addF
  have e1 : n ≥ 0 → leB e d a b c (e + n) d a b c = true := fun q => decide_eq_true (by omega)
  have e2 : n > 0 → leB (e + n) d a b c e d a b c = false := fun q => decide_eq_false (by omega)
  by_cases c0 : n > 1048576
  · rw [if_pos (show e > 1048576 ∨ n > 1048576 from .inr c0)]
    exact j1_t e d a b c h nn
  · rw [if_neg (show ¬ (e > 1048576 ∨ n > 1048576) from by omega)]
    by_cases c1 : e + n > 1048576
    · rw [if_pos c1]
      exact j1_t e d a b c h nn
    · rw [if_neg c1]
      simp only [if_true, stamp_LE.f, Option.bind_some, e1 hn.1]
      by_cases c2 : n > 0
      · rw [if_pos c2, e2 c2]
        exact j1_t e d a b c h nn
      · rw [if_neg c2]
        exact j1_t e d a b c h nn
theorem StampBack_pure (e d a b c n : Int) (hn : 0 ≤ n ∧ n < 4294967296) (nn : 0 ≤ e ∧ 0 ≤ a ∧ 0 ≤ b ∧ 0 ≤ c) : watershedlaw04_StampBack.f 32 e d a b c n = some true := by
  unfold watershedlaw04_StampBack.f
  rw [works_x, Option.bind_some, if_pos rfl, refCheck_f, Option.bind_some]
  by_cases h : chk e d a b c = 0
  · have k := chk_ok h
    have J := j0_t e d a b c n h nn hn
    rw [if_pos h]
    have ck : ∀ d' a' b' c', 0 ≤ d' ∧ d' ≤ 3 → a' ≤ 1048576 → b' ≤ 1048576 → c' ≤ 1048576 → (d' ≤ 0 → a' = 0) → (d' ≤ 1 → b' = 0) → (d' ≤ 2 → c' = 0) → chk e d' a' b' c' = 0 := fun d' a' b' c' h1 h2 h3 h4 h5 h6 h7 => by
      unfold chk
      rw [if_neg (by omega), if_neg (by omega), if_neg (by omega)]
    have le : ∀ d' a' b' c' a'' b'' c'', 0 ≤ d' ∧ d' ≤ 3 → a' ≤ a'' → b' ≤ b'' → c' ≤ c'' → leB e d' a' b' c' e d' a'' b'' c'' = true := fun d' a' b' c' a'' b'' c'' h1 h2 h3 h4 => decide_eq_true (by omega)
    have nl : ∀ d' a' b' c' a'' b'' c'', (0 < d' ∧ a'' < a') ∨ (1 < d' ∧ b'' < b') ∨ (2 < d' ∧ c'' < c') → leB e d' a' b' c' e d' a'' b'' c'' = false := fun d' a' b' c' a'' b'' c'' h1 => decide_eq_false (by omega)
    obtain rfl | rfl | rfl | rfl : d = 0 ∨ d = 1 ∨ d = 2 ∨ d = 3 := by omega
    · obtain ⟨rfl, rfl, rfl⟩ : a = 0 ∧ b = 0 ∧ c = 0 := by omega
      have k1 : chk e 1 0 0 0 = 0 := ck _ _ _ _ (by omega) (by omega) (by omega) (by omega) (by omega) (by omega) (by omega)
      have k2 : chk e 1 1 0 0 = 0 := ck _ _ _ _ (by omega) (by omega) (by omega) (by omega) (by omega) (by omega) (by omega)
      have a1 : stamp_Enter.f e 0 0 0 0 = some (e, 1, 0, 0, 0, 0) := by rw [Enter_x]; simp [enterF, h]
      have a2 : stamp_Leave.f e 1 0 0 0 = some (e, 0, 0, 0, 0, 0) := by rw [Leave_x]; simp [leaveF, k1]
      have a3 : stamp_Next.f e 1 0 0 0 = some (e, 1, 1, 0, 0, 0) := by rw [Next_x _ _ _ _ _ (by omega) (by omega) (by omega)]; simp [nextF, k1]
      have a4 : stamp_Leave.f e 1 1 0 0 = some (e, 0, 0, 0, 0, 0) := by rw [Leave_x]; simp [leaveF, k2]
      simp [a1, a2, a3, a4, stamp_LE.f, le 1 0 0 0 1 0 0 (by omega) (by omega) (by omega) (by omega), nl 1 1 0 0 0 0 0 (by omega), J]
    · obtain ⟨rfl, rfl⟩ : b = 0 ∧ c = 0 := by omega
      have k1 : chk e 2 a 0 0 = 0 := ck _ _ _ _ (by omega) (by omega) (by omega) (by omega) (by omega) (by omega) (by omega)
      have k2 : chk e 2 a 1 0 = 0 := ck _ _ _ _ (by omega) (by omega) (by omega) (by omega) (by omega) (by omega) (by omega)
      have a1 : stamp_Enter.f e 1 a 0 0 = some (e, 2, a, 0, 0, 0) := by rw [Enter_x]; simp [enterF, h]
      have a2 : stamp_Leave.f e 2 a 0 0 = some (e, 1, a, 0, 0, 0) := by rw [Leave_x]; simp [leaveF, k1]
      have a3 : stamp_Next.f e 2 a 0 0 = some (e, 2, a, 1, 0, 0) := by rw [Next_x _ _ _ _ _ (by omega) (by omega) (by omega)]; simp [nextF, k1]
      have a4 : stamp_Leave.f e 2 a 1 0 = some (e, 1, a, 0, 0, 0) := by rw [Leave_x]; simp [leaveF, k2]
      simp [a1, a2, a3, a4, stamp_LE.f, le 2 a 0 0 a 1 0 (by omega) (by omega) (by omega) (by omega), nl 2 a 1 0 a 0 0 (by omega), J]
    · obtain rfl : c = 0 := by omega
      have k1 : chk e 3 a b 0 = 0 := ck _ _ _ _ (by omega) (by omega) (by omega) (by omega) (by omega) (by omega) (by omega)
      have k2 : chk e 3 a b 1 = 0 := ck _ _ _ _ (by omega) (by omega) (by omega) (by omega) (by omega) (by omega) (by omega)
      have a1 : stamp_Enter.f e 2 a b 0 = some (e, 3, a, b, 0, 0) := by rw [Enter_x]; simp [enterF, h]
      have a2 : stamp_Leave.f e 3 a b 0 = some (e, 2, a, b, 0, 0) := by rw [Leave_x]; simp [leaveF, k1]
      have a3 : stamp_Next.f e 3 a b 0 = some (e, 3, a, b, 1, 0) := by rw [Next_x _ _ _ _ _ (by omega) (by omega) (by omega)]; simp [nextF, k1]
      have a4 : stamp_Leave.f e 3 a b 1 = some (e, 2, a, b, 0, 0) := by rw [Leave_x]; simp [leaveF, k2]
      simp [a1, a2, a3, a4, stamp_LE.f, le 3 a b 0 a b 1 (by omega) (by omega) (by omega) (by omega), nl 3 a b 1 a b 0 (by omega), J]
    · have a1 : stamp_Enter.f e 3 a b c = some (noT 10) := by rw [Enter_x]; simp [enterF, h]
      simp [a1, noT, J]
  · rw [if_neg h]
end Go.Proofs.YtjkbgcdhhiakmaaDoor.P04K
