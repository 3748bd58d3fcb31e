import Derived.Test.YtmpgknemhmoboaaDoorQ08Jx
import Derived.Test.YtmpgknemhmoboaaDoorP08w
/- Plain: the law WordsJoin. -/
namespace Go.Proofs.YtmpgknemhmoboaaDoor.P08J
set_option linter.unusedSimpArgs false
open Go.RowKit Go.Proofs.YtmpgknemhmoboaaDoorW.PrintWords Go.Proofs.YtmpgknemhmoboaaDoorW.PrintLast Go.Proofs.YtmpgknemhmoboaaDoorW.PrintMore Go.Proofs.YtmpgknemhmoboaaDoor.Q08J Go.Proofs.YtmpgknemhmoboaaDoor.Pl Go.Proofs.YtmpgknemhmoboaaDoor.Ext Go.Proofs.YtmpgknemhmoboaaDoor.P08c
/-- A word that may be put among others. -/
def Plain (x : List Int) : Prop := x ≠ [] ∧ x.head? ≠ some 35 ∧ 32 ∉ x ∧ 10 ∉ x
theorem rsp_go : ∀ (x cur rest : List Int), cur ≠ [] → 32 ∉ x → rsp cur (x ++ 32 :: rest) = (cur ++ x) :: rsp [] rest
  | [], cur, rest, h, _ => by rw [List.nil_append, rsp, if_pos rfl, if_neg h, List.append_nil]
  | b :: x, cur, rest, h, hx => by
    have h1 : b ≠ 32 := fun q => hx (q ▸ List.mem_cons_self)
    rw [List.cons_append, rsp, if_neg h1, if_neg (fun q => h q.1), rsp_go x (cur ++ [b]) rest (by simp) (fun q => hx (List.mem_cons_of_mem _ q))]
    simp
theorem rsp_word (x rest : List Int) (h : Plain x) : rsp [] (x ++ 32 :: rest) = x :: rsp [] rest := by
  obtain ⟨h0, h1, h2, _⟩ := h
  cases x with
  | nil => exact absurd rfl h0
  | cons b x =>
    have hb : b ≠ 32 := fun q => h2 (q ▸ List.mem_cons_self)
    have hb2 : b ≠ 35 := fun q => h1 (by rw [q]; rfl)
    rw [List.cons_append, rsp, if_neg hb, if_neg (fun q => hb2 q.2), rsp_go x ([] ++ [b]) rest (by simp) (fun q => h2 (List.mem_cons_of_mem _ q))]
    rfl
theorem rsp_tail : ∀ (l cur : List Int), rsp cur (l ++ [32]) = rsp cur l
  | [], cur => by
    by_cases h : cur = []
    · simp [rsp, h]
    · simp [rsp, h]
  | b :: l, cur => by
    rw [List.cons_append, rsp, rsp, rsp_tail l [], rsp_tail l (cur ++ [b])]
def J (A : List Int) (W : List (List Int)) : Prop := ∀ rest, rsp [] (A ++ 32 :: rest) = W ++ rsp [] rest
theorem J_nil : J [] [] := fun rest => by rw [List.nil_append, rsp, if_pos rfl, if_pos rfl]; rfl
theorem rsp_blanks : ∀ (g : Nat) (rest : List Int), rsp [] (List.replicate g 32 ++ rest) = rsp [] rest
  | 0, rest => rfl
  | g + 1, rest => by rw [List.replicate_succ, List.cons_append, rsp, if_pos rfl, if_pos rfl, rsp_blanks g rest]
theorem J_step {A : List Int} {W : List (List Int)} (h : J A W) (g : Nat) (x : List Int) (hx : Plain x) : J (A ++ List.replicate (g + 1) 32 ++ x) (W ++ [x]) := fun rest => by
  have e : A ++ List.replicate (g + 1) 32 ++ x ++ 32 :: rest = A ++ 32 :: (List.replicate g 32 ++ (x ++ 32 :: rest)) := by
    rw [List.replicate_succ]
    simp
  rw [e, h, rsp_blanks, rsp_word x rest hx]
  simp
theorem J_end {A : List Int} {W : List (List Int)} (h : J A W) : rsp [] A = W := by
  have := h []
  rw [← rsp_tail A [], this]
  simp [rsp]
theorem J_more {A : List Int} {W : List (List Int)} (h : J A W) (r : List Int) : rsp [] (A ++ 32 :: 35 :: r) = W := by
  rw [h, rsp, if_neg (by decide), if_pos ⟨rfl, rfl⟩, List.append_nil]
def K (B : List Int) (W : List (List Int)) : Prop := ∀ rest, lin [] (B ++ rest) = W ++ lin [] rest
theorem K_nil : K [] [] := fun _ => rfl
theorem lin_go : ∀ (x cur rest : List Int), 10 ∉ x → lin cur (x ++ 10 :: rest) = (cur ++ x) :: lin [] rest
  | [], cur, rest, _ => by rw [List.nil_append, lin, if_pos rfl, List.append_nil]
  | b :: x, cur, rest, hx => by
    have h1 : b ≠ 10 := fun q => hx (q ▸ List.mem_cons_self)
    rw [List.cons_append, lin, if_neg h1, lin_go x (cur ++ [b]) rest (fun q => hx (List.mem_cons_of_mem _ q))]
    simp
theorem K_step {B : List Int} {W : List (List Int)} (h : K B W) (x : List Int) (hx : 10 ∉ x) : K (B ++ x ++ [10]) (W ++ [x]) := fun rest => by
  have e : B ++ x ++ [10] ++ rest = B ++ (x ++ 10 :: rest) := by simp
  rw [e, h, lin_go x [] rest hx]
  simp
theorem K_end {B : List Int} {W : List (List Int)} (h : K B W) : lin [] B = W := by
  have := h []
  rw [List.append_nil] at this
  rw [this]
  simp [lin]
theorem sp_rsp (l : List Int) : wsp (sp 32 l) = rsp [] l := by
  have e := rsp_wsp l [] (by simp)
  have e0 : pre [] (sp 32 l) = sp 32 l := by
    cases hz : sp 32 l with
    | nil => exact absurd hz (sp_ne 32 _)
    | cons x xs => rfl
  rw [e0] at e
  exact e.symm
theorem split_is (s : ByteArray) (hs : s.size ≤ 50000) (L : List ByteArray) (h : rsp [] (bytesOf s) = L.map bytesOf) : words_Split.f s = some L := by
  obtain ⟨X, x1, x2⟩ := Split_f s hs 200000 (by omega)
  obtain rfl : X = L := list_inj X L (by rw [x2, sp_rsp, h])
  exact x1
theorem lines_is (s : ByteArray) (hs : s.size ≤ 50000) (L : List ByteArray) (h : lin [] (bytesOf s) = L.map bytesOf) : words_Lines.f s = some L := by
  obtain ⟨X, x1, x2⟩ := Lines_f s hs
  obtain rfl : X = L := list_inj X L (by rw [x2, h])
  exact x1
theorem same_is (L : List ByteArray) (h : L.length ≤ 100000) : watershedref08_Same.f L L = some true := Same_f L h 200000 (by omega)
theorem more_bytes : bytesOf (⟨#[32, 35, 32, 109, 111, 114, 101]⟩ : ByteArray) = 32 :: 35 :: [32, 109, 111, 114, 101] := rfl
/-- The end: what was put together is cut apart. -/
theorem end_t (k : Nat) (l : List ByteArray) (a : Int) (s t : ByteArray) (w : List ByteArray) (i : Int) (hs : s.size ≤ 40000) (ht : t.size ≤ 40000) (hw : w.length ≤ 30) (hJ : J (bytesOf s) (w.map bytesOf)) (hK : K (bytesOf t) (w.map bytesOf)) :
    watershedlaw08_WordsJoin.j1 (k + 1) l a s t w i false = some true := by
  have z7 : (⟨#[32, 35, 32, 109, 111, 114, 101]⟩ : ByteArray).size = 7 := rfl
  rw [watershedlaw08_WordsJoin.j1, if_neg (by decide), split_is s (by omega) w (J_end hJ), Option.bind_some, same_is w (by omega), Option.bind_some, if_pos rfl, lines_is t (by omega) w (K_end hK), Option.bind_some, same_is w (by omega), Option.bind_some, if_pos rfl, if_pos (by omega), split_is _ (by rw [ByteArray.size_append, z7]; omega) w (by rw [bytesOf_append, more_bytes]; exact J_more hJ _), Option.bind_some, same_is w (by omega)]
  rfl
/-- Which words are plain. -/
theorem l1_t (l : List ByteArray) (a : Int) (s t : ByteArray) (w : List ByteArray) (i : Int) (hi : 0 ≤ i ∧ i < l.length) (hz : (rdOf ByteArray.empty l i).size ≤ 500) : ∀ (m q j : Nat) (p b : Bool), j + m = (rdOf ByteArray.empty l i).size →
    watershedlaw08_WordsJoin.l1 (m + 1 + q) l a s t w i p b (j : Int) = watershedlaw08_WordsJoin.j4 q l a s t w i (!((p && ((bytesOf (rdOf ByteArray.empty l i)).drop j).all (· != 32)) && (b && ((bytesOf (rdOf ByteArray.empty l i)).drop j).all (· != 10))))
  | 0, q, j, p, b, hm => by
    rw [show 0 + 1 + q = q + 1 from by omega, watershedlaw08_WordsJoin.l1, if_pos hi.1, if_pos hi.2, if_neg (by omega), bytes_end (by omega)]
    cases p <;> cases b <;> rfl
  | m + 1, q, j, p, b, hm => by
    have ew : wrap64 ((j : Int) + 1) = ((j + 1 : Nat) : Int) := by rw [w64 (by omega) (by omega)]; omega
    rw [show m + 1 + 1 + q = (m + 1 + q) + 1 from by omega, watershedlaw08_WordsJoin.l1, if_pos hi.1, if_pos hi.2, if_pos (by omega), bytes_drop (s := rdOf ByteArray.empty l i) (k := j) (by omega), ew]
    have ih := l1_t l a s t w i hi hz m q (j + 1)
    cases p <;> cases b
    · rw [if_neg (by decide), if_neg (by decide), ih false false (by omega)]
      simp
    · rw [if_neg (by decide), if_pos rfl, if_pos (by omega), ih false _ (by omega)]
      simp
    · rw [if_pos rfl, if_pos (by omega), if_neg (by decide), ih _ false (by omega)]
      simp
    · rw [if_pos rfl, if_pos (by omega), if_pos rfl, ih _ _ (by omega)]
      simp
theorem blank_bytes : bytesOf (⟨#[32]⟩ : ByteArray) = [32] := rfl
theorem feed_bytes : bytesOf (⟨#[10]⟩ : ByteArray) = [10] := rfl
/-- A word is put behind the others. -/
theorem l2_t (l : List ByteArray) (a : Int) (t : ByteArray) (w : List ByteArray) (i : Int) (hi : 0 ≤ i ∧ i < l.length) (hz : (rdOf ByteArray.empty l i).size ≤ 500) (ht : t.size ≤ 20000) (G : Nat) (hG : wrap64 (Int.tmod (IntKind.u64.wrap a) 3) = (G : Int)) (hG3 : G ≤ 2) : ∀ (m q j : Nat) (s : ByteArray), j + m = G + 1 → s.size + m ≤ 20000 →
    watershedlaw08_WordsJoin.l2 (m + 1 + q) l a s t w i (j : Int) = watershedlaw08_WordsJoin.l0 q l a (strOfNums (bytesOf s ++ List.replicate m 32 ++ bytesOf (rdOf ByteArray.empty l i))) ((t ++ rdOf ByteArray.empty l i) ++ (⟨#[10]⟩ : ByteArray)) w (wrap64 (i + 1))
  | 0, q, j, s, hm, hs => by
    rw [show 0 + 1 + q = q + 1 from by omega, watershedlaw08_WordsJoin.l2, hG, if_neg (by omega), if_pos hi.1, if_pos hi.2, if_pos (by omega), if_pos (by omega), if_pos (by rw [ByteArray.size_append]; omega)]
    rw [show List.replicate 0 (32 : Int) = [] from rfl, List.append_nil, ← bytesOf_append, strOfNums_bytesOf]
  | m + 1, q, j, s, hm, hs => by
    have ew : wrap64 ((j : Int) + 1) = ((j + 1 : Nat) : Int) := by rw [w64 (by omega) (by omega)]; omega
    have z1 : (⟨#[32]⟩ : ByteArray).size = 1 := rfl
    have ih := l2_t l a t w i hi hz ht G hG hG3 m q (j + 1) (s ++ (⟨#[32]⟩ : ByteArray)) (by omega) (by rw [ByteArray.size_append]; omega)
    rw [show m + 1 + 1 + q = (m + 1 + q) + 1 from by omega, watershedlaw08_WordsJoin.l2, hG, if_pos (by omega), if_pos (by omega), ew, ih]
    rw [bytesOf_append, blank_bytes, List.replicate_succ]
    simp
theorem gap_t (a : Int) : ∃ G : Nat, wrap64 (Int.tmod (IntKind.u64.wrap a) 3) = (G : Int) ∧ G ≤ 2 := by
  have e : IntKind.u64.wrap a = a % 18446744073709551616 := by simp [IntKind.wrap, IntKind.bits, IntKind.signed]
  have h0 : 0 ≤ a % 18446744073709551616 := by omega
  rw [e, Int.tmod_eq_emod_of_nonneg h0]
  refine ⟨(a % 18446744073709551616 % 3).toNat, ?_, by omega⟩
  rw [w64 (by omega) (by omega)]
  omega
theorem l0_t (l : List ByteArray) (a : Int) : ∀ (m k i : Nat) (s t : ByteArray) (w : List ByteArray), i + m = 30 → 600 * m + 600 ≤ k → s.size ≤ 503 * i → t.size ≤ 501 * i → w.length ≤ i → J (bytesOf s) (w.map bytesOf) → K (bytesOf t) (w.map bytesOf) →
    watershedlaw08_WordsJoin.l0 k l a s t w (i : Int) = some true
  | 0, k, i, s, t, w, hm, hk, hs, ht, hw, hJ, hK => by
    obtain ⟨k, rfl⟩ : ∃ q, k = q + 2 := ⟨k - 2, by omega⟩
    rw [watershedlaw08_WordsJoin.l0, decide_eq_false (by omega)]
    have e := end_t k l a s t w (i : Int) (by omega) (by omega) (by omega) hJ hK
    split <;> exact e
  | m + 1, k, i, s, t, w, hm, hk, hs, ht, hw, hJ, hK => by
    obtain ⟨k, rfl⟩ : ∃ q, k = q + 3 := ⟨k - 3, by omega⟩
    have ew : wrap64 ((i : Int) + 1) = ((i + 1 : Nat) : Int) := by rw [w64 (by omega) (by omega)]; omega
    rw [watershedlaw08_WordsJoin.l0]
    by_cases hl : (i : Int) < (l.length : Int)
    · rw [if_pos hl, decide_eq_true (by omega), watershedlaw08_WordsJoin.j1, if_pos rfl, if_pos (by omega), if_pos hl]
      by_cases hz : ((rdOf ByteArray.empty l (i : Int)).size : Int) > 500
      · rw [if_pos hz]
      · rw [if_neg hz]
        obtain ⟨x, hx⟩ : ∃ x, x = rdOf ByteArray.empty l (i : Int) := ⟨_, rfl⟩
        have go : ∀ p : Bool, (p = true ↔ (bytesOf x ≠ [] ∧ (bytesOf x).head? ≠ some 35)) → watershedlaw08_WordsJoin.j2 (k + 1) l a s t w (i : Int) p true = some true := fun p hp => by
          obtain ⟨q, hq⟩ : ∃ q, k = x.size + 1 + (q + 1) := ⟨k - x.size - 2, by rw [← hx] at hz; omega⟩
          have el := l1_t l a s t w (i : Int) ⟨by omega, hl⟩ (by omega) (rdOf ByteArray.empty l (i : Int)).size (q + 1) 0 p true (by omega)
          rw [watershedlaw08_WordsJoin.j2, hq, hx]
          rw [show ((0 : Nat) : Int) = 0 from rfl] at el
          rw [el, ← hx, watershedlaw08_WordsJoin.j4, List.drop_zero, Bool.true_and]
          rw [← hx] at hz
          cases hf : ((p && (bytesOf x).all (· != 32)) && (bytesOf x).all (· != 10)) with
          | false =>
            rw [if_pos (show (!false) = true from rfl), ew]
            exact l0_t l a m q (i + 1) s t w (by omega) (by omega) (by omega) (by omega) (by omega) hJ hK
          | true =>
            simp only [Bool.and_eq_true, List.all_eq_true, bne_iff_ne] at hf
            have hP : Plain (bytesOf x) := ⟨(hp.1 hf.1.1).1, (hp.1 hf.1.1).2, fun h => hf.1.2 32 h rfl, fun h => hf.2 10 h rfl⟩
            obtain ⟨G, hG, hG3⟩ := gap_t a
            obtain ⟨q, rfl⟩ : ∃ r, q = G + 1 + 1 + r := ⟨q - G - 2, by omega⟩
            have e2 := l2_t l a t (w ++ [rdOf ByteArray.empty l (i : Int)]) (i : Int) ⟨by omega, hl⟩ (by rw [← hx]; omega) (by omega) G hG hG3 (G + 1) q 0 s (by omega) (by omega)
            rw [show ((0 : Nat) : Int) = 0 from rfl] at e2
            rw [if_neg (by decide), if_pos (by omega), if_pos hl, if_pos (by omega), e2, ← hx, ew]
            have zx : bytesOf (strOfNums (bytesOf s ++ List.replicate (G + 1) 32 ++ bytesOf x)) = bytesOf s ++ List.replicate (G + 1) 32 ++ bytesOf x := bytesOf_strOfNums _ (fun b hb => by
              rcases List.mem_append.1 hb with hb | hb
              · rcases List.mem_append.1 hb with hb | hb
                · exact bytes_range s b hb
                · rw [(List.mem_replicate.1 hb).2]; omega
              · exact bytes_range x b hb)
            have z1 : (⟨#[10]⟩ : ByteArray).size = 1 := rfl
            refine l0_t l a m q (i + 1) _ _ _ (by omega) (by omega) ?_ ?_ ?_ ?_ ?_
            · rw [strOfNums_sz]
              simp only [List.length_append, List.length_replicate, bytesOf_length]
              omega
            · simp only [ByteArray.size_append]
              omega
            · simp
              omega
            · rw [zx, List.map_append]
              exact J_step hJ G (bytesOf x) hP
            · rw [bytesOf_append, bytesOf_append, feed_bytes, List.map_append]
              exact K_step hK (bytesOf x) hP.2.2.2
        rw [← hx]
        by_cases h0 : bytesOf x = []
        · rw [if_pos (toList_nil.2 h0)]
          exact go false ⟨fun h => (by cases h), fun h => absurd h0 h.1⟩
        · have hlen := bytesOf_length x
          have h1 : 0 < x.size := by
            cases hb : bytesOf x with
            | nil => exact absurd hb h0
            | cons c r => rw [hb] at hlen; simp at hlen; omega
          rw [if_neg (fun q => h0 (toList_nil.1 q)), if_pos (by omega)]
          have hd := bytes_drop (s := x) (k := 0) h1
          rw [List.drop_zero] at hd
          refine go _ ⟨fun h => ⟨h0, fun h2 => ?_⟩, fun h => ?_⟩
          · rw [hd] at h2
            simp at h2
            simp [h2] at h
          · rw [hd] at h
            simpa using h.2
    · rw [if_neg hl]
      exact end_t (k + 1) l a s t w (i : Int) (by omega) (by omega) (by omega) hJ hK
theorem WordsJoin_pure (l : List ByteArray) (a : Int) : watershedlaw08_WordsJoin.f 20000 l a = some true := by
  unfold watershedlaw08_WordsJoin.f
  rw [show watershedlaw08_works.f = some true from P08w.works_pure, Option.bind_some, if_pos rfl]
  have e : bytesOf (⟨#[]⟩ : ByteArray) = [] := rfl
  exact l0_t l a 30 20000 0 ⟨#[]⟩ ⟨#[]⟩ [] (by omega) (by omega) (Nat.zero_le _) (Nat.zero_le _) (Nat.zero_le _) (by rw [e]; exact J_nil) (by rw [e]; exact K_nil)
end Go.Proofs.YtmpgknemhmoboaaDoor.P08J
