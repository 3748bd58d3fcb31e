import Derived.Test.YtmpgknemhmoboaaQ08x
import Derived.Test.YtmpgknemhmoboaaPl
import Derived.Test.YtmpgknemhmoboaaM08
/- Plain: numbers in digits, and what number a word says, by the program and by the document. -/
namespace Go.Proofs.Ytmpgknemhmoboaa.P08
open Go.RowKit Go.Proofs.YtmpgknemhmoboaaW.PrintWords Go.Proofs.YtmpgknemhmoboaaW.PrintLast Go.Proofs.YtmpgknemhmoboaaW.PrintMore Go.Proofs.Ytmpgknemhmoboaa.Q08 Go.Proofs.Ytmpgknemhmoboaa.Pl Go.Proofs.Ytmpgknemhmoboaa.M08 Go.Proofs.Ytmpgknemhmoboaa.Ext

/-- Does a text begin with another one? -/
def hasB (s p : ByteArray) : Bool := decide (p.size ≤ s.size) && ((s.extract 0 p.size).toList == p.toList)
/-- What is left behind a beginning. -/
def cutB (s p : ByteArray) : ByteArray := if hasB s p then s.extract p.size s.size else s
theorem HasPrefix_b (s p : ByteArray) : stringslite_HasPrefix.f s p = some (hasB s p) := by
  unfold stringslite_HasPrefix.f hasB
  by_cases c : p.size ≤ s.size
  · rw [if_pos (by omega), if_pos (by omega), if_pos (by omega)]; simp [c]
  · rw [if_neg (by omega)]; simp [c]
theorem CutPrefix_b (s p : ByteArray) : strings_CutPrefix.f s p = some (cutB s p, hasB s p) := by
  unfold strings_CutPrefix.f stringslite_CutPrefix.f
  rw [HasPrefix_b]
  simp only [Option.bind_some]
  unfold cutB
  cases h : hasB s p with
  | true =>
    have hle : p.size ≤ s.size := by unfold hasB at h; simp at h; exact h.1
    rw [if_pos rfl, if_pos (by omega), if_pos (by omega)]
    simp
  | false => simp
theorem hasB_iff (s p : ByteArray) : hasB s p = true ↔ ∃ t, bytesOf s = bytesOf p ++ t := by
  unfold hasB
  rw [Bool.and_eq_true, decide_eq_true_eq, beq_iff_eq, toList_bytes, bytesOf_extract]
  constructor
  · rintro ⟨h1, h2⟩
    refine ⟨(bytesOf s).drop p.size, ?_⟩
    rw [← h2, List.drop_zero, List.take_append_drop]
  · rintro ⟨t, h⟩
    have hl : s.size = p.size + t.length := by have := congrArg List.length h; simpa [bytesOf_length] using this
    refine ⟨by omega, ?_⟩
    rw [h, List.drop_zero, ← bytesOf_length p, List.take_left]
theorem cutB_bytes {s p : ByteArray} {t : List Int} (h : bytesOf s = bytesOf p ++ t) : bytesOf (cutB s p) = t := by
  unfold cutB
  rw [if_pos ((hasB_iff s p).2 ⟨t, h⟩), bytesOf_extract, List.take_of_length_le (by rw [bytesOf_length]; exact Nat.le_refl _), h, ← bytesOf_length p, List.drop_left]

theorem digit_f (c : Int) : words_digit.f c = some (decide (48 ≤ c ∧ c ≤ 57)) := by
  unfold words_digit.f
  by_cases h : c ≥ 48
  · rw [if_pos h]; simp [h]
  · rw [if_neg h, decide_eq_false (by omega)]

theorem natural_l0 (s : ByteArray) (most : Int) (hm : 9223372036854775807 ≤ most ∧ most ≤ 9223372036854775808) (hs : s.size ≤ 5000) : ∀ (d : Nat) (k : Nat) (i n : Int), 0 ≤ i → i + d = s.size → d < k → 0 ≤ n → n ≤ most →
    ∃ r, words_natural.l0 k s most n s.size i = some r ∧ ((Dg ((bytesOf s).drop i.toNat) ∧ hv n ((bytesOf s).drop i.toNat) ≤ most ∧ r = (hv n ((bytesOf s).drop i.toNat), true)) ∨ (¬ (Dg ((bytesOf s).drop i.toNat) ∧ hv n ((bytesOf s).drop i.toNat) ≤ most) ∧ r = (0, false)))
  | 0, k, i, n, h0, hd, hk, hn, hn1 => by
    obtain ⟨k, rfl⟩ : ∃ m, k = m + 1 := ⟨k - 1, by omega⟩
    refine ⟨(n, true), ?_, .inl ?_⟩
    · simp only [words_natural.l0]
      rw [if_neg (by omega)]
    · rw [bytes_end (by omega)]
      exact ⟨fun d hd => by simp at hd, hn1, rfl⟩
  | d + 1, k, i, n, h0, hd, hk, hn, hn1 => by
    obtain ⟨k, rfl⟩ : ∃ m, k = m + 1 := ⟨k - 1, by omega⟩
    have hb := bytes_dropI (s := s) (i := i) h0 (by omega)
    rw [hb]
    have hr := bt_range s i
    have ih := natural_l0 s most hm hs d k (i + 1)
    simp only [words_natural.l0]
    rw [if_pos (by omega), if_pos (by omega), if_pos (by omega), digit_f, w64 (x := i + 1) (by omega) (by omega)]
    simp only [Option.bind_some]
    generalize bt s i = b at *
    generalize (bytesOf s).drop (i + 1).toNat = rest at *
    by_cases c1 : 48 ≤ b ∧ b ≤ 57
    · rw [if_pos (by simpa using c1), u64w (Int.tdiv most 10), Int.tdiv_eq_ediv_of_nonneg (by omega), show (b - 48) % 256 = b - 48 from by omega, u64_id (n := most - (b - 48)) (by omega) (by omega)]
      by_cases c2 : n > most / 10 % 18446744073709551616
      · rw [if_pos c2]
        refine ⟨_, rfl, .inr ⟨fun ⟨h1, h2⟩ => ?_, rfl⟩⟩
        have := hv_mono (l := rest) (fun x hx => h1 x (by simp [hx])) (10 * n + (b - 48)) (by omega)
        rw [hv_cons] at h2
        omega
      · rw [if_neg c2, u64_id (n := 10 * n) (by omega) (by omega)]
        by_cases c3 : 10 * n > most - (b - 48)
        · rw [if_pos c3]
          refine ⟨_, rfl, .inr ⟨fun ⟨h1, h2⟩ => ?_, rfl⟩⟩
          have := hv_mono (l := rest) (fun x hx => h1 x (by simp [hx])) (10 * n + (b - 48)) (by omega)
          rw [hv_cons] at h2
          omega
        · rw [if_neg c3, u64_id (n := 10 * n + (b - 48)) (by omega) (by omega)]
          obtain ⟨r, hr1, hr2⟩ := ih (10 * n + (b - 48)) (by omega) (by omega) (by omega) (by omega) (by omega)
          refine ⟨r, hr1, ?_⟩
          rw [hv_cons]
          rcases hr2 with ⟨a1, a2, a3⟩ | ⟨a1, a2⟩
          · exact .inl ⟨fun x hx => by rcases List.mem_cons.1 hx with rfl | hx; exact c1; exact a1 x hx, a2, a3⟩
          · exact .inr ⟨fun ⟨h1, h2⟩ => a1 ⟨fun x hx => h1 x (by simp [hx]), h2⟩, a2⟩
    · rw [if_neg (by simpa using c1)]
      exact ⟨_, rfl, .inr ⟨fun ⟨h1, _⟩ => c1 (h1 b (by simp)), rfl⟩⟩

theorem natural_f (s : ByteArray) (most : Int) (hm : 9223372036854775807 ≤ most ∧ most ≤ 9223372036854775808) (hs : s.size ≤ 5000) (k : Nat) (hk : s.size + 2 < k) :
    ∃ r, words_natural.f k s most = some r ∧ ((Cano (bytesOf s) ∧ hv 0 (bytesOf s) ≤ most ∧ r = (hv 0 (bytesOf s), true)) ∨ (¬ (Cano (bytesOf s) ∧ hv 0 (bytesOf s) ≤ most) ∧ r = (0, false))) := by
  obtain ⟨k, rfl⟩ : ∃ m, k = m + 1 := ⟨k - 1, by omega⟩
  unfold words_natural.f
  by_cases c0 : s.toList = []
  · rw [if_pos c0]
    exact ⟨_, rfl, .inr ⟨fun ⟨h, _⟩ => h.1 (toList_nil.1 c0), rfl⟩⟩
  · rw [if_neg c0]
    have hne : bytesOf s ≠ [] := fun h => c0 (toList_nil.2 h)
    have hl := bytesOf_length s
    have hpos : 0 < s.size := by rw [← hl]; exact List.length_pos_iff.2 hne
    have main : ∃ r, words_natural.j0 (k + 1) s most 0 false = some r ∧ ((Dg (bytesOf s) ∧ hv 0 (bytesOf s) ≤ most ∧ r = (hv 0 (bytesOf s), true)) ∨ (¬ (Dg (bytesOf s) ∧ hv 0 (bytesOf s) ≤ most) ∧ r = (0, false))) := by
      simp only [words_natural.j0]
      rw [if_neg (by simp)]
      have := natural_l0 s most hm hs s.size k 0 0 (by omega) (by omega) (by omega) (by omega) (by omega)
      simpa using this
    have h0 : (bytesOf s).head? = some (bt s 0) := by
      have := bytes_dropI (s := s) (i := 0) (by omega) (by omega)
      simp only [Int.toNat_zero, List.drop_zero] at this
      rw [this]; rfl
    by_cases c1 : (s.size : Int) > 1
    · rw [if_pos c1, if_pos (by omega)]
      by_cases c2 : bt s 0 = 48
      · refine ⟨(0, false), ?_, .inr ⟨fun ⟨h, _⟩ => ?_, rfl⟩⟩
        · rw [c2]; simp [words_natural.j0]
        · exact h.2.2 (by omega) (by rw [h0, c2])
      · rw [show (bt s 0 == 48) = false from by simp [c2]]
        obtain ⟨r, hr1, hr2⟩ := main
        refine ⟨r, hr1, ?_⟩
        rcases hr2 with ⟨a1, a2, a3⟩ | ⟨a1, a2⟩
        · exact .inl ⟨⟨hne, a1, fun _ => by rw [h0]; simpa using c2⟩, a2, a3⟩
        · exact .inr ⟨fun ⟨h1, h2⟩ => a1 ⟨h1.2.1, h2⟩, a2⟩
    · rw [if_neg c1]
      obtain ⟨r, hr1, hr2⟩ := main
      refine ⟨r, hr1, ?_⟩
      rcases hr2 with ⟨a1, a2, a3⟩ | ⟨a1, a2⟩
      · exact .inl ⟨⟨hne, a1, fun h => by omega⟩, a2, a3⟩
      · exact .inr ⟨fun ⟨h1, h2⟩ => a1 ⟨h1.2.1, h2⟩, a2⟩

theorem minus_bytes : bytesOf (⟨#[45]⟩ : ByteArray) = [45] := rfl

theorem Signed_f (s : ByteArray) (hs : s.size ≤ 5000) (k : Nat) (hk : s.size + 5 < k) : ∃ r, words_Signed.f k s = some r ∧ Sg (bytesOf s) r := by
  obtain ⟨k, rfl⟩ : ∃ m, k = m + 2 := ⟨k - 2, by omega⟩
  unfold words_Signed.f
  rw [CutPrefix_b]
  simp only [Option.bind_some]
  by_cases c : ∃ t, bytesOf s = 45 :: t
  · obtain ⟨t, ht⟩ := c
    have hb : hasB s ⟨#[45]⟩ = true := (hasB_iff _ _).2 ⟨t, ht⟩
    have hc := cutB_bytes (s := s) (p := ⟨#[45]⟩) (t := t) ht
    have hz : (cutB s ⟨#[45]⟩).size + 1 = s.size := by rw [← bytesOf_length, ← bytesOf_length, hc, ht]; rfl
    rw [hb, if_pos rfl]
    simp only [words_Signed.j0]
    obtain ⟨r, hr, hr2⟩ := natural_f (cutB s ⟨#[45]⟩) (9223372036854775807 + 1) (by omega) (by omega) (k + 1) (by omega)
    rw [hr]
    simp only [Option.bind_some]
    rw [hc] at hr2
    rcases hr2 with ⟨a1, a2, rfl⟩ | ⟨a1, rfl⟩
    · simp only [if_true]
      by_cases hz0 : hv 0 t = 0
      · refine ⟨(0, 6), by rw [hz0]; simp [words_Signed.j1], .inr ⟨fun m m0 m1 hm => ?_, rfl⟩⟩
        rw [ht] at hm
        by_cases hn : m < 0
        · rw [txt_neg hn] at hm
          have := hv_dig (-m).toNat
          rw [(List.cons.inj hm).2] at this
          omega
        · rw [txt_pos hn] at hm
          exact dig_head45 _ _ hm
      · have hp : 0 ≤ hv 0 t := hv_mono a1.2.1 0 (by omega)
        refine ⟨(-hv 0 t, 0), ?_, .inl ⟨-hv 0 t, by omega, by omega, ?_, rfl⟩⟩
        · simp only [if_true, eq_self, words_Signed.j1, show (hv 0 t == 0) = false from by simp [hz0], Bool.false_eq_true, if_false]
          congr 2
          rw [u64w]
          unfold wrap64
          omega
        · rw [txt_neg (by omega), ht]
          congr 1
          have := dig_hv t.length t rfl a1
          rwa [show (- -hv 0 t).toNat = (hv 0 t).toNat from by omega]
    · refine ⟨(0, 6), by simp [words_Signed.j1], .inr ⟨fun m m0 m1 hm => ?_, rfl⟩⟩
      rw [ht] at hm
      by_cases hn : m < 0
      · rw [txt_neg hn] at hm
        have e := (List.cons.inj hm).2
        have := hv_dig (-m).toNat
        have hcan := can_dig (-m).toNat
        rw [e] at this hcan
        exact a1 ⟨hcan, by omega⟩
      · rw [txt_pos hn] at hm
        exact dig_head45 _ _ hm
  · have hb : hasB s ⟨#[45]⟩ = false := by
      cases h : hasB s ⟨#[45]⟩ with
      | false => rfl
      | true => obtain ⟨t, ht⟩ := (hasB_iff _ _).1 h; exact absurd ⟨t, ht⟩ c
    have hc : cutB s ⟨#[45]⟩ = s := by unfold cutB; rw [hb]; rfl
    rw [hb, hc, if_neg (by simp)]
    simp only [words_Signed.j0]
    obtain ⟨r, hr, hr2⟩ := natural_f s 9223372036854775807 (by omega) (by omega) (k + 1) (by omega)
    rw [hr]
    simp only [Option.bind_some]
    rcases hr2 with ⟨a1, a2, rfl⟩ | ⟨a1, rfl⟩
    · have hp : 0 ≤ hv 0 (bytesOf s) := hv_mono a1.2.1 0 (by omega)
      refine ⟨(hv 0 (bytesOf s), 0), ?_, .inl ⟨hv 0 (bytesOf s), by omega, by omega, ?_, rfl⟩⟩
      · simp only [if_true, eq_self, words_Signed.j1, Bool.false_eq_true, if_false]
        rw [w64 (by omega) (by omega)]
      · rw [txt_pos (by omega)]
        exact dig_hv _ _ rfl a1
    · refine ⟨(0, 6), by simp [words_Signed.j1], .inr ⟨fun m m0 m1 hm => ?_, rfl⟩⟩
      by_cases hn : m < 0
      · rw [txt_neg hn] at hm
        exact c ⟨_, hm.symm⟩
      · rw [txt_pos hn] at hm
        have := hv_dig m.toNat
        have hcan := can_dig m.toNat
        rw [hm] at this hcan
        exact a1 ⟨hcan, by omega⟩

theorem refNumber_l0 (sg : ByteArray) (hg : sg.size ≤ 100) : ∀ (d : Nat) (k : Nat) (i u : Int) (x : ByteArray), 0 ≤ i → i + (d + 1) = 20 → d + 1 < k → 0 ≤ u → u < 10 ^ (d + 1) → x.size + d ≤ 100 →
    watershedref08_Number.l0 k x sg u i = some (sg ++ (strOfNums (dig u.toNat) ++ x)) := by
  intro d
  induction d with
  | zero =>
    intro k i u x h0 hd hk hu hu1 hx
    obtain ⟨k, rfl⟩ : ∃ m, k = m + 1 := ⟨k - 1, by omega⟩
    simp only [watershedref08_Number.l0]
    have e1 : Int.tmod u 10 = u := by rw [Int.tmod_eq_emod_of_nonneg hu]; omega
    have e2 : Int.tdiv u 10 = 0 := by rw [Int.tdiv_eq_ediv_of_nonneg hu]; omega
    rw [if_pos (by omega), Option.bind_some, strOfNums_sz, e2, e1, u64_id (n := 0) (by omega) (by omega), u64_id (n := 48 + u) (by omega) (by omega), show (48 + u) % 256 = 48 + u from by omega]
    rw [if_pos (by simp only [List.length_cons, List.length_nil]; omega), if_pos rfl, if_pos (by rw [ByteArray.size_append, strOfNums_sz]; simp only [List.length_cons, List.length_nil]; omega)]
    rw [dig_lt (by omega), show ((u.toNat : Nat) : Int) = u from by omega]
  | succ d ih =>
    intro k i u x h0 hd hk hu hu1 hx
    obtain ⟨k, rfl⟩ : ∃ m, k = m + 1 := ⟨k - 1, by omega⟩
    simp only [watershedref08_Number.l0]
    have e1 : Int.tmod u 10 = u % 10 := Int.tmod_eq_emod_of_nonneg hu
    have e2 : Int.tdiv u 10 = u / 10 := Int.tdiv_eq_ediv_of_nonneg hu
    have hp : (10 : Int) ^ (d + 1 + 1) = 10 ^ (d + 1) * 10 := Int.pow_succ ..
    have hle : (10 : Int) ^ (d + 1 + 1) ≤ 10 ^ 20 := by
      have : (10 : Nat) ^ (d + 1 + 1) ≤ 10 ^ 20 := Nat.pow_le_pow_right (by omega) (by omega)
      exact_mod_cast this
    have hu2 : u / 10 < 18446744073709551616 := by omega
    rw [if_pos (by omega), Option.bind_some, strOfNums_sz, e2, e1, u64_id (n := u / 10) (by omega) (by omega), u64_id (n := 48 + u % 10) (by omega) (by omega), show (48 + u % 10) % 256 = 48 + u % 10 from by omega]
    rw [if_pos (by simp only [List.length_cons, List.length_nil]; omega)]
    by_cases c : u / 10 = 0
    · rw [if_pos c, if_pos (by rw [ByteArray.size_append, strOfNums_sz]; simp only [List.length_cons, List.length_nil]; omega)]
      rw [dig_lt (by omega), show ((u.toNat : Nat) : Int) = u from by omega, show u % 10 = u from by omega]
    · rw [if_neg c, w64 (by omega) (by omega), ih k (i + 1) (u / 10) _ (by omega) (by omega) (by omega) (by omega) (by omega) (by rw [ByteArray.size_append, strOfNums_sz]; simp only [List.length_cons, List.length_nil]; omega)]
      rw [dig_ge (n := u.toNat) (by omega), strOfNums_append, show (u / 10).toNat = u.toNat / 10 from by omega, show 48 + ((u.toNat % 10 : Nat) : Int) = 48 + u % 10 from by omega, ByteArray.append_assoc]

theorem refNumber_f (m : Int) (h0 : -9223372036854775808 ≤ m) (h1 : m < 9223372036854775808) (k : Nat) (hk : 30 < k) : watershedref08_Number.f k m = some (strOfNums (txt m)) := by
  obtain ⟨k, rfl⟩ : ∃ m, k = m + 1 := ⟨k - 1, by omega⟩
  unfold watershedref08_Number.f
  by_cases c : m < 0
  · rw [if_pos c]
    simp only [watershedref08_Number.j0]
    have e : IntKind.u64.wrap (-(IntKind.u64.wrap m)) = -m := by rw [u64w, u64w]; omega
    rw [e, refNumber_l0 ⟨#[45]⟩ (by decide) 19 k 0 (-m) ⟨#[]⟩ (by omega) (by omega) (by omega) (by omega) (by omega) (by decide), txt_neg c]
    congr 1
    apply bytes_inj
    have hr := (dig_props (-m).toNat).1
    rw [bytesOf_append, bytesOf_append, bytesOf_strOfNums _ (fun b hb => by have := hr b hb; omega), bytesOf_strOfNums _ (fun b hb => by
      rcases List.mem_cons.1 hb with rfl | hb
      · omega
      · have := hr b hb; omega)]
    simp [bytesOf]
  · rw [if_neg c]
    simp only [watershedref08_Number.j0]
    have e : IntKind.u64.wrap m = m := by rw [u64w]; omega
    rw [e, refNumber_l0 ⟨#[]⟩ (by decide) 19 k 0 m ⟨#[]⟩ (by omega) (by omega) (by omega) (by omega) (by omega) (by decide), txt_pos c]
    congr 1
    apply bytes_inj
    rw [bytesOf_append, bytesOf_append]
    simp [bytesOf]

theorem hv_mod : ∀ (l : List Int) (a : Int), hv (a % 18446744073709551616) l % 18446744073709551616 = hv a l % 18446744073709551616
  | [], a => by simp only [hv_nil]; omega
  | d :: l, a => by
    rw [hv_cons, hv_cons, ← hv_mod l (10 * (a % 18446744073709551616) + (d - 48)), ← hv_mod l (10 * a + (d - 48))]
    congr 2
    omega

/-- The number that the digits come to, as the document's answer has it. -/
def fin (at_ V : Int) : Int := if at_ = 1 then wrap64 (-(wrap64 V)) else wrap64 V
theorem fin_range (at_ V : Int) : -9223372036854775808 ≤ fin at_ V ∧ fin at_ V < 9223372036854775808 := by unfold fin; split <;> exact w64_range _

theorem refSigned_l0 (s : ByteArray) (hs : s.size ≤ 20) (at_ : Int) : ∀ (d : Nat) (k : Nat) (i v : Int), 0 ≤ i → i + d = s.size → d + 40 < k → 0 ≤ v → v < 18446744073709551616 →
    ∃ r, watershedref08_Signed.l0 k s v at_ i = some r ∧ ((¬ Dg ((bytesOf s).drop i.toNat) ∧ r = (0, 6)) ∨ (Dg ((bytesOf s).drop i.toNat) ∧ ((txt (fin at_ (hv v ((bytesOf s).drop i.toNat) % 18446744073709551616)) = bytesOf s ∧ r = (fin at_ (hv v ((bytesOf s).drop i.toNat) % 18446744073709551616), 0)) ∨ (txt (fin at_ (hv v ((bytesOf s).drop i.toNat) % 18446744073709551616)) ≠ bytesOf s ∧ r = (0, 6)))))
  | 0, k, i, v, h0, hd, hk, hv0, hv1 => by
    obtain ⟨k, rfl⟩ : ∃ m, k = m + 1 := ⟨k - 1, by omega⟩
    simp only [watershedref08_Signed.l0]
    rw [if_neg (by omega), bytes_end (by omega), hv_nil, show v % 18446744073709551616 = v from by omega]
    have hD : Dg [] := fun d hd => by simp at hd
    have hiff : ∀ n, (strOfNums (txt n)).toList = s.toList ↔ txt n = bytesOf s := fun n => by rw [toList_bytes, bytesOf_strOfNums _ (txt_range n)]
    have hn := refNumber_f (fin at_ v) (fin_range _ _).1 (fin_range _ _).2 k (by omega)
    by_cases c : at_ = 1
    · have e : fin at_ v = wrap64 (-(wrap64 v)) := by unfold fin; rw [if_pos c]
      rw [e] at hn ⊢
      rw [if_pos c, hn]
      simp only [Option.bind_some]
      by_cases c2 : txt (wrap64 (-(wrap64 v))) = bytesOf s
      · rw [if_pos ((hiff _).2 c2)]
        exact ⟨_, rfl, .inr ⟨hD, .inl ⟨c2, rfl⟩⟩⟩
      · rw [if_neg (fun h => c2 ((hiff _).1 h))]
        exact ⟨_, rfl, .inr ⟨hD, .inr ⟨c2, rfl⟩⟩⟩
    · have e : fin at_ v = wrap64 v := by unfold fin; rw [if_neg c]
      rw [e] at hn ⊢
      rw [if_neg c, hn]
      simp only [Option.bind_some]
      by_cases c2 : txt (wrap64 v) = bytesOf s
      · rw [if_pos ((hiff _).2 c2)]
        exact ⟨_, rfl, .inr ⟨hD, .inl ⟨c2, rfl⟩⟩⟩
      · rw [if_neg (fun h => c2 ((hiff _).1 h))]
        exact ⟨_, rfl, .inr ⟨hD, .inr ⟨c2, rfl⟩⟩⟩
  | d + 1, k, i, v, h0, hd, hk, hv0, hv1 => by
    obtain ⟨k, rfl⟩ : ∃ m, k = m + 1 := ⟨k - 1, by omega⟩
    have hb := bytes_dropI (s := s) (i := i) h0 (by omega)
    rw [hb]
    have hr := bt_range s i
    have ih := refSigned_l0 s hs at_ d k (i + 1)
    simp only [watershedref08_Signed.l0]
    rw [if_pos (by omega), if_pos (by omega), w64 (x := i + 1) (by omega) (by omega)]
    generalize bt s i = b at *
    generalize (bytesOf s).drop (i + 1).toNat = rest at *
    by_cases c1 : b < 48
    · rw [if_pos c1]
      exact ⟨_, rfl, .inl ⟨fun h => by have := h b (by simp); omega, rfl⟩⟩
    · rw [if_neg c1]
      by_cases c2 : b > 57
      · rw [if_pos c2]
        exact ⟨_, rfl, .inl ⟨fun h => by have := h b (by simp); omega, rfl⟩⟩
      · rw [if_neg c2]
        have e : IntKind.u64.wrap (IntKind.u64.wrap (v * 10) + (b - 48) % 256) = (10 * v + (b - 48)) % 18446744073709551616 := by rw [u64w, u64w]; omega
        rw [e]
        obtain ⟨r, hr1, hr2⟩ := ih ((10 * v + (b - 48)) % 18446744073709551616) (by omega) (by omega) (by omega) (by omega) (by omega)
        refine ⟨r, hr1, ?_⟩
        rw [hv_cons]
        rw [hv_mod] at hr2
        rcases hr2 with ⟨a1, a2⟩ | ⟨a1, a2⟩
        · exact .inl ⟨fun h => a1 (fun x hx => h x (by simp [hx])), a2⟩
        · exact .inr ⟨fun x hx => by
            rcases List.mem_cons.1 hx with rfl | hx
            · omega
            · exact a1 x hx, a2⟩

theorem refSigned_f (s : ByteArray) (k : Nat) (hk : 80 < k) : ∃ r, watershedref08_Signed.f k s = some r ∧ Sg (bytesOf s) r := by
  obtain ⟨k, rfl⟩ : ∃ m, k = m + 2 := ⟨k - 2, by omega⟩
  have hl := bytesOf_length s
  -- what is left behind the first test
  have tail : ∀ at_ : Int, (at_ = 1 ∧ ∃ t, bytesOf s = 45 :: t) ∨ (at_ = 0 ∧ ¬ ∃ t, bytesOf s = 45 :: t) → ∃ r, watershedref08_Signed.j1 (k + 1) s 0 at_ = some r ∧ Sg (bytesOf s) r := by
    intro at_ hat
    simp only [watershedref08_Signed.j1]
    by_cases c : (s.size : Int) > 20
    · rw [if_pos c]
      exact ⟨_, rfl, .inr ⟨fun m m0 m1 hm => by have := txt_length m0 m1; rw [hm, hl] at this; omega, rfl⟩⟩
    · rw [if_neg c]
      have hle : at_ ≤ s.size := by
        rcases hat with ⟨rfl, t, ht⟩ | ⟨rfl, _⟩
        · have := congrArg List.length ht; rw [hl] at this; simp at this; omega
        · omega
      have h0 : 0 ≤ at_ := by rcases hat with ⟨rfl, _⟩ | ⟨rfl, _⟩ <;> omega
      obtain ⟨r, hr1, hr2⟩ := refSigned_l0 s (by omega) at_ (s.size - at_.toNat) k at_ 0 h0 (by omega) (by omega) (by omega) (by omega)
      refine ⟨r, hr1, ?_⟩
      -- a number that has this word
      have key : ∀ m, -9223372036854775808 ≤ m → m < 9223372036854775808 → txt m = bytesOf s → Dg ((bytesOf s).drop at_.toNat) ∧ fin at_ (hv 0 ((bytesOf s).drop at_.toNat) % 18446744073709551616) = m := by
        intro m m0 m1 hm
        rcases hat with ⟨rfl, t, ht⟩ | ⟨rfl, hno⟩
        · rw [ht] at hm ⊢
          by_cases hn : m < 0
          · rw [txt_neg hn] at hm
            have e := (List.cons.inj hm).2
            have h1 := hv_dig (-m).toNat
            have h2 := (dig_props (-m).toNat).1
            rw [e] at h1 h2
            refine ⟨h2, ?_⟩
            show fin 1 (hv 0 t % _) = m
            rw [h1]
            unfold fin wrap64
            rw [if_pos rfl]
            omega
          · rw [txt_pos hn] at hm
            exact absurd hm (dig_head45 _ _)
        · by_cases hn : m < 0
          · rw [txt_neg hn] at hm
            exact absurd ⟨_, hm.symm⟩ hno
          · rw [txt_pos hn] at hm
            have h1 := hv_dig m.toNat
            have h2 := (dig_props m.toNat).1
            rw [hm] at h1 h2
            refine ⟨h2, ?_⟩
            show fin 0 (hv 0 (bytesOf s) % _) = m
            rw [h1]
            unfold fin wrap64
            rw [if_neg (by omega)]
            omega
      rcases hr2 with ⟨a1, a2⟩ | ⟨a1, ⟨a2, a3⟩ | ⟨a2, a3⟩⟩
      · exact .inr ⟨fun m m0 m1 hm => a1 (key m m0 m1 hm).1, a2⟩
      · exact .inl ⟨_, (fin_range _ _).1, (fin_range _ _).2, a2, a3⟩
      · exact .inr ⟨fun m m0 m1 hm => a2 (by rw [(key m m0 m1 hm).2]; exact hm), a3⟩
  unfold watershedref08_Signed.f
  by_cases c : (s.size : Int) > 0
  · rw [if_pos c, if_pos (by omega)]
    have hd := bytes_dropI (s := s) (i := 0) (by omega) (by omega)
    simp only [Int.toNat_zero, List.drop_zero] at hd
    simp only [watershedref08_Signed.j0]
    by_cases c2 : bt s 0 = 45
    · rw [if_pos (by simpa using c2)]
      exact tail 1 (.inl ⟨rfl, _, by rw [hd, c2]⟩)
    · rw [if_neg (by simpa using c2)]
      exact tail 0 (.inr ⟨rfl, fun ⟨t, ht⟩ => c2 (by rw [hd] at ht; exact (List.cons.inj ht).1)⟩)
  · rw [if_neg c]
    simp only [watershedref08_Signed.j0]
    rw [if_neg (by simp)]
    exact tail 0 (.inr ⟨rfl, fun ⟨t, ht⟩ => by have := congrArg List.length ht; rw [hl] at this; simp at this; omega⟩)

theorem WordsNumbers_pure (v : Int) (s : ByteArray) (low high : Int) (hv : -9223372036854775808 ≤ v ∧ v < 9223372036854775808) : watershedlaw08_WordsNumbers.f 10000 v s low high = some true := by
  unfold watershedlaw08_WordsNumbers.f
  by_cases c : (s.size : Int) > 5000
  · rw [if_pos c]
  · rw [if_neg c]
    obtain ⟨r, h1, g1⟩ := Signed_f s (by omega) 10000 (by omega)
    obtain ⟨r', h2, g2⟩ := refSigned_f s 10000 (by omega)
    obtain rfl := Sg_fun g1 g2
    have e : words_Int.f 10000 s low high = watershedref08_Int.f 10000 s low high := by unfold words_Int.f watershedref08_Int.f; rw [h1, h2]
    have hi : ∃ q, watershedref08_Int.f 10000 s low high = some q := by
      unfold watershedref08_Int.f
      rw [h2]
      simp only [Option.bind_some]
      split
      · split
        · exact ⟨_, rfl⟩
        · split <;> exact ⟨_, rfl⟩
      · exact ⟨_, rfl⟩
    obtain ⟨q, hq⟩ := hi
    rw [h1, h2, e, hq, words_Number_f v hv.1 hv.2, refNumber_f v hv.1 hv.2 10000 (by omega)]
    simp
end Go.Proofs.Ytmpgknemhmoboaa.P08
