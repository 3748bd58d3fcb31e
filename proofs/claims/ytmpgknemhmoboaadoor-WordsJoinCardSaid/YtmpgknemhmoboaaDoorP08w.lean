import Derived.Test.YtmpgknemhmoboaaDoorQ08wx
import Derived.Test.YtmpgknemhmoboaaDoorP08c
import Derived.Test.YtmpgknemhmoboaaDoorPl
import Derived.Test.YtmpgknemhmoboaaDoorM08
/- Plain: what number a word says, and that chapter 8 works. -/
namespace Go.Proofs.YtmpgknemhmoboaaDoor.P08w
set_option linter.unusedSimpArgs false
open Go.RowKit Go.Proofs.YtmpgknemhmoboaaDoorW.PrintWords Go.Proofs.YtmpgknemhmoboaaDoorW.PrintLast Go.Proofs.YtmpgknemhmoboaaDoorW.PrintMore Go.Proofs.YtmpgknemhmoboaaDoor.Q08w Go.Proofs.YtmpgknemhmoboaaDoor.Pl Go.Proofs.YtmpgknemhmoboaaDoor.M08 Go.Proofs.YtmpgknemhmoboaaDoor.Ext

/-- Does a text begin with another one? -/
def hasB (s p : ByteArray) : Bool := decide (p.size ≤ s.size) && ((s.extract 0 p.size).toList == p.toList)
/-- What is left behind a beginning. -/
def cutB (s p : ByteArray) : ByteArray := if hasB s p then s.extract p.size s.size else s
theorem HasPrefix_b (s p : ByteArray) : stringslite_HasPrefix.f s p = some (hasB s p) := by
  unfold stringslite_HasPrefix.f Q08c.stringslite_HasPrefix.f hasB
  by_cases c : p.size ≤ s.size
  · rw [if_pos (by omega), if_pos (by omega), if_pos (by omega)]; simp [c]
  · rw [if_neg (by omega)]; simp [c]
theorem CutPrefix_b (s p : ByteArray) : strings_CutPrefix.f s p = some (cutB s p, hasB s p) := by
  unfold strings_CutPrefix.f stringslite_CutPrefix.f
  rw [HasPrefix_b]
  simp only [Option.bind_some]
  unfold cutB
  cases h : hasB s p with
  | true =>
    have hle : p.size ≤ s.size := by unfold hasB at h; simp at h; exact h.1
    rw [if_pos rfl, if_pos (by omega), if_pos (by omega)]
    simp
  | false => simp
theorem hasB_iff (s p : ByteArray) : hasB s p = true ↔ ∃ t, bytesOf s = bytesOf p ++ t := by
  unfold hasB
  rw [Bool.and_eq_true, decide_eq_true_eq, beq_iff_eq, toList_bytes, bytesOf_extract]
  constructor
  · rintro ⟨h1, h2⟩
    refine ⟨(bytesOf s).drop p.size, ?_⟩
    rw [← h2, List.drop_zero, List.take_append_drop]
  · rintro ⟨t, h⟩
    have hl : s.size = p.size + t.length := by have := congrArg List.length h; simpa [bytesOf_length] using this
    refine ⟨by omega, ?_⟩
    rw [h, List.drop_zero, ← bytesOf_length p, List.take_left]
theorem cutB_bytes {s p : ByteArray} {t : List Int} (h : bytesOf s = bytesOf p ++ t) : bytesOf (cutB s p) = t := by
  unfold cutB
  rw [if_pos ((hasB_iff s p).2 ⟨t, h⟩), bytesOf_extract, List.take_of_length_le (by rw [bytesOf_length]; exact Nat.le_refl _), h, ← bytesOf_length p, List.drop_left]

theorem digit_f (c : Int) : words_digit.f c = some (decide (48 ≤ c ∧ c ≤ 57)) := by
  unfold words_digit.f
  by_cases h : c ≥ 48
  · rw [if_pos h]; simp [h]
  · rw [if_neg h, decide_eq_false (by omega)]

theorem natural_l0 (s : ByteArray) (most : Int) (hm : 9223372036854775807 ≤ most ∧ most ≤ 9223372036854775808) (hs : s.size ≤ 5000) : ∀ (d : Nat) (k : Nat) (i n : Int), 0 ≤ i → i + d = s.size → d < k → 0 ≤ n → n ≤ most →
    ∃ r, words_natural.l0 k s most n s.size i = some r ∧ ((Dg ((bytesOf s).drop i.toNat) ∧ hv n ((bytesOf s).drop i.toNat) ≤ most ∧ r = (hv n ((bytesOf s).drop i.toNat), true)) ∨ (¬ (Dg ((bytesOf s).drop i.toNat) ∧ hv n ((bytesOf s).drop i.toNat) ≤ most) ∧ r = (0, false)))
  | 0, k, i, n, h0, hd, hk, hn, hn1 => by
    obtain ⟨k, rfl⟩ : ∃ m, k = m + 1 := ⟨k - 1, by omega⟩
    refine ⟨(n, true), ?_, .inl ?_⟩
    · simp only [words_natural.l0]
      rw [if_neg (by omega)]
    · rw [bytes_end (by omega)]
      exact ⟨fun d hd => by simp at hd, hn1, rfl⟩
  | d + 1, k, i, n, h0, hd, hk, hn, hn1 => by
    obtain ⟨k, rfl⟩ : ∃ m, k = m + 1 := ⟨k - 1, by omega⟩
    have hb := bytes_dropI (s := s) (i := i) h0 (by omega)
    rw [hb]
    have hr := bt_range s i
    have ih := natural_l0 s most hm hs d k (i + 1)
    simp only [words_natural.l0]
    rw [if_pos (by omega), if_pos (by omega), if_pos (by omega), digit_f, w64 (x := i + 1) (by omega) (by omega)]
    simp only [Option.bind_some]
    generalize bt s i = b at *
    generalize (bytesOf s).drop (i + 1).toNat = rest at *
    by_cases c1 : 48 ≤ b ∧ b ≤ 57
    · rw [if_pos (by simpa using c1), u64w (Int.tdiv most 10), Int.tdiv_eq_ediv_of_nonneg (by omega), show (b - 48) % 256 = b - 48 from by omega, u64_id (n := most - (b - 48)) (by omega) (by omega)]
      by_cases c2 : n > most / 10 % 18446744073709551616
      · rw [if_pos c2]
        refine ⟨_, rfl, .inr ⟨fun ⟨h1, h2⟩ => ?_, rfl⟩⟩
        have := hv_mono (l := rest) (fun x hx => h1 x (by simp [hx])) (10 * n + (b - 48)) (by omega)
        rw [hv_cons] at h2
        omega
      · rw [if_neg c2, u64_id (n := 10 * n) (by omega) (by omega)]
        by_cases c3 : 10 * n > most - (b - 48)
        · rw [if_pos c3]
          refine ⟨_, rfl, .inr ⟨fun ⟨h1, h2⟩ => ?_, rfl⟩⟩
          have := hv_mono (l := rest) (fun x hx => h1 x (by simp [hx])) (10 * n + (b - 48)) (by omega)
          rw [hv_cons] at h2
          omega
        · rw [if_neg c3, u64_id (n := 10 * n + (b - 48)) (by omega) (by omega)]
          obtain ⟨r, hr1, hr2⟩ := ih (10 * n + (b - 48)) (by omega) (by omega) (by omega) (by omega) (by omega)
          refine ⟨r, hr1, ?_⟩
          rw [hv_cons]
          rcases hr2 with ⟨a1, a2, a3⟩ | ⟨a1, a2⟩
          · exact .inl ⟨fun x hx => by rcases List.mem_cons.1 hx with rfl | hx; exact c1; exact a1 x hx, a2, a3⟩
          · exact .inr ⟨fun ⟨h1, h2⟩ => a1 ⟨fun x hx => h1 x (by simp [hx]), h2⟩, a2⟩
    · rw [if_neg (by simpa using c1)]
      exact ⟨_, rfl, .inr ⟨fun ⟨h1, _⟩ => c1 (h1 b (by simp)), rfl⟩⟩

theorem natural_f (s : ByteArray) (most : Int) (hm : 9223372036854775807 ≤ most ∧ most ≤ 9223372036854775808) (hs : s.size ≤ 5000) (k : Nat) (hk : s.size + 2 < k) :
    ∃ r, words_natural.f k s most = some r ∧ ((Cano (bytesOf s) ∧ hv 0 (bytesOf s) ≤ most ∧ r = (hv 0 (bytesOf s), true)) ∨ (¬ (Cano (bytesOf s) ∧ hv 0 (bytesOf s) ≤ most) ∧ r = (0, false))) := by
  obtain ⟨k, rfl⟩ : ∃ m, k = m + 1 := ⟨k - 1, by omega⟩
  unfold words_natural.f
  by_cases c0 : s.toList = []
  · rw [if_pos c0]
    exact ⟨_, rfl, .inr ⟨fun ⟨h, _⟩ => h.1 (toList_nil.1 c0), rfl⟩⟩
  · rw [if_neg c0]
    have hne : bytesOf s ≠ [] := fun h => c0 (toList_nil.2 h)
    have hl := bytesOf_length s
    have hpos : 0 < s.size := by rw [← hl]; exact List.length_pos_iff.2 hne
    have main : ∃ r, words_natural.j0 (k + 1) s most 0 false = some r ∧ ((Dg (bytesOf s) ∧ hv 0 (bytesOf s) ≤ most ∧ r = (hv 0 (bytesOf s), true)) ∨ (¬ (Dg (bytesOf s) ∧ hv 0 (bytesOf s) ≤ most) ∧ r = (0, false))) := by
      simp only [words_natural.j0]
      rw [if_neg (by simp)]
      have := natural_l0 s most hm hs s.size k 0 0 (by omega) (by omega) (by omega) (by omega) (by omega)
      simpa using this
    have h0 : (bytesOf s).head? = some (bt s 0) := by
      have := bytes_dropI (s := s) (i := 0) (by omega) (by omega)
      simp only [Int.toNat_zero, List.drop_zero] at this
      rw [this]; rfl
    by_cases c1 : (s.size : Int) > 1
    · rw [if_pos c1, if_pos (by omega)]
      by_cases c2 : bt s 0 = 48
      · refine ⟨(0, false), ?_, .inr ⟨fun ⟨h, _⟩ => ?_, rfl⟩⟩
        · rw [c2]; simp [words_natural.j0]
        · exact h.2.2 (by omega) (by rw [h0, c2])
      · rw [show (bt s 0 == 48) = false from by simp [c2]]
        obtain ⟨r, hr1, hr2⟩ := main
        refine ⟨r, hr1, ?_⟩
        rcases hr2 with ⟨a1, a2, a3⟩ | ⟨a1, a2⟩
        · exact .inl ⟨⟨hne, a1, fun _ => by rw [h0]; simpa using c2⟩, a2, a3⟩
        · exact .inr ⟨fun ⟨h1, h2⟩ => a1 ⟨h1.2.1, h2⟩, a2⟩
    · rw [if_neg c1]
      obtain ⟨r, hr1, hr2⟩ := main
      refine ⟨r, hr1, ?_⟩
      rcases hr2 with ⟨a1, a2, a3⟩ | ⟨a1, a2⟩
      · exact .inl ⟨⟨hne, a1, fun h => by omega⟩, a2, a3⟩
      · exact .inr ⟨fun ⟨h1, h2⟩ => a1 ⟨h1.2.1, h2⟩, a2⟩

theorem minus_bytes : bytesOf (⟨#[45]⟩ : ByteArray) = [45] := rfl

theorem Signed_f (s : ByteArray) (hs : s.size ≤ 5000) (k : Nat) (hk : s.size + 5 < k) : ∃ r, words_Signed.f k s = some r ∧ Sg (bytesOf s) r := by
  obtain ⟨k, rfl⟩ : ∃ m, k = m + 2 := ⟨k - 2, by omega⟩
  unfold words_Signed.f
  rw [CutPrefix_b]
  simp only [Option.bind_some]
  by_cases c : ∃ t, bytesOf s = 45 :: t
  · obtain ⟨t, ht⟩ := c
    have hb : hasB s ⟨#[45]⟩ = true := (hasB_iff _ _).2 ⟨t, ht⟩
    have hc := cutB_bytes (s := s) (p := ⟨#[45]⟩) (t := t) ht
    have hz : (cutB s ⟨#[45]⟩).size + 1 = s.size := by rw [← bytesOf_length, ← bytesOf_length, hc, ht]; rfl
    rw [hb, if_pos rfl]
    simp only [words_Signed.j0]
    obtain ⟨r, hr, hr2⟩ := natural_f (cutB s ⟨#[45]⟩) (9223372036854775807 + 1) (by omega) (by omega) (k + 1) (by omega)
    rw [hr]
    simp only [Option.bind_some]
    rw [hc] at hr2
    rcases hr2 with ⟨a1, a2, rfl⟩ | ⟨a1, rfl⟩
    · simp only [if_true]
      by_cases hz0 : hv 0 t = 0
      · refine ⟨(0, 6), by rw [hz0]; simp [words_Signed.j1], .inr ⟨fun m m0 m1 hm => ?_, rfl⟩⟩
        rw [ht] at hm
        by_cases hn : m < 0
        · rw [txt_neg hn] at hm
          have := hv_dig (-m).toNat
          rw [(List.cons.inj hm).2] at this
          omega
        · rw [txt_pos hn] at hm
          exact dig_head45 _ _ hm
      · have hp : 0 ≤ hv 0 t := hv_mono a1.2.1 0 (by omega)
        refine ⟨(-hv 0 t, 0), ?_, .inl ⟨-hv 0 t, by omega, by omega, ?_, rfl⟩⟩
        · simp only [if_true, eq_self, words_Signed.j1, show (hv 0 t == 0) = false from by simp [hz0], Bool.false_eq_true, if_false]
          congr 2
          rw [u64w]
          unfold wrap64
          omega
        · rw [txt_neg (by omega), ht]
          congr 1
          have := dig_hv t.length t rfl a1
          rwa [show (- -hv 0 t).toNat = (hv 0 t).toNat from by omega]
    · refine ⟨(0, 6), by simp [words_Signed.j1], .inr ⟨fun m m0 m1 hm => ?_, rfl⟩⟩
      rw [ht] at hm
      by_cases hn : m < 0
      · rw [txt_neg hn] at hm
        have e := (List.cons.inj hm).2
        have := hv_dig (-m).toNat
        have hcan := can_dig (-m).toNat
        rw [e] at this hcan
        exact a1 ⟨hcan, by omega⟩
      · rw [txt_pos hn] at hm
        exact dig_head45 _ _ hm
  · have hb : hasB s ⟨#[45]⟩ = false := by
      cases h : hasB s ⟨#[45]⟩ with
      | false => rfl
      | true => obtain ⟨t, ht⟩ := (hasB_iff _ _).1 h; exact absurd ⟨t, ht⟩ c
    have hc : cutB s ⟨#[45]⟩ = s := by unfold cutB; rw [hb]; rfl
    rw [hb, hc, if_neg (by simp)]
    simp only [words_Signed.j0]
    obtain ⟨r, hr, hr2⟩ := natural_f s 9223372036854775807 (by omega) (by omega) (k + 1) (by omega)
    rw [hr]
    simp only [Option.bind_some]
    rcases hr2 with ⟨a1, a2, rfl⟩ | ⟨a1, rfl⟩
    · have hp : 0 ≤ hv 0 (bytesOf s) := hv_mono a1.2.1 0 (by omega)
      refine ⟨(hv 0 (bytesOf s), 0), ?_, .inl ⟨hv 0 (bytesOf s), by omega, by omega, ?_, rfl⟩⟩
      · simp only [if_true, eq_self, words_Signed.j1, Bool.false_eq_true, if_false]
        rw [w64 (by omega) (by omega)]
      · rw [txt_pos (by omega)]
        exact dig_hv _ _ rfl a1
    · refine ⟨(0, 6), by simp [words_Signed.j1], .inr ⟨fun m m0 m1 hm => ?_, rfl⟩⟩
      by_cases hn : m < 0
      · rw [txt_neg hn] at hm
        exact c ⟨_, hm.symm⟩
      · rw [txt_pos hn] at hm
        have := hv_dig m.toNat
        have hcan := can_dig m.toNat
        rw [hm] at this hcan
        exact a1 ⟨hcan, by omega⟩
/-! Chapter 8 works. -/
theorem split_ex (s : ByteArray) (hs : s.size ≤ 5000) (L : List ByteArray) (h : P08c.wsp (P08c.sp 32 (bytesOf s)) = L.map bytesOf) : words_Split.f s = some L := by
  obtain ⟨X, x1, x2⟩ := P08c.Split_f s (by omega) 200000 (by omega)
  obtain rfl : X = L := P08c.list_inj X L (by rw [x2, h])
  exact x1
theorem lines_ex (s : ByteArray) (hs : s.size ≤ 5000) (L : List ByteArray) (h : P08c.lin [] (bytesOf s) = L.map bytesOf) : words_Lines.f s = some L := by
  obtain ⟨X, x1, x2⟩ := P08c.Lines_f s (by omega)
  obtain rfl : X = L := P08c.list_inj X L (by rw [x2, h])
  exact x1
theorem same_ex (L : List ByteArray) (h : L.length ≤ 100000) : watershedref08_Same.f L L = some true := P08c.Same_f L h 200000 (by omega)
theorem works_pure : watershedlaw08_works.f 10000 = some true := by
  unfold watershedlaw08_works.f
  have a1 : words_Int.f 10000 ⟨#[55]⟩ 0 9 = some (7, 0) := by kernel_rfl
  have a2 : words_Int.f 10000 ⟨#[48, 55]⟩ 0 9 = some (0, 6) := by kernel_rfl
  have a3 : words_Int.f 10000 ⟨#[49, 48]⟩ 0 9 = some (0, 1) := by kernel_rfl
  have a4 : words_Option.f [⟨#[97]⟩, ⟨#[107, 61, 118]⟩] ⟨#[107]⟩ = some (⟨#[118]⟩, true) := by kernel_rfl
  have a5 : words_Split.f ⟨#[97, 32, 32, 98, 32, 35, 99]⟩ = some [⟨#[97]⟩, ⟨#[98]⟩] := split_ex _ (by decide) _ (by kernel_rfl)
  have a6 : words_Lines.f ⟨#[97, 10, 10, 98, 10]⟩ = some [⟨#[97]⟩, ⟨#[]⟩, ⟨#[98]⟩] := lines_ex _ (by decide) _ (by kernel_rfl)
  have a7 := same_ex [⟨#[97]⟩, ⟨#[98]⟩] (by decide)
  have a8 := same_ex [⟨#[97]⟩, ⟨#[]⟩, ⟨#[98]⟩] (by decide)
  have a9 : words_Name.f ⟨#[97, 49]⟩ = some true := by kernel_rfl
  have a10 : words_Name.f ⟨#[49, 97]⟩ = some false := by kernel_rfl
  have a11 : words_Number.f (-5) = some ⟨#[45, 53]⟩ := by
    rw [words_Number_f _ (by omega) (by omega), txt_neg (by omega), show (-(-5 : Int)).toNat = 5 from rfl, dig_lt (by omega)]
    rfl
  have t1 : (⟨#[118]⟩ : ByteArray).toList = [118] := by kernel_rfl
  have t2 : (⟨#[45, 53]⟩ : ByteArray).toList = [45, 53] := by kernel_rfl
  simp [a1, a2, a3, a4, a5, a6, a7, a8, a9, a10, a11, t1, t2]
end Go.Proofs.YtmpgknemhmoboaaDoor.P08w
