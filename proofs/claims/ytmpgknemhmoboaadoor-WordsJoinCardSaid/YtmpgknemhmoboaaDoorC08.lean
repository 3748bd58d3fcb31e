import Derived.Test.YtmpgknemhmoboaaDoorProg
import Derived.Test.YtmpgknemhmoboaaDoorWMore
import Derived.Test.YtmpgknemhmoboaaDoorBase
import Derived.Test.YtmpgknemhmoboaaDoorOpen
import Derived.Deep.CutBlock
import Derived.Deep.DeepCutAuto
/- Contracts of package words and of the document's answer for it: what stands behind a name. -/
namespace Go.Proofs.YtmpgknemhmoboaaDoor.C08
open Go.RowKit Go.Proofs.YtmpgknemhmoboaaDoorW.PrintWords Go.Proofs.YtmpgknemhmoboaaDoorW.PrintLast Go.Proofs.YtmpgknemhmoboaaDoorW.PrintMore Go.Proofs.YtmpgknemhmoboaaDoor.Base

/-- Does a text begin with another one? -/
def hasP (s p : ByteArray) : Bool := decide (p.size ≤ s.size) && ((s.extract 0 p.size).toList == p.toList)

set_option maxHeartbeats 1000000 in
theorem lite_HasPrefix (s p : ByteArray) (w : World) :
    Calls Tryd.prog 27 #[.string s, .string p] w fun e w' => e = .returned (.bool (hasP s p)) ∧ w = w' := by
  by_cases c : p.size ≤ s.size
  · have c0 : decide ((p.size : Int) ≤ (s.size : Int)) = true := decide_eq_true (by omega)
    have c1 : decide (p.size ≤ s.size) = true := decide_eq_true c
    have HX : Aside0 (hasP s p = ((s.extract 0 p.size).toList == p.toList)) := ⟨by unfold hasP; rw [c1]; rfl⟩
    go_enter Tryd.func27, Tryd.ntmps27
    go_wp2
    go_ret
    exact ⟨by rw [HX.out]; rfl, rfl⟩
  · have c0 : decide ((p.size : Int) ≤ (s.size : Int)) = false := decide_eq_false (by omega)
    have c1 : decide (p.size ≤ s.size) = false := decide_eq_false c
    have HX : Aside0 (hasP s p = false) := ⟨by unfold hasP; rw [c1]; rfl⟩
    clear c
    go_enter Tryd.func27, Tryd.ntmps27
    go_wp2
    go_ret
    exact ⟨by rw [HX.out]; rfl, rfl⟩

/-- What is left behind a beginning. -/
def cutP (s p : ByteArray) : ByteArray := if hasP s p then s.extract p.size s.size else s

set_option maxHeartbeats 1000000 in
theorem lite_CutPrefix (s p : ByteArray) (w : World) :
    Calls Tryd.prog 28 #[.string s, .string p] w fun e w' => e = .returned (.tuple #[.string (cutP s p), .bool (hasP s p)]) ∧ w = w' := by
  cases h : hasP s p with
  | true =>
    have HX : Aside0 (cutP s p = s.extract p.size s.size) := ⟨by unfold cutP; rw [h]; rfl⟩
    have hle : p.size ≤ s.size := by unfold hasP at h; simp at h; exact h.1
    go_enter Tryd.func28, Tryd.ntmps28
    go_wp2_with fail
    refine (lite_HasPrefix _ _ _).mono ?_
    rintro e w1 ⟨rfl, rfl⟩
    rw [h]
    go_wp2
    go_ret2
    exact ⟨by rw [HX.out]; rfl, rfl⟩
  | false =>
    have HX : Aside0 (cutP s p = s) := ⟨by unfold cutP; rw [h]; rfl⟩
    go_enter Tryd.func28, Tryd.ntmps28
    go_wp2_with fail
    refine (lite_HasPrefix _ _ _).mono ?_
    rintro e w1 ⟨rfl, rfl⟩
    rw [h]
    go_wp2
    go_ret2
    exact ⟨by rw [HX.out]; rfl, rfl⟩

set_option maxHeartbeats 1000000 in
theorem str_CutPrefix (s p : ByteArray) (w : World) :
    Calls Tryd.prog 23 #[.string s, .string p] w fun e w' => e = .returned (.tuple #[.string (cutP s p), .bool (hasP s p)]) ∧ w = w' := by
  go_enter Tryd.func23, Tryd.ntmps23
  go_wp2_with fail
  refine (lite_CutPrefix _ _ _).mono ?_
  rintro e w1 ⟨rfl, rfl⟩
  go_wp2
  go_ret2
  exact ⟨rfl, rfl⟩

/-- The first text that begins so, without its beginning. -/
def opt (p : ByteArray) : List ByteArray → ByteArray × Bool
  | [] => (ByteArray.empty, false)
  | s :: r => if hasP s p then (cutP s p, true) else opt p r

theorem drop_at (xs : List ByteArray) (x : Int) (h0 : 0 ≤ x) (h1 : x < xs.length) : xs.drop x.toNat = xs.getD x.toNat ByteArray.empty :: xs.drop (x.toNat + 1) := by
  rw [List.drop_eq_getElem_cons (by omega), List.getD_eq_getElem?_getD, List.getElem?_eq_getElem (by omega)]
  rfl

set_option maxHeartbeats 2000000 in
theorem words_Option (xs : List ByteArray) (A : Option Addr) (c : Nat) (n : ByteArray) (w : World) (hx : xs.length ≤ c ∧ Kd.C Kd.string w A xs.length xs ∧ xs.length ≤ 1000000) (hn : n.size ≤ 1000000) :
    Calls Tryd.prog 22 #[.slice A xs.length c, .string n] w fun e w' => e = .returned (.tuple #[.string (opt (n ++ ⟨#[61]⟩) xs).1, .bool (opt (n ++ ⟨#[61]⟩) xs).2]) ∧ w = w' := by
  have HX := Aside0.mk hx
  clear hx
  go_enter Tryd.func22, Tryd.ntmps22
  go_wp2
  go_loopg [12] (xs.length + 1) (fun kq v12 W' => ∃ x : Int, v12 = .int .i64 x ∧ Aside0 (0 ≤ x ∧ x ≤ xs.length ∧ x + kq = xs.length + 1) ∧ Aside0 (opt (n ++ ⟨#[61]⟩) (xs.drop x.toNat) = opt (n ++ ⟨#[61]⟩) xs) ∧ w = W')
  case atStart => exact ⟨0, rfl, ⟨by omega⟩, ⟨rfl⟩, rfl⟩
  case round =>
    obtain ⟨x, rfl, HK, HO, rfl⟩ := hrel
    by_cases c1 : x < xs.length
    · have cb1 : decide (x < (xs.length : Int)) = true := decide_eq_true c1
      have hx0 : 0 ≤ x := HK.out.1
      obtain ⟨ad, rfl, h0⟩ := Open.at_text HX.out.2.1 x hx0 c1
      have HD := Aside0.mk (drop_at xs x hx0 c1)
      obtain ⟨s, hs⟩ : ∃ s, s = xs.getD x.toNat ByteArray.empty := ⟨_, rfl⟩
      rw [← hs] at h0 HD
      have hlt := eq_true c1
      have hxl : x ≤ 1000000 := by have := HX.out.2.2; omega
      clear hs c1
      go_wp2_with fail
      refine (str_CutPrefix _ _ _).mono ?_
      rintro e w1 ⟨rfl, rfl⟩
      cases h : hasP s (n ++ ⟨#[61]⟩) with
      | true =>
        have HE : Aside0 (opt (n ++ ⟨#[61]⟩) xs = (cutP s (n ++ ⟨#[61]⟩), true)) := ⟨by rw [← HO.out, HD.out, opt, h]; rfl⟩
        go_wp2
        go_ret2
        exact ⟨by rw [HE.out]; rfl, rfl⟩
      | false =>
        have HE : Aside0 (opt (n ++ ⟨#[61]⟩) (xs.drop (x.toNat + 1)) = opt (n ++ ⟨#[61]⟩) xs) := ⟨by rw [← HO.out, HD.out, opt, h]; rfl⟩
        go_wp2
        go_roundg (gk - 1)
        case measure => have := HK.out; omega
        case rel => exact ⟨x + 1, rfl, ⟨by have := HK.out; have := of_eq_true hlt; omega⟩, ⟨by rw [show (x + 1).toNat = x.toNat + 1 from by omega]; exact HE.out⟩, rfl⟩
    · have cb1 : decide (x < (xs.length : Int)) = false := decide_eq_false c1
      have HE : Aside0 (opt (n ++ ⟨#[61]⟩) xs = (ByteArray.empty, false)) := ⟨by rw [← HO.out, List.drop_eq_nil_of_le (by omega)]; rfl⟩
      clear c1
      go_wp2
      go_ret2
      exact ⟨by rw [HE.out]; rfl, rfl⟩

theorem hasP_eq (s n : ByteArray) : hasP s (n ++ ⟨#[61]⟩) = (decide (n.size < s.size) && ((s.extract 0 n.size).toList == n.toList) && (bt s n.size == 61)) := by
  unfold hasP
  have hk : (n ++ ⟨#[61]⟩).size = n.size + 1 := by rw [ByteArray.size_append]; rfl
  have e2 : (n ++ ⟨#[61]⟩).toList = n.toList ++ [61] := by rw [ByteArray.toList_eq, ByteArray.toList_eq, ByteArray.data_append, Array.toList_append]
  rw [hk, e2]
  by_cases h : n.size < s.size
  · have h' : n.size < s.data.toList.length := by simpa using h
    have e1 : (s.extract 0 (n.size + 1)).toList = (s.extract 0 n.size).toList ++ [s[n.size]'h] := by
      rw [ByteArray.toList_eq, ByteArray.toList_eq, ByteArray.data_extract, ByteArray.data_extract, Array.toList_extract, Array.toList_extract]
      simp only [List.extract, List.drop_zero, Nat.sub_zero]
      rw [List.take_succ_eq_append_getElem h']
      rfl
    have hb : bt s n.size = ((s[n.size]'h).toNat : Int) := (bt_at s (n.size : Int) h).symm
    have hl : (s.extract 0 n.size).toList.length = n.toList.length := by
      rw [ByteArray.toList_eq, ByteArray.toList_eq]
      simp [ByteArray.data_extract]
      have : s.data.size = s.size := rfl
      have : n.data.size = n.size := rfl
      omega
    have hu : ((s[n.size]'h).toNat : Int) = 61 ↔ s[n.size]'h = 61 := ⟨fun k => UInt8.toNat_inj.1 (by have : (61 : UInt8).toNat = 61 := rfl; omega), fun k => by rw [k]; rfl⟩
    rw [e1, hb, Bool.eq_iff_iff]
    simp only [Bool.and_eq_true, decide_eq_true_eq, beq_iff_eq, hu]
    constructor
    · rintro ⟨_, k⟩
      obtain ⟨k1, k2⟩ := List.append_inj k hl
      exact ⟨⟨h, k1⟩, by simpa using k2⟩
    · rintro ⟨⟨_, k1⟩, k2⟩
      exact ⟨by omega, by rw [k1, k2]⟩
  · rw [decide_eq_false h, decide_eq_false (by omega)]
    rfl

theorem cutP_eq (s n : ByteArray) (h : hasP s (n ++ ⟨#[61]⟩) = true) : cutP s (n ++ ⟨#[61]⟩) = s.extract (n.size + 1) s.size := by
  unfold cutP
  rw [if_pos h, ByteArray.size_append]
  rfl
end Go.Proofs.YtmpgknemhmoboaaDoor.C08
