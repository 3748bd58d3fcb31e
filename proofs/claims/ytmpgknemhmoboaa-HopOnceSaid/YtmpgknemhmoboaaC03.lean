import Derived.Test.YtmpgknemhmoboaaProg
import Derived.Test.YtmpgknemhmoboaaBase
import Derived.Test.YtmpgknemhmoboaaM03
import Derived.Test.YtmpgknemhmoboaaC02r
import Derived.WalkLawsBesides
/- Contracts of package crc and of the document's answer for it: check sums. -/
namespace Go.Proofs.Ytmpgknemhmoboaa.C03
set_option linter.unusedSimpArgs false
open Go.RowKit Go.Proofs.YtmpgknemhmoboaaW.PrintWords Go.Proofs.YtmpgknemhmoboaaW.PrintLast Go.Proofs.YtmpgknemhmoboaaW.PrintMore Go.Proofs.Ytmpgknemhmoboaa.M03 Go.Proofs.Ytmpgknemhmoboaa.Base

set_option maxHeartbeats 1000000 in
theorem crc_More (c : BitVec 32) (s : ByteArray) (w : World) (hs : s.size ≤ 9223372036854775807) :
    Calls Try.prog 70 #[.int .u32 c.toNat, .string s] w fun e w' => e = .returned (.int .u32 (more c (bytesOf s)).toNat) ∧ w = w' := by
  have HS := Aside0.mk hs
  clear hs
  have hsg : IntKind.u32.signed = false := rfl
  have HN := Aside0.mk (not_in c)
  have HN2 := Aside0.mk (fun d : BitVec 32 => not_in d)
  go_enter Try.func70, Try.ntmps70
  go_wp2
  go_loopg [0, 11] s.size (fun kq v0 v11 w' => ∃ (d : BitVec 32) (x : Int), v0 = .int .u32 d.toNat ∧ v11 = .int .i64 x ∧ Aside0 (0 ≤ x ∧ x + kq = s.size) ∧ Aside0 (go d ((bytesOf s).drop x.toNat) = go (~~~ c) (bytesOf s)) ∧ w = w')
  case atStart => exact ⟨~~~ c, 0, by rw [HN.out], rfl, ⟨by simp⟩, ⟨rfl⟩, rfl⟩
  case round =>
    obtain ⟨d, x, rfl, rfl, HK, HG, rfl⟩ := hrel
    obtain ⟨ko, hko⟩ : ∃ k, k = gk := ⟨_, rfl⟩
    rw [← hko] at HK
    have HKO := Aside0.mk hko
    clear hko
    by_cases cx : x < s.size
    · have cb : decide (x < (s.size : Int)) = true := decide_eq_true cx
      have hx0 : 0 ≤ x := HK.out.1
      have hat := bt_at s x
      have hbr := bt_range s x
      have HX := Aside0.mk (xor_byte d (b := bt s x) hbr.1 hbr.2)
      have hxm : x ≤ 9223372036854775806 := by have := HS.out; omega
      have HXM := Aside0.mk hxm
      have HD : Aside0 (go (B d (bt s x)) ((bytesOf s).drop (x.toNat + 1)) = go (~~~ c) (bytesOf s)) := ⟨by
        rw [← HG.out, C02.bytes_drop (s := s) (k := x.toNat) (by omega), show ((x.toNat : Nat) : Int) = x from by omega]; rfl⟩
      have HLT := Aside0.mk cx
      replace hx0 := eq_true hx0
      replace cx := eq_true cx
      clear hbr hxm
      go_wp2
      go_loopg [0, 20] 8 (fun kq v0 v20 w' => ∃ (e : BitVec 32) (y : Int), v0 = .int .u32 e.toNat ∧ v20 = .int .i64 y ∧ Aside0 (0 ≤ y ∧ y + kq = 8) ∧ Aside0 (Mn kq e = B d (bt s x)) ∧ w = w')
      case atStart => exact ⟨_, 0, by rw [HX.out], rfl, ⟨by simp⟩, ⟨rfl⟩, rfl⟩
      case round =>
        obtain ⟨e, y, rfl, rfl, HY, HM, rfl⟩ := hrel
        by_cases cy : y < 8
        · have cyb : decide (y < 8) = true := decide_eq_true cy
          have hy0 : 0 ≤ y := HY.out.1
          have HC := Aside0.mk (M_code e)
          have hlt := lt32 e
          cases gk with
          | zero => exact absurd HY.out.2 (by omega)
          | succ gk =>
            clear hat
            go_wp2
            go_roundg gk
            case measure => omega
            case rel =>
              have hk := HY.out
              exact ⟨M e, y + 1, by rw [← HC.out], rfl, ⟨by omega⟩, HM, rfl⟩
        · have cyb : decide (y < 8) = false := decide_eq_false cy
          have HE : Aside0 (e = B d (bt s x)) := ⟨by have hk := HY.out; obtain rfl : gk = 0 := by omega
                                                     exact HM.out⟩
          have hxl : 0 ≤ x := HK.out.1
          have hxm := HXM.out
          clear hat hx0
          go_wp2
          go_roundg (ko - 1)
          case measure => have := HK.out; have := HKO.out; have := HLT.out; omega
          case rel =>
            have hk := HK.out
            have hl := HLT.out
            exact ⟨e, x + 1, rfl, rfl, ⟨by omega⟩, ⟨by rw [HE.out, show (x + 1).toNat = x.toNat + 1 by omega]; exact HD.out⟩, rfl⟩
    · have cb : decide (x < (s.size : Int)) = false := decide_eq_false cx
      have HE : Aside0 (d = go (~~~ c) (bytesOf s)) := ⟨by rw [← HG.out, C02.bytes_end (by have := HK.out; omega)]; rfl⟩
      have HND := Aside0.mk (HN2.out d)
      clear cx
      go_wp2
      go_ret
      refine ⟨?_, rfl⟩
      unfold more
      rw [← HE.out, ← HND.out]
      rfl

set_option maxHeartbeats 1000000 in
theorem crc_Sum (s : ByteArray) (w : World) (hs : s.size ≤ 9223372036854775807) :
    Calls Try.prog 64 #[.string s] w fun e w' => e = .returned (.int .u32 (sumOf (bytesOf s)).toNat) ∧ w = w' := by
  go_enter Try.func64, Try.ntmps64
  go_wp2_with fail
  refine (crc_More 0 s _ hs).mono ?_
  rintro e w' ⟨rfl, rfl⟩
  go_wp2
  go_ret
  exact ⟨rfl, rfl⟩

set_option maxHeartbeats 1000000 in
theorem ref_More (c : BitVec 32) (s : ByteArray) (w : World) (hs : s.size ≤ 9223372036854775807) :
    Calls Try.prog 71 #[.int .u32 c.toNat, .string s] w fun e w' => e = .returned (.int .u32 (more c (bytesOf s)).toNat) ∧ w = w' := by
  have HS := Aside0.mk hs
  clear hs
  have hsg : IntKind.u32.signed = false := rfl
  have HN := Aside0.mk (not_in c)
  have HN2 := Aside0.mk (fun d : BitVec 32 => not_in d)
  go_enter Try.func71, Try.ntmps71
  go_wp2
  go_loopg [5, 6] s.size (fun kq v0 v11 w' => ∃ (d : BitVec 32) (x : Int), v0 = .int .u32 d.toNat ∧ v11 = .int .i64 x ∧ Aside0 (0 ≤ x ∧ x + kq = s.size) ∧ Aside0 (go d ((bytesOf s).drop x.toNat) = go (~~~ c) (bytesOf s)) ∧ w = w')
  case atStart => exact ⟨~~~ c, 0, by rw [HN.out], rfl, ⟨by simp⟩, ⟨rfl⟩, rfl⟩
  case round =>
    obtain ⟨d, x, rfl, rfl, HK, HG, rfl⟩ := hrel
    obtain ⟨ko, hko⟩ : ∃ k, k = gk := ⟨_, rfl⟩
    rw [← hko] at HK
    have HKO := Aside0.mk hko
    clear hko
    by_cases cx : x < s.size
    · have cb : decide (x < (s.size : Int)) = true := decide_eq_true cx
      have hx0 : 0 ≤ x := HK.out.1
      have hat := bt_at s x
      have hbr := bt_range s x
      have HX := Aside0.mk (xor_byte d (b := bt s x) hbr.1 hbr.2)
      have hxm : x ≤ 9223372036854775806 := by have := HS.out; omega
      have HXM := Aside0.mk hxm
      have HD : Aside0 (go (B d (bt s x)) ((bytesOf s).drop (x.toNat + 1)) = go (~~~ c) (bytesOf s)) := ⟨by
        rw [← HG.out, C02.bytes_drop (s := s) (k := x.toNat) (by omega), show ((x.toNat : Nat) : Int) = x from by omega]; rfl⟩
      have HLT := Aside0.mk cx
      replace hx0 := eq_true hx0
      replace cx := eq_true cx
      clear hbr hxm
      go_wp2
      go_loopg [5, 7] 8 (fun kq v0 v20 w' => ∃ (e : BitVec 32) (y : Int), v0 = .int .u32 e.toNat ∧ v20 = .int .i64 y ∧ Aside0 (0 ≤ y ∧ y + kq = 8) ∧ Aside0 (Mn kq e = B d (bt s x)) ∧ w = w')
      case atStart => exact ⟨_, 0, by rw [HX.out], rfl, ⟨by simp⟩, ⟨rfl⟩, rfl⟩
      case round =>
        obtain ⟨e, y, rfl, rfl, HY, HM, rfl⟩ := hrel
        by_cases cy : y < 8
        · have cyb : decide (y < 8) = true := decide_eq_true cy
          have hy0 : 0 ≤ y := HY.out.1
          have hlt := lt32 e
          cases gk with
          | zero => exact absurd HY.out.2 (by omega)
          | succ gk =>
            clear hat
            by_cases co : (e.toNat : Int) % 2 = 1
            · have cob : ((e.toNat : Int) % 2 == 1) = true := beq_iff_eq.mpr co
              have HC := Aside0.mk (M_odd e co)
              clear co
              go_wp2
              go_roundg gk
              case measure => omega
              case rel =>
                have hk := HY.out
                exact ⟨M e, y + 1, by rw [← HC.out], rfl, ⟨by omega⟩, HM, rfl⟩
            · have cob : ((e.toNat : Int) % 2 == 1) = false := beq_eq_false_iff_ne.mpr co
              have HC := Aside0.mk (M_even e co)
              clear co
              go_wp2
              go_roundg gk
              case measure => omega
              case rel =>
                have hk := HY.out
                exact ⟨M e, y + 1, by rw [← HC.out], rfl, ⟨by omega⟩, HM, rfl⟩
        · have cyb : decide (y < 8) = false := decide_eq_false cy
          have HE : Aside0 (e = B d (bt s x)) := ⟨by have hk := HY.out; obtain rfl : gk = 0 := by omega
                                                     exact HM.out⟩
          have hxl : 0 ≤ x := HK.out.1
          have hxm := HXM.out
          clear hat hx0
          go_wp2
          go_roundg (ko - 1)
          case measure => have := HK.out; have := HKO.out; have := HLT.out; omega
          case rel =>
            have hk := HK.out
            have hl := HLT.out
            exact ⟨e, x + 1, rfl, rfl, ⟨by omega⟩, ⟨by rw [HE.out, show (x + 1).toNat = x.toNat + 1 by omega]; exact HD.out⟩, rfl⟩
    · have cb : decide (x < (s.size : Int)) = false := decide_eq_false cx
      have HE : Aside0 (d = go (~~~ c) (bytesOf s)) := ⟨by rw [← HG.out, C02.bytes_end (by have := HK.out; omega)]; rfl⟩
      have HND := Aside0.mk (HN2.out d)
      clear cx
      go_wp2
      go_ret
      refine ⟨?_, rfl⟩
      unfold more
      rw [← HE.out, ← HND.out]
      rfl

set_option maxHeartbeats 1000000 in
theorem ref_Sum (s : ByteArray) (w : World) (hs : s.size ≤ 9223372036854775807) :
    Calls Try.prog 65 #[.string s] w fun e w' => e = .returned (.int .u32 (sumOf (bytesOf s)).toNat) ∧ w = w' := by
  go_enter Try.func65, Try.ntmps65
  go_wp2_with fail
  refine (ref_More 0 s _ hs).mono ?_
  rintro e w' ⟨rfl, rfl⟩
  go_wp2
  go_ret
  exact ⟨rfl, rfl⟩
end Go.Proofs.Ytmpgknemhmoboaa.C03
