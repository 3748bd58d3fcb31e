import Derived.Test.YtmpgknemhmoboaaBase
import Derived.Test.YtmpgknemhmoboaaC02
/- Contracts of the readers of bytes: package code's, and the document's answer's. -/
namespace Go.Proofs.Ytmpgknemhmoboaa.C02
open Go.RowKit Go.Proofs.YtmpgknemhmoboaaW.PrintWords Go.Proofs.YtmpgknemhmoboaaW.PrintLast Go.Proofs.YtmpgknemhmoboaaW.PrintMore Go.Proofs.Ytmpgknemhmoboaa.M02 Go.Proofs.Ytmpgknemhmoboaa.Base

theorem bytes_drop {s : ByteArray} {k : Nat} (h : k < s.size) : (bytesOf s).drop k = bt s k :: (bytesOf s).drop (k + 1) := by
  rw [List.drop_eq_getElem_cons (by rw [bytesOf_length]; exact h)]
  congr 1
  rw [← rd_bytesOf]
  unfold rd
  rw [List.getD_eq_getElem?_getD, List.getElem?_eq_getElem (by rw [bytesOf_length]; simpa using h)]
  simp
theorem bytes_end {s : ByteArray} {k : Nat} (h : s.size ≤ k) : (bytesOf s).drop k = [] := List.drop_eq_nil_of_le (by rw [bytesOf_length]; exact h)

set_option maxHeartbeats 1000000 in
theorem code_number (s : ByteArray) (w : World) (hs : s.size ≤ 9223372036854775807) :
    Calls Try.prog 72 #[.string s] w fun e w' => e = .returned (.tuple #[.int .u64 (numL 0 0 (bytesOf s)).1, .int .i64 (numL 0 0 (bytesOf s)).2.1, .int .i64 (numL 0 0 (bytesOf s)).2.2]) ∧ Below w.heap.size w w' := by
  have HB := Aside0.mk (Below.refl w.heap.size w)
  go_enter Try.func72, Try.ntmps72
  go_wp2
  go_loopg [2, 3] (s.size + 1) (fun kq v2 v3 w' => ∃ (v x : Int), v2 = .int .u64 v ∧ v3 = .int .i64 x ∧ Aside0 (0 ≤ x ∧ x ≤ 9 ∧ x ≤ s.size ∧ x + kq = s.size + 1) ∧ Aside0 (0 ≤ v ∧ v < 128 ^ x.toNat) ∧ Aside0 (numL x.toNat v ((bytesOf s).drop x.toNat) = numL 0 0 (bytesOf s)) ∧ Aside0 (Below w.heap.size w w'))
  case atStart => exact ⟨0, 0, rfl, rfl, ⟨by simp⟩, ⟨by simp⟩, ⟨by simp⟩, HB⟩
  case round =>
    clear HB
    obtain ⟨v, x, rfl, rfl, HK, HV, HE, HB⟩ := hrel
    by_cases c : x = s.size
    · have c0 : (x == (s.size : Int)) = true := by simp; omega
      have HL : Aside0 (numL 0 0 (bytesOf s) = (0, 0, 11)) := ⟨by rw [← HE.out, bytes_end (by omega)]; rfl⟩
      clear c
      go_wp2
      go_ret3
      rw [HL.out]
      exact ⟨rfl, HB.out⟩
    · have c0 : (x == (s.size : Int)) = false := by simp; omega
      have hx0 : 0 ≤ x := HK.out.1
      have hlt : x < s.size := by have := HK.out; omega
      have HD : Aside0 ((bytesOf s).drop x.toNat = bt s x :: (bytesOf s).drop (x.toNat + 1)) := ⟨by rw [bytes_drop (by omega)]; congr 2; omega⟩
      have hat := bt_at s x
      have HR := Aside0.mk (bt_range s x)
      have HLT := Aside0.mk hlt
      replace hx0 := eq_true hx0
      replace hlt := eq_true hlt
      clear c
      go_upto_region 4 with (fail)
      go_cut [26] (fun v26 wc => v26 = .bool (decide ((x = 9 ∧ bt s x > 1) ∨ (x > 0 ∧ bt s x = 0))) ∧ wc = wr)
      case first =>
        by_cases c9 : x = 9
        · have c9b : (x == 9) = true := beq_iff_eq.mpr c9
          have cx : decide (0 < x) = true := decide_eq_true (by omega)
          by_cases c1 : bt s x > 1
          · have c1b : decide (1 < bt s x) = true := decide_eq_true c1
            have HX : Aside0 (decide ((x = 9 ∧ bt s x > 1) ∨ (x > 0 ∧ bt s x = 0)) = true) := ⟨by simp; omega⟩
            clear c1 c9
            go_wp2
            go_meet
            case rel => exact ⟨by rw [HX.out], rfl⟩
          · have c1b : decide (1 < bt s x) = false := decide_eq_false c1
            have HX : Aside0 (decide ((x = 9 ∧ bt s x > 1) ∨ (x > 0 ∧ bt s x = 0)) = (bt s x == 0)) := ⟨by rw [Bool.eq_iff_iff]; simp; omega⟩
            clear c1 c9
            go_wp2
            go_meet
            case rel => exact ⟨by rw [HX.out], rfl⟩
        · have c9b : (x == 9) = false := beq_eq_false_iff_ne.mpr c9
          by_cases cx : x > 0
          · have cxb : decide (0 < x) = true := decide_eq_true cx
            have HX : Aside0 (decide ((x = 9 ∧ bt s x > 1) ∨ (x > 0 ∧ bt s x = 0)) = (bt s x == 0)) := ⟨by rw [Bool.eq_iff_iff]; simp; omega⟩
            clear cx c9
            go_wp2
            go_meet
            case rel => exact ⟨by rw [HX.out], rfl⟩
          · have cxb : decide (0 < x) = false := decide_eq_false cx
            have HX : Aside0 (decide ((x = 9 ∧ bt s x > 1) ∨ (x > 0 ∧ bt s x = 0)) = false) := ⟨by simp; omega⟩
            clear cx c9
            go_wp2
            go_meet
            case rel => exact ⟨by rw [HX.out], rfl⟩
      case rest =>
        obtain ⟨rfl, rfl⟩ := hcut
        clear hat
        by_cases c : (x = 9 ∧ bt s x > 1) ∨ (x > 0 ∧ bt s x = 0)
        · have cb : decide ((x = 9 ∧ bt s x > 1) ∨ (x > 0 ∧ bt s x = 0)) = true := decide_eq_true c
          rw [cb]
          have HL : Aside0 (numL 0 0 (bytesOf s) = (0, 0, 6)) := ⟨by rw [← HE.out, HD.out, numL_bad (by have := HK.out; omega)]⟩
          clear c cb
          go_wp2
          go_ret3
          rw [HL.out]
          exact ⟨rfl, HB.out⟩
        · have cb : decide ((x = 9 ∧ bt s x > 1) ∨ (x > 0 ∧ bt s x = 0)) = false := decide_eq_false c
          have hb0 : 0 ≤ bt s x := HR.out.1
          have hb1 : bt s x ≤ 255 := HR.out.2
          have hk := HK.out
          have HN := Aside0.mk (num_bits (v := v) (b := bt s x % 128) (k := x.toNat) (by omega) HV.out.1 HV.out.2 (by omega) (by omega) (by omega))
          have e1 := Aside0.mk (andNot128 hb0 hb1)
          have e2 := Aside0.mk (shl7 (b := bt s x % 128) (x := x) (by omega) (by omega) hk.1 hk.2.1 (by omega))
          have e3 : Aside0 (IntKind.u64.wrap (bt s x % 128) = bt s x % 128) := ⟨by rw [wrap_u64]; omega⟩
          have hx0 : 0 ≤ x := hk.1
          have hx9 : x ≤ 9 := hk.2.1
          rw [cb]
          by_cases cl : bt s x < 128
          · have clb : decide (bt s x < 128) = true := decide_eq_true cl
            have HL : Aside0 (numL 0 0 (bytesOf s) = (v + bt s x % 128 * 128 ^ x.toNat, x + 1, 0)) := ⟨by
              rw [← HE.out, HD.out, numL_last (by omega) cl]
              have : bt s x % 128 = bt s x := by omega
              rw [this, show ((x.toNat : Nat) : Int) = x from by omega]⟩
            clear c cb hk hb0 hb1 cl
            go_wp2
            go_ret3
            rw [HL.out]
            exact ⟨by rw [e1.out, e3.out, e2.out, HN.out.1]; rfl, HB.out⟩
          · have clb : decide (bt s x < 128) = false := decide_eq_false cl
            have HL : Aside0 (numL (x.toNat + 1) (v + bt s x % 128 * 128 ^ x.toNat) ((bytesOf s).drop (x.toNat + 1)) = numL 0 0 (bytesOf s)) := ⟨by
              rw [← HE.out, HD.out, numL_more (by omega) cl]
              have : bt s x % 128 = bt s x - 128 := by omega
              rw [this]⟩
            have HX8 : Aside0 (x ≤ 8) := ⟨by omega⟩
            clear c cb hk hb0 hb1 cl
            go_wp2
            go_roundg (gk - 1)
            case measure => have := HK.out; omega
            case rel =>
              have hk := HK.out
              have h8 := HX8.out
              have et : (x + 1).toNat = x.toNat + 1 := by omega
              refine ⟨_, x + 1, rfl, rfl, ⟨?_⟩, ⟨?_⟩, ⟨?_⟩, HB⟩
              · have := HLT.out; omega
              · rw [e1.out, e3.out, e2.out, HN.out.1, et]; exact ⟨HN.out.2.2.2, HN.out.2.2.1⟩
              · rw [e1.out, e3.out, e2.out, HN.out.1, et]; exact HL.out

theorem bytes_range (s : ByteArray) : ∀ b ∈ bytesOf s, 0 ≤ b ∧ b ≤ 255 := by
  intro b hb
  simp only [bytesOf, List.mem_map] at hb
  obtain ⟨x, _, rfl⟩ := hb
  have := x.toNat_lt
  show 0 ≤ (x.toNat : Int) ∧ (x.toNat : Int) ≤ 255
  omega
theorem bytesOf_extract (s : ByteArray) (a b : Nat) : bytesOf (s.extract a b) = ((bytesOf s).take b).drop a := by
  unfold bytesOf
  simp [ByteArray.data_extract, Array.toList_extract, List.extract, List.drop_take, List.map_take, List.map_drop]
theorem strOfNums_bytesOf (s : ByteArray) : strOfNums (bytesOf s) = s := by
  unfold strOfNums bytesOf
  rw [List.map_map]
  have : (fun n : Int => UInt8.ofNat n.toNat) ∘ (fun b : UInt8 => (b.toNat : Int)) = id := by funext b; simp
  rw [this]
  simp

theorem toList_data (s : ByteArray) : s.toList = s.data.toList := ByteArray.toList_eq s
theorem bytes_nil {s : ByteArray} (h : s.toList = []) : bytesOf s = [] := by
  unfold bytesOf
  rw [← toList_data, h]
  rfl
theorem bytes_nil' {s : ByteArray} (h : bytesOf s = []) : s.toList = [] := by
  unfold bytesOf at h
  rw [toList_data]
  exact List.map_eq_nil_iff.mp h

theorem bytesOf_strOfNums (l : List Int) (h : ∀ b ∈ l, 0 ≤ b ∧ b ≤ 255) : bytesOf (strOfNums l) = l := by
  unfold bytesOf
  rw [strOfNums_data, List.map_map]
  conv => rhs; rw [← List.map_id l]
  refine List.map_congr_left fun b hb => ?_
  have := h b hb
  simp
  omega
theorem blk_add (a : Addr) (n : Nat) : (a.add n).block = a.block := by unfold Addr.add; split <;> rfl

theorem str_inj {a b : ByteArray} (h : a.toList = b.toList) : a = b := by
  rw [toList_data, toList_data] at h
  exact ByteArray.ext (Array.toList_inj.1 h)

/-- A reader of package code at block g: the bytes that are left, and what is wrong. -/
def RD (w : World) (g : Nat) (l : List Int) (e : Int) : Prop := ∃ s : ByteArray, w.heap[g]? = some (.cells #[.string s, .int .i64 e] 120 (0, 0)) ∧ bytesOf s = l ∧ s.size ≤ 9223372036854775807

set_option maxHeartbeats 1000000 in
theorem rd_Num (g : Nat) (l : List Int) (e : Int) (w : World) (hR : RD w g l e) :
    Calls Try.prog 66 #[.pointer (some ⟨g, 0, none⟩)] w fun en w' => en = .returned (.int .u64 (rdNum l e).1) ∧ RD w' g (rdNum l e).2.1 (rdNum l e).2.2 ∧ Upd (· = g) w w' := by
  obtain ⟨s, hG, rfl, hs⟩ := hR
  have hc0 := blk_at hG (i := 0) rfl
  have hc1 := blk_at hG (i := 1) rfl
  have hf0 := blk_frozen hG 0
  have hf1 := blk_frozen hG 1
  have HG := Aside0.mk hG
  clear hG
  by_cases c : e = 0
  · subst c
    have HR := Aside0.mk (numL_range (bytesOf s) 0 0 (by omega) (by omega) (by simp) (bytes_range s))
    go_enter Try.func66, Try.ntmps66
    go_wp2_with fail
    refine (code_number s _ hs).mono ?_
    rintro en w1 ⟨rfl, hb⟩
    have hG1 := (Upd.of_below (F := fun _ => False) hb).blk HG.out (fun h => h)
    clear hc0 hc1 hf0 hf1
    have hc0 := blk_at hG1 (i := 0) rfl
    have hc1 := blk_at hG1 (i := 1) rfl
    have hf0 := blk_frozen hG1 0
    have hf1 := blk_frozen hG1 1
    have HG1 := Aside0.mk hG1
    have HU := Aside0.mk (Upd.of_below (F := (· = g)) hb)
    obtain ⟨v, hv⟩ : ∃ v, v = (numL 0 0 (bytesOf s)).1 := ⟨_, rfl⟩
    obtain ⟨n, hn⟩ : ∃ n, n = (numL 0 0 (bytesOf s)).2.1 := ⟨_, rfl⟩
    obtain ⟨e2, he2⟩ : ∃ e2, e2 = (numL 0 0 (bytesOf s)).2.2 := ⟨_, rfl⟩
    have hn0 : 0 ≤ n := by rw [hn]; exact HR.out.2.2.1
    have hn1 : n ≤ s.size := by rw [hn, ← bytesOf_length]; have := HR.out.2.2.2.1; simpa using this
    rw [← hv, ← hn, ← he2]
    have HV := Aside0.mk (And.intro hv (And.intro hn he2))
    clear hv hn he2 hG1 hb
    go_wp2
    go_ret
    have e1 : rdNum (bytesOf s) 0 = (v, (bytesOf s).drop n.toNat, e2) := by rw [HV.out.1, HV.out.2.1, HV.out.2.2]; rfl
    rw [e1]
    exact ⟨rfl, ⟨_, blk_set (blk_set HG1.out 0 _) 1 _, by rw [bytesOf_extract, ← bytesOf_length, List.take_length], by rw [ByteArray.size_extract]; omega⟩, (HU.out.setCell (fun _ => rfl) _).setCell (fun _ => rfl) _⟩
  · have c0 : (e == 0) = false := beq_eq_false_iff_ne.mpr c
    have c1 : (e != 0) = true := bne_iff_ne.mpr c
    have HE : Aside0 (rdNum (bytesOf s) e = (0, bytesOf s, e)) := ⟨by unfold rdNum; rw [if_neg c]⟩
    clear c
    go_enter Try.func66, Try.ntmps66
    go_wp2
    go_ret
    rw [HE.out]
    exact ⟨rfl, ⟨s, HG.out, rfl, hs⟩, Upd.refl _ _⟩

set_option maxHeartbeats 1000000 in
theorem rd_New (s : ByteArray) (w : World) (hs : s.size ≤ 9223372036854775807) :
    Calls Try.prog 55 #[.string s] w fun en w' => ∃ g, w.heap.size ≤ g ∧ en = .returned (.pointer (some ⟨g, 0, none⟩)) ∧ RD w' g (bytesOf s) 0 ∧ Below w.heap.size w w' := by
  have HB := Aside0.mk (Below.refl w.heap.size w)
  have HS := Aside0.mk hs
  clear hs
  go_enter Try.func55, Try.ntmps55
  go_wp2
  go_ret
  exact ⟨_, Nat.le_refl _, rfl, ⟨s, blk_new _ _, rfl, HS.out⟩, (by repeat (first | (with_reducible first | exact HB.out | apply below_alloc | apply pw_below_drewN | apply below_drew1) | exact HB.out))⟩

set_option maxHeartbeats 1000000 in
theorem rd_Fail (x : Int) (g : Nat) (l : List Int) (e : Int) (w : World) (hR : RD w g l e) :
    Calls Try.prog 67 #[.pointer (some ⟨g, 0, none⟩), .int .i64 x] w fun en w' => en = .returned (.tuple #[]) ∧ RD w' g (rdFail x l e).1 (rdFail x l e).2 ∧ Upd (· = g) w w' := by
  obtain ⟨s, hG, rfl, hs⟩ := hR
  have hc1 := blk_at hG (i := 1) rfl
  have hf1 := blk_frozen hG 1
  have HG := Aside0.mk hG
  have HS := Aside0.mk hs
  clear hG hs
  by_cases c : e = 0
  · subst c
    go_enter Try.func67, Try.ntmps67
    go_wp2
    go_end0
    exact ⟨rfl, ⟨s, blk_set HG.out 1 _, rfl, HS.out⟩, (Upd.refl (· = g) _).setCell (p := ⟨g, 1, none⟩) (fun _ => rfl) _⟩
  · have c0 : (e == 0) = false := beq_eq_false_iff_ne.mpr c
    have HE : Aside0 (rdFail x (bytesOf s) e = (bytesOf s, e)) := ⟨by unfold rdFail; rw [if_neg c]⟩
    clear c
    go_enter Try.func67, Try.ntmps67
    go_wp2
    go_end0
    rw [HE.out]
    exact ⟨rfl, ⟨s, HG.out, rfl, HS.out⟩, Upd.refl _ _⟩

set_option maxHeartbeats 1000000 in
theorem rd_Left (g : Nat) (l : List Int) (e : Int) (w : World) (hR : RD w g l e) :
    Calls Try.prog 57 #[.pointer (some ⟨g, 0, none⟩)] w fun en w' => en = .returned (.int .i64 l.length) ∧ w = w' := by
  obtain ⟨s, hG, rfl, hs⟩ := hR
  have hc0 := blk_at hG (i := 0) rfl
  have HS := Aside0.mk hs
  clear hG hs
  go_enter Try.func57, Try.ntmps57
  go_wp2
  go_ret
  rw [bytesOf_length]
  exact ⟨rfl, rfl⟩

set_option maxHeartbeats 1000000 in
theorem rd_Err (g : Nat) (l : List Int) (e : Int) (w : World) (hR : RD w g l e) :
    Calls Try.prog 58 #[.pointer (some ⟨g, 0, none⟩)] w fun en w' => en = .returned (.int .i64 e) ∧ w = w' := by
  obtain ⟨s, hG, rfl, hs⟩ := hR
  have hc0 := blk_at hG (i := 1) rfl
  clear hG hs
  go_enter Try.func58, Try.ntmps58
  go_wp2
  go_ret
  exact ⟨rfl, rfl⟩

end Go.Proofs.Ytmpgknemhmoboaa.C02
