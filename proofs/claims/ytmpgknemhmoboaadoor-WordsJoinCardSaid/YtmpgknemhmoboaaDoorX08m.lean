import Derived.Test.YtmpgknemhmoboaaDoorProg
import Derived.Test.YtmpgknemhmoboaaDoorWMore
import Derived.Test.YtmpgknemhmoboaaDoorBase
import Derived.Test.YtmpgknemhmoboaaDoorPl
import Derived.Laws.RangeAny
import Derived.Deep.CutBlock
import Derived.Deep.DeepCutAuto
/- A contract of package words in the form that the printed texts call: which words are names. -/
namespace Go.Proofs.YtmpgknemhmoboaaDoor.Ext
set_option linter.unusedSimpArgs false
open Go.RowKit Go.Proofs.YtmpgknemhmoboaaDoorW.PrintWords Go.Proofs.YtmpgknemhmoboaaDoorW.PrintLast Go.Proofs.YtmpgknemhmoboaaDoorW.PrintMore Go.Proofs.YtmpgknemhmoboaaDoor.Base Go.Proofs.YtmpgknemhmoboaaDoor.Pl
def letB (c : Int) : Bool := decide (97 ≤ c) && decide (c ≤ 122)
def digB (c : Int) : Bool := decide (48 ≤ c) && decide (c ≤ 57)
def nameB (s : ByteArray) : Bool := !(decide (s.size = 0) || decide (12 < s.size) || !letB (bt s 0)) && (bytesOf s).all (fun c => letB c || digB c)
theorem letter_c (c : Int) (w : World) : Calls Tryd.prog 19 #[.int .u8 c] w fun e w' => e = .returned (.bool (letB c)) ∧ w = w' := by
  by_cases h : c ≥ 97
  · have c0 : decide (c ≥ 97) = true := decide_eq_true h
    have HX : Aside0 (letB c = decide (c ≤ 122)) := ⟨by unfold letB; rw [decide_eq_true (by omega)]; rfl⟩
    clear h
    go_enter Tryd.func19, Tryd.ntmps19
    go_wp2
    go_ret
    exact ⟨by rw [HX.out]; rfl, rfl⟩
  · have c0 : decide (c ≥ 97) = false := decide_eq_false h
    have HX : Aside0 (letB c = false) := ⟨by unfold letB; rw [decide_eq_false (by omega)]; rfl⟩
    clear h
    go_enter Tryd.func19, Tryd.ntmps19
    go_wp2
    go_ret
    exact ⟨by rw [HX.out]; rfl, rfl⟩
theorem digit_c (c : Int) (w : World) : Calls Tryd.prog 20 #[.int .u8 c] w fun e w' => e = .returned (.bool (digB c)) ∧ w = w' := by
  by_cases h : c ≥ 48
  · have c0 : decide (c ≥ 48) = true := decide_eq_true h
    have HX : Aside0 (digB c = decide (c ≤ 57)) := ⟨by unfold digB; rw [decide_eq_true (by omega)]; rfl⟩
    clear h
    go_enter Tryd.func20, Tryd.ntmps20
    go_wp2
    go_ret
    exact ⟨by rw [HX.out]; rfl, rfl⟩
  · have c0 : decide (c ≥ 48) = false := decide_eq_false h
    have HX : Aside0 (digB c = false) := ⟨by unfold digB; rw [decide_eq_false (by omega)]; rfl⟩
    clear h
    go_enter Tryd.func20, Tryd.ntmps20
    go_wp2
    go_ret
    exact ⟨by rw [HX.out]; rfl, rfl⟩
def okc (c : Int) : Bool := letB c || digB c
theorem below_iter {w : World} (s : ByteArray) (p : Nat) : Below w.heap.size w (w.iter s p) := below_alloc (Below.refl _ _) _
set_option maxHeartbeats 2000000 in
theorem name_c (s : ByteArray) (w : World) : Calls Tryd.prog 11 #[.string s] w fun e w' => e = .returned (.bool (nameB s)) ∧ Below w.heap.size w w' := by
  by_cases h0 : s.size = 0
  · have c0 : (s.toList == ([] : List UInt8)) = true := beq_iff_eq.2 (toList_nil.2 (by rw [← List.length_eq_zero_iff, bytesOf_length]; exact h0))
    have HX : Aside0 (nameB s = false) := ⟨by unfold nameB; rw [decide_eq_true h0]; rfl⟩
    clear h0
    go_enter Tryd.func11, Tryd.ntmps11
    go_wp2
    go_ret
    exact ⟨by rw [HX.out]; rfl, Below.refl _ _⟩
  · have c0 : (s.toList == ([] : List UInt8)) = false := beq_eq_false_iff_ne.2 (fun q => h0 (by have := toList_nil.1 q; rw [← List.length_eq_zero_iff, bytesOf_length] at this; exact this))
    by_cases h1 : 12 < s.size
    · have c1 : decide ((s.size : Int) > 12) = true := decide_eq_true (by omega)
      have HX : Aside0 (nameB s = false) := ⟨by unfold nameB; rw [decide_eq_true h1]; simp⟩
      clear h0 h1
      go_enter Tryd.func11, Tryd.ntmps11
      go_wp2
      go_ret
      exact ⟨by rw [HX.out]; rfl, Below.refl _ _⟩
    · have c1 : decide ((s.size : Int) > 12) = false := decide_eq_false (by omega)
      have p0 : ((0 : Int) < (s.size : Int)) = True := eq_true (by omega)
      have pn : (0 < s.size) = True := eq_true (by omega)
      have hx : ∀ h : 0 < s.size, ((s[0]'h).toNat : Int) = bt s 0 := fun h => by unfold bt; rw [dif_pos (show (0 : Int).toNat < s.size from h)]; rfl
      have HS : Aside0 (0 < s.size ∧ s.size ≤ 12) := ⟨by omega⟩
      cases hl : letB (bt s 0) with
      | false =>
        have HX : Aside0 (nameB s = false) := ⟨by unfold nameB; rw [hl]; simp⟩
        clear h0 h1
        go_enter Tryd.func11, Tryd.ntmps11
        go_wp2_with fail
        refine (letter_c _ _).mono ?_
        rintro e w1 ⟨rfl, rfl⟩
        go_wp2
        go_ret
        exact ⟨by rw [HX.out]; rfl, Below.refl _ _⟩
      | true =>
        have HN : Aside0 (nameB s = (bytesOf s).all okc) := ⟨by unfold nameB; rw [decide_eq_false h0, decide_eq_false h1, hl]; rfl⟩
        clear h0 h1
        go_enter Tryd.func11, Tryd.ntmps11
        go_wp2_with fail
        refine (letter_c _ _).mono ?_
        rintro e w1 ⟨rfl, rfl⟩
        go_wp2
        go_loopg [4] (s.size + 1) (fun kq v4 W' => ∃ pos : Nat, Aside0 (pos ≤ s.size ∧ pos + kq = s.size + 1) ∧ Aside0 (((bytesOf s).drop pos).all okc = (bytesOf s).all okc) ∧ W' = w.iter s pos)
        case atStart => exact ⟨0, ⟨by omega⟩, ⟨rfl⟩, rfl⟩
        case round =>
          obtain ⟨pos, HK, HO, rfl⟩ := hrel
          by_cases hp : pos < s.size
          · have hb := bt_range s pos
            have hbt : bt s pos = ((s[pos]'hp).toNat : Int) := by unfold bt; rw [dif_pos (by simpa using hp)]; simp
            have HD := Aside0.mk (bytes_drop hp)
            by_cases ha : (s[pos]'hp).toNat < 128
            · have hnx : ∀ ty, (Instr.next (.pointer (some ⟨w.heap.size, 0, none⟩)) true ty).run Tryd.prog (w.iter s pos) = .ok (.tuple #[.bool true, .int .i64 pos, .int .i32 (bt s pos)]) (w.iter s (pos + 1)) := fun ty => by
                rw [hbt]; exact run_next_ascii w s pos ty hp ha
              have cb : decide (bt s pos > 127) = false := decide_eq_false (by rw [hbt]; omega)
              have cw : bt s pos % 256 = bt s pos := by omega
              have cv : IntKind.u8.wrap (bt s pos) = bt s pos := by simp [IntKind.wrap, IntKind.bits, IntKind.signed]; omega
              clear hbt
              generalize bt s pos = c at *
              cases hl : letB c with
              | true =>
                have HE : Aside0 (((bytesOf s).drop (pos + 1)).all okc = (bytesOf s).all okc) := ⟨by rw [← HO.out, HD.out, List.all_cons]; unfold okc; rw [hl]; rfl⟩
                go_wp2_with fail
                refine (letter_c _ _).mono ?_
                rintro e w1 ⟨rfl, rfl⟩
                go_wp2
                go_roundg (gk - 1)
                case measure => have := HK.out; omega
                case rel => exact ⟨pos + 1, ⟨by have := HK.out; omega⟩, HE, rfl⟩
              | false =>
                go_wp2_with fail
                refine (letter_c _ _).mono ?_
                rintro e w1 ⟨rfl, rfl⟩
                go_wp2_with fail
                refine (digit_c _ _).mono ?_
                rintro e w1 ⟨rfl, rfl⟩
                cases hd : digB c with
                | true =>
                  have HE : Aside0 (((bytesOf s).drop (pos + 1)).all okc = (bytesOf s).all okc) := ⟨by rw [← HO.out, HD.out, List.all_cons]; unfold okc; rw [hl, hd]; rfl⟩
                  go_wp2
                  go_roundg (gk - 1)
                  case measure => have := HK.out; omega
                  case rel => exact ⟨pos + 1, ⟨by have := HK.out; omega⟩, HE, rfl⟩
                | false =>
                  have HE : Aside0 (nameB s = false) := ⟨by rw [HN.out, ← HO.out, HD.out, List.all_cons]; unfold okc; rw [hl, hd]; rfl⟩
                  go_wp2
                  go_ret
                  exact ⟨by rw [HE.out]; rfl, below_iter _ _⟩
            · have hq := decode_high s pos hp (by omega)
              have hbt2 : 128 ≤ bt s pos := by rw [hbt]; omega
              have HE : Aside0 (nameB s = false) := ⟨by
                rw [HN.out, ← HO.out, HD.out, List.all_cons]
                have e1 : okc (bt s pos) = false := by
                  unfold okc letB digB
                  rw [decide_eq_false (show ¬ bt s pos ≤ 122 from by omega), decide_eq_false (show ¬ bt s pos ≤ 57 from by omega)]
                  simp
                rw [e1]
                rfl⟩
              have hnx : ∀ ty, (Instr.next (.pointer (some ⟨w.heap.size, 0, none⟩)) true ty).run Tryd.prog (w.iter s pos) = .ok (.tuple #[.bool true, .int .i64 pos, .int .i32 (Utf8.decode s pos).1]) (w.iter s (pos + (Utf8.decode s pos).2)) := fun ty => run_next_any w s pos ty hp
              have cb : decide (((Utf8.decode s pos).1 : Int) > 127) = true := decide_eq_true (by omega)
              generalize ((Utf8.decode s pos).1 : Int) = c at *
              generalize pos + (Utf8.decode s pos).2 = p2 at *
              clear hbt hbt2 hq ha
              go_wp2
              go_ret
              exact ⟨by rw [HE.out]; rfl, below_iter _ _⟩
          · have hnx : ∀ ty, (Instr.next (.pointer (some ⟨w.heap.size, 0, none⟩)) true ty).run Tryd.prog (w.iter s pos) = .ok (.tuple #[.bool false]) (w.iter s pos) := fun ty => run_next_end w s pos ty hp
            have HE : Aside0 (nameB s = true) := ⟨by rw [HN.out, ← HO.out, List.drop_eq_nil_of_le (by rw [bytesOf_length]; omega)]; rfl⟩
            clear hp
            go_wp2
            go_ret
            exact ⟨by rw [HE.out]; rfl, below_iter _ _⟩
def words_Name.f (s : ByteArray) : Option Bool := some (nameB s)
theorem words_Name.calls (a0 : ByteArray) (r : Bool) (w : World) (h : words_Name.f a0 = some r) : Calls Tryd.prog 11 #[.string a0] w fun e w' => e = .returned (.bool r) ∧ Below w.heap.size w w' := by
  obtain rfl := Option.some.inj h
  exact name_c a0 w
end Go.Proofs.YtmpgknemhmoboaaDoor.Ext
