-- Laid by wip/pp.py for this seat.
import Derived.Test.YtmpgknemhmoboaaDoorQ08Bx0
import Derived.Test.YtmpgknemhmoboaaDoorX08n
import Derived.Test.YtmpgknemhmoboaaDoorX08w
namespace Go.Proofs.YtmpgknemhmoboaaDoor.Q08B
open Go.RowKit Go.Proofs.YtmpgknemhmoboaaDoorW.PrintWords Go.Proofs.YtmpgknemhmoboaaDoorW.PrintLast Go.Proofs.YtmpgknemhmoboaaDoorW.PrintMore
attribute [local go_sem] max2_int min2_int max_two min_two max_three min_three max_four min_four   -- for this text's walks alone
set_option linter.unusedVariables false
set_option linter.unusedSimpArgs false

open Go.Proofs.YtmpgknemhmoboaaDoor.Ext
-- NOT PRINTED: function 33 (utf8_RuneCountInString)

-- NOT PRINTED: function 37 (utf8_decodeRuneInStringSlow)

-- NOT PRINTED: function 34 (utf8_DecodeRuneInString)

-- NOT PRINTED: function 29 (strings_explode)

-- NOT PRINTED: function 42 (bytealg_IndexByteString)

-- NOT PRINTED: function 38 (stringslite_IndexByte)

-- NOT PRINTED: function 39 (bytealg_IndexString)

-- NOT PRINTED: function 40 (bytealg_Cutover)

-- NOT PRINTED: function 43 (bytealg_hashStr_string)

-- NOT PRINTED: function 41 (bytealg_IndexRabinKarp_string)

-- NOT PRINTED: function 36 (stringslite_Index)

-- NOT PRINTED: function 31 (strings_Index)

-- NOT PRINTED: function 35 (bytealg_CountString)

-- NOT PRINTED: function 30 (strings_Count)

-- NOT PRINTED: function 25 (strings_genSplit)

-- NOT PRINTED: function 19 (words_letter)

/-! ### watershedlaw08_WordsBack: function 5 -/
def watershedlaw08_WordsBack.f (a0 : Int) (a1 : ByteArray) : Option (Bool) := (watershedlaw08_works.f).bind fun t101 => (if t101 = true then (if (a1.size : Int) > 5000 then (some true) else ((words_Number.f a0).bind fun t102 => ((words_Signed.f t102).bind fun bt103 => ((words_Signed.f a1).bind fun bt105 => (if bt103.1 = a0 then (if bt103.2 = 0 then (if bt105.2 = 0 then ((words_Number.f bt105.1).bind fun t107 => (if t107.toList = a1.toList then (some true) else (if bt105.2 = 6 then (some (bt105.1 == 0)) else (none)))) else (if bt105.2 = 6 then (some (bt105.1 == 0)) else (none))) else (none)) else (none)))))) else (none))
set_option maxHeartbeats 8000000 in
set_option maxRecDepth 100000 in
theorem watershedlaw08_WordsBack.calls (a0 : Int) (a1 : ByteArray) (r : Bool) (w : World) (h : watershedlaw08_WordsBack.f a0 a1 = some r) (HV : Aside0 (VARS w) := by first | exact HV | exact ⟨Ext.vars_below HV.out (by repeat (first | (with_reducible first | exact HB.out | apply below_alloc | apply pw_below_drewN | apply below_drew1 | refine below_set ?_ (Aside0.out (by assumption))) | exact HB.out))⟩) :
    Calls Tryd.prog 5 #[.int .i64 a0, .string a1] w fun e w' => e = .returned (.bool r) ∧ Below w.heap.size w w' := by
  have HB := Aside0.mk (Below.refl w.heap.size w)
  have H : ((watershedlaw08_works.f).bind fun t101 => (if t101 = true then (if (a1.size : Int) > 5000 then (some true) else ((words_Number.f a0).bind fun t102 => ((words_Signed.f t102).bind fun bt103 => ((words_Signed.f a1).bind fun bt105 => (if bt103.1 = a0 then (if bt103.2 = 0 then (if bt105.2 = 0 then ((words_Number.f bt105.1).bind fun t107 => (if t107.toList = a1.toList then (some true) else (if bt105.2 = 6 then (some (bt105.1 == 0)) else (none)))) else (if bt105.2 = 6 then (some (bt105.1 == 0)) else (none))) else (none)) else (none)))))) else (none))) = some r := h
  clear h
  replace H := Option.bind_eq_some_iff.mp H
  obtain ⟨t101, A30, H⟩ := H
  replace H : (if t101 = true then (if (a1.size : Int) > 5000 then (some true) else ((words_Number.f a0).bind fun t102 => ((words_Signed.f t102).bind fun bt103 => ((words_Signed.f a1).bind fun bt105 => (if bt103.1 = a0 then (if bt103.2 = 0 then (if bt105.2 = 0 then ((words_Number.f bt105.1).bind fun t107 => (if t107.toList = a1.toList then (some true) else (if bt105.2 = 6 then (some (bt105.1 == 0)) else (none)))) else (if bt105.2 = 6 then (some (bt105.1 == 0)) else (none))) else (none)) else (none)))))) else (none)) = some r := H
  have A3 := Aside0.mk A30
  clear A30
  by_cases c4 : t101 = true
  · subst c4
    have H1 : (if (a1.size : Int) > 5000 then (some true) else ((words_Number.f a0).bind fun t102 => ((words_Signed.f t102).bind fun bt103 => ((words_Signed.f a1).bind fun bt105 => (if bt103.1 = a0 then (if bt103.2 = 0 then (if bt105.2 = 0 then ((words_Number.f bt105.1).bind fun t107 => (if t107.toList = a1.toList then (some true) else (if bt105.2 = 6 then (some (bt105.1 == 0)) else (none)))) else (if bt105.2 = 6 then (some (bt105.1 == 0)) else (none))) else (none)) else (none)))))) = some r := by rw [if_pos rfl] at H; exact H
    clear H
    have H := H1
    clear H1
    by_cases c5 : (a1.size : Int) > 5000
    · rw [if_pos c5] at H
      have c5b0 : decide (5000 < (a1.size : Int)) = true := decide_eq_true c5
      have c5b1 : decide (5000 < a1.size) = true := decide_eq_true (by omega)
      clear c5
      obtain rfl := Option.some.inj H
      go_enter Tryd.func5, Tryd.ntmps5
      go_wp2_with (first | ((with_reducible refine gate_callee (f := 13) rfl ?_); refine goesL_ (some 9) rfl rfl Tryd.func13 (by kernel_rfl) rfl #[] rfl zz0 ?_; (with_reducible refine (watershedlaw08_works.calls  true _ A3.out).mono ?_); rintro e w6 ⟨rfl, hb⟩; refine ⟨_, rfl, ?_⟩; have n0_ := Aside0.mk (below_step zz1 hb); clear HB; have HB := n0_; clear n0_; (try clear hb); (try clear hb2); (try clear hk); (try clear hi)))
      go_ret
      exact ⟨by first | rfl | (simp [errW_none, errW_some] <;> rfl) | (simp [*, errW_none, errW_some] <;> rfl), by repeat (first | (with_reducible first | exact HB.out | apply below_alloc | apply pw_below_drewN | apply below_drew1) | exact HB.out)⟩
    · rw [if_neg c5] at H
      have c5b0 : decide (5000 < (a1.size : Int)) = false := decide_eq_false c5
      have c5b1 : decide (5000 < a1.size) = false := decide_eq_false (by omega)
      clear c5
      replace H := Option.bind_eq_some_iff.mp H
      obtain ⟨t102, A70, H⟩ := H
      replace H : ((words_Signed.f t102).bind fun bt103 => ((words_Signed.f a1).bind fun bt105 => (if bt103.1 = a0 then (if bt103.2 = 0 then (if bt105.2 = 0 then ((words_Number.f bt105.1).bind fun t107 => (if t107.toList = a1.toList then (some true) else (if bt105.2 = 6 then (some (bt105.1 == 0)) else (none)))) else (if bt105.2 = 6 then (some (bt105.1 == 0)) else (none))) else (none)) else (none)))) = some r := H
      have A7 := Aside0.mk A70
      clear A70
      replace H := Option.bind_eq_some_iff.mp H
      obtain ⟨⟨t103, t104⟩, A80, H⟩ := H
      replace H : ((words_Signed.f a1).bind fun bt105 => (if t103 = a0 then (if t104 = 0 then (if bt105.2 = 0 then ((words_Number.f bt105.1).bind fun t107 => (if t107.toList = a1.toList then (some true) else (if bt105.2 = 6 then (some (bt105.1 == 0)) else (none)))) else (if bt105.2 = 6 then (some (bt105.1 == 0)) else (none))) else (none)) else (none))) = some r := H
      have A8 := Aside0.mk A80
      clear A80
      replace H := Option.bind_eq_some_iff.mp H
      obtain ⟨⟨t105, t106⟩, A90, H⟩ := H
      replace H : (if t103 = a0 then (if t104 = 0 then (if t106 = 0 then ((words_Number.f t105).bind fun t107 => (if t107.toList = a1.toList then (some true) else (if t106 = 6 then (some (t105 == 0)) else (none)))) else (if t106 = 6 then (some (t105 == 0)) else (none))) else (none)) else (none)) = some r := H
      have A9 := Aside0.mk A90
      clear A90
      by_cases c10 : t103 = a0
      · rw [if_pos c10] at H
        have c10b0 : (t103 == a0) = true := beq_iff_eq.mpr c10
        have c10b1 : (t103 != a0) = false := bne_eq_false_iff_eq.mpr c10
        clear c10
        by_cases c11 : t104 = 0
        · rw [if_pos c11] at H
          have c11b0 : (t104 == 0) = true := beq_iff_eq.mpr c11
          have c11b1 : (t104 != 0) = false := bne_eq_false_iff_eq.mpr c11
          clear c11
          by_cases c12 : t106 = 0
          · rw [if_pos c12] at H
            have c12b0 : (t106 == 0) = true := beq_iff_eq.mpr c12
            have c12b1 : (t106 != 0) = false := bne_eq_false_iff_eq.mpr c12
            clear c12
            replace H := Option.bind_eq_some_iff.mp H
            obtain ⟨t107, A130, H⟩ := H
            replace H : (if t107.toList = a1.toList then (some true) else (if t106 = 6 then (some (t105 == 0)) else (none))) = some r := H
            have A13 := Aside0.mk A130
            clear A130
            by_cases c14 : t107.toList = a1.toList
            · rw [if_pos c14] at H
              have c14b0 : (t107.toList == a1.toList) = true := beq_iff_eq.mpr c14
              have c14b1 : (t107.toList != a1.toList) = false := bne_eq_false_iff_eq.mpr c14
              clear c14
              obtain rfl := Option.some.inj H
              go_enter Tryd.func5, Tryd.ntmps5
              go_wp2_with (first | ((with_reducible refine gate_callee (f := 13) rfl ?_); refine goesL_ (some 9) rfl rfl Tryd.func13 (by kernel_rfl) rfl #[] rfl zz0 ?_; (with_reducible refine (watershedlaw08_works.calls  true _ A3.out).mono ?_); rintro e w15 ⟨rfl, hb⟩; refine ⟨_, rfl, ?_⟩; have n0_ := Aside0.mk (below_step zz1 hb); clear HB; have HB := n0_; clear n0_; (try clear hb); (try clear hb2); (try clear hk); (try clear hi)) | ((with_reducible refine gate_callee (f := 15) rfl ?_); refine goesL_ (some 16) rfl rfl Tryd.func15 (by kernel_rfl) rfl #[.int .i64 a0] rfl zz0 ?_; (with_reducible refine (words_Number.calls a0 t102 _ A7.out).mono ?_); rintro e w16 ⟨rfl, hb⟩; refine ⟨_, rfl, ?_⟩; have n0_ := Aside0.mk (below_step zz1 hb); clear HB; have HB := n0_; clear n0_; (try clear hb); (try clear hb2); (try clear hk); (try clear hi)) | ((with_reducible refine gate_callee (f := 14) rfl ?_); refine goesL_ (some 17) rfl rfl Tryd.func14 (by kernel_rfl) rfl #[.string t102] rfl zz0 ?_; (with_reducible refine (words_Signed.calls t102 t103 t104 _ A8.out).mono ?_); rintro e w' ⟨rfl, ⟨nd, rfl⟩⟩; refine ⟨_, rfl, ?_⟩) | ((with_reducible refine gate_callee (f := 14) rfl ?_); refine goesL_ (some 22) rfl rfl Tryd.func14 (by kernel_rfl) rfl #[.string a1] rfl zz0 ?_; (with_reducible refine (words_Signed.calls a1 t105 t106 _ A9.out).mono ?_); rintro e w' ⟨rfl, ⟨nd, rfl⟩⟩; refine ⟨_, rfl, ?_⟩) | (go_at_call 15; (with_reducible refine (words_Number.calls t105 t107 _ A13.out).mono ?_); rintro e w17 ⟨rfl, hb⟩; have n0_ := Aside0.mk (below_step zz1 hb); clear HB; have HB := n0_; clear n0_; (try clear hb); (try clear hb2); (try clear hk); (try clear hi)))
              go_ret
              exact ⟨by first | rfl | (simp [errW_none, errW_some] <;> rfl) | (simp [*, errW_none, errW_some] <;> rfl), by repeat (first | (with_reducible first | exact HB.out | apply below_alloc | apply pw_below_drewN | apply below_drew1) | exact HB.out)⟩
            · rw [if_neg c14] at H
              have c14b0 : (t107.toList == a1.toList) = false := beq_eq_false_iff_ne.mpr c14
              have c14b1 : (t107.toList != a1.toList) = true := bne_iff_ne.mpr c14
              by_cases c18 : t106 = 6
              · rw [if_pos c18] at H
                have c18b0 : (t106 == 6) = true := beq_iff_eq.mpr c18
                have c18b1 : (t106 != 6) = false := bne_eq_false_iff_eq.mpr c18
                clear c18
                obtain rfl := Option.some.inj H
                go_enter Tryd.func5, Tryd.ntmps5
                go_wp2_with (first | ((with_reducible refine gate_callee (f := 13) rfl ?_); refine goesL_ (some 9) rfl rfl Tryd.func13 (by kernel_rfl) rfl #[] rfl zz0 ?_; (with_reducible refine (watershedlaw08_works.calls  true _ A3.out).mono ?_); rintro e w19 ⟨rfl, hb⟩; refine ⟨_, rfl, ?_⟩; have n0_ := Aside0.mk (below_step zz1 hb); clear HB; have HB := n0_; clear n0_; (try clear hb); (try clear hb2); (try clear hk); (try clear hi)) | ((with_reducible refine gate_callee (f := 15) rfl ?_); refine goesL_ (some 16) rfl rfl Tryd.func15 (by kernel_rfl) rfl #[.int .i64 a0] rfl zz0 ?_; (with_reducible refine (words_Number.calls a0 t102 _ A7.out).mono ?_); rintro e w20 ⟨rfl, hb⟩; refine ⟨_, rfl, ?_⟩; have n0_ := Aside0.mk (below_step zz1 hb); clear HB; have HB := n0_; clear n0_; (try clear hb); (try clear hb2); (try clear hk); (try clear hi)) | ((with_reducible refine gate_callee (f := 14) rfl ?_); refine goesL_ (some 17) rfl rfl Tryd.func14 (by kernel_rfl) rfl #[.string t102] rfl zz0 ?_; (with_reducible refine (words_Signed.calls t102 t103 t104 _ A8.out).mono ?_); rintro e w' ⟨rfl, ⟨nd, rfl⟩⟩; refine ⟨_, rfl, ?_⟩) | ((with_reducible refine gate_callee (f := 14) rfl ?_); refine goesL_ (some 22) rfl rfl Tryd.func14 (by kernel_rfl) rfl #[.string a1] rfl zz0 ?_; (with_reducible refine (words_Signed.calls a1 t105 t106 _ A9.out).mono ?_); rintro e w' ⟨rfl, ⟨nd, rfl⟩⟩; refine ⟨_, rfl, ?_⟩) | (go_at_call 15; (with_reducible refine (words_Number.calls t105 t107 _ A13.out).mono ?_); rintro e w21 ⟨rfl, hb⟩; have n0_ := Aside0.mk (below_step zz1 hb); clear HB; have HB := n0_; clear n0_; (try clear hb); (try clear hb2); (try clear hk); (try clear hi)))
                go_ret
                exact ⟨by first | rfl | (simp [errW_none, errW_some] <;> rfl) | (simp [*, errW_none, errW_some] <;> rfl), by repeat (first | (with_reducible first | exact HB.out | apply below_alloc | apply pw_below_drewN | apply below_drew1) | exact HB.out)⟩
              · rw [if_neg c18] at H
                exact absurd H (by simp)
          · rw [if_neg c12] at H
            have c12b0 : (t106 == 0) = false := beq_eq_false_iff_ne.mpr c12
            have c12b1 : (t106 != 0) = true := bne_iff_ne.mpr c12
            by_cases c22 : t106 = 6
            · rw [if_pos c22] at H
              have c22b0 : (t106 == 6) = true := beq_iff_eq.mpr c22
              have c22b1 : (t106 != 6) = false := bne_eq_false_iff_eq.mpr c22
              clear c22
              obtain rfl := Option.some.inj H
              go_enter Tryd.func5, Tryd.ntmps5
              go_wp2_with (first | ((with_reducible refine gate_callee (f := 13) rfl ?_); refine goesL_ (some 9) rfl rfl Tryd.func13 (by kernel_rfl) rfl #[] rfl zz0 ?_; (with_reducible refine (watershedlaw08_works.calls  true _ A3.out).mono ?_); rintro e w23 ⟨rfl, hb⟩; refine ⟨_, rfl, ?_⟩; have n0_ := Aside0.mk (below_step zz1 hb); clear HB; have HB := n0_; clear n0_; (try clear hb); (try clear hb2); (try clear hk); (try clear hi)) | ((with_reducible refine gate_callee (f := 15) rfl ?_); refine goesL_ (some 16) rfl rfl Tryd.func15 (by kernel_rfl) rfl #[.int .i64 a0] rfl zz0 ?_; (with_reducible refine (words_Number.calls a0 t102 _ A7.out).mono ?_); rintro e w24 ⟨rfl, hb⟩; refine ⟨_, rfl, ?_⟩; have n0_ := Aside0.mk (below_step zz1 hb); clear HB; have HB := n0_; clear n0_; (try clear hb); (try clear hb2); (try clear hk); (try clear hi)) | ((with_reducible refine gate_callee (f := 14) rfl ?_); refine goesL_ (some 17) rfl rfl Tryd.func14 (by kernel_rfl) rfl #[.string t102] rfl zz0 ?_; (with_reducible refine (words_Signed.calls t102 t103 t104 _ A8.out).mono ?_); rintro e w' ⟨rfl, ⟨nd, rfl⟩⟩; refine ⟨_, rfl, ?_⟩) | ((with_reducible refine gate_callee (f := 14) rfl ?_); refine goesL_ (some 22) rfl rfl Tryd.func14 (by kernel_rfl) rfl #[.string a1] rfl zz0 ?_; (with_reducible refine (words_Signed.calls a1 t105 t106 _ A9.out).mono ?_); rintro e w' ⟨rfl, ⟨nd, rfl⟩⟩; refine ⟨_, rfl, ?_⟩))
              go_ret
              exact ⟨by first | rfl | (simp [errW_none, errW_some] <;> rfl) | (simp [*, errW_none, errW_some] <;> rfl), by repeat (first | (with_reducible first | exact HB.out | apply below_alloc | apply pw_below_drewN | apply below_drew1) | exact HB.out)⟩
            · rw [if_neg c22] at H
              exact absurd H (by simp)
        · rw [if_neg c11] at H
          exact absurd H (by simp)
      · rw [if_neg c10] at H
        exact absurd H (by simp)
  · replace c4 := Bool.eq_false_iff.mpr c4
    subst c4
    have H1 : (none) = some r := by rw [if_neg (show ¬ (false = true) by decide)] at H; exact H
    clear H
    have H := H1
    clear H1
    exact absurd H (by simp)

end Go.Proofs.YtmpgknemhmoboaaDoor.Q08B
