-- Laid by wip/pp.py for this seat.
import Derived.Test.YtmpgknemhmoboaaDoorQ08cx0
import Derived.Test.YtmpgknemhmoboaaDoorQ08cx1
import Derived.Test.YtmpgknemhmoboaaDoorQ08cx2
import Derived.Test.YtmpgknemhmoboaaDoorX08m
namespace Go.Proofs.YtmpgknemhmoboaaDoor.Q08c
open Go.RowKit Go.Proofs.YtmpgknemhmoboaaDoorW.PrintWords Go.Proofs.YtmpgknemhmoboaaDoorW.PrintLast Go.Proofs.YtmpgknemhmoboaaDoorW.PrintMore
attribute [local go_sem] max2_int min2_int max_two min_two max_three min_three max_four min_four   -- for this text's walks alone
set_option linter.unusedVariables false
set_option linter.unusedSimpArgs false

open Go.Proofs.YtmpgknemhmoboaaDoor.Ext
/-! ### watershedlaw08_WordsCut: function 3 -/
def watershedlaw08_WordsCut.f (k : Nat) (a0 : ByteArray) : Option (Bool) := if (a0.size : Int) > 5000 then (some true) else ((words_Lines.f a0).bind fun t127 => ((watershedref08_Lines.f k a0).bind fun t130 => ((watershedref08_Same.f k t127 t130).bind fun t133 => (if t133 = true then ((words_Split.f k a0).bind fun t134 => ((watershedref08_Split.f k a0).bind fun t137 => ((watershedref08_Same.f k t134 t137).bind fun t140 => (if t140 = true then ((words_Name.f a0).bind fun t141 => ((watershedref08_Name.f k a0).bind fun t142 => (if (t141 == t142) = true then (some (t141 == t142)) else (none)))) else (some false))))) else (some false)))))
theorem watershedlaw08_WordsCut.mono : ∀ a0 k, LeO (watershedlaw08_WordsCut.f k a0) (watershedlaw08_WordsCut.f (k + 1) a0) := by
  intro a0 k
  unfold watershedlaw08_WordsCut.f
  repeat' first
      | (with_reducible exact watershedref08_Lines.mono _ _)
      | (with_reducible exact watershedref08_Name.mono _ _)
      | (with_reducible exact watershedref08_Same.mono _ _ _)
      | (with_reducible exact watershedref08_Split.mono _ _)
      | (with_reducible exact words_Split.mono _ _)
      | (with_reducible exact LeO.refl _)
      | (with_reducible exact LeO.none _)
      | (with_reducible refine LeO.ite ?_ ?_)
      | (with_reducible refine LeO.bind ?_ (fun _ => ?_))
      | exact watershedref08_Lines.mono _ _
      | exact watershedref08_Name.mono _ _
      | exact watershedref08_Same.mono _ _ _
      | exact watershedref08_Split.mono _ _
      | exact words_Split.mono _ _
      | exact LeO.none _
      | refine LeO.ite ?_ ?_
      | refine LeO.bind ?_ (fun _ => ?_)
set_option maxHeartbeats 8000000 in
set_option maxRecDepth 100000 in
theorem watershedlaw08_WordsCut.calls (k : Nat) (a0 : ByteArray) (r : Bool) (w : World) (h : watershedlaw08_WordsCut.f k a0 = some r) (HV : Aside0 (VARS w) := by first | exact HV | exact ⟨Ext.vars_below HV.out zz7⟩) :
    Calls Tryd.prog 3 #[.string a0] w fun e w' => e = .returned (.bool r) ∧ Below w.heap.size w w' := by
  have HB := Aside0.mk (Below.refl w.heap.size w)
  have H : (if (a0.size : Int) > 5000 then (some true) else ((words_Lines.f a0).bind fun t127 => ((watershedref08_Lines.f k a0).bind fun t130 => ((watershedref08_Same.f k t127 t130).bind fun t133 => (if t133 = true then ((words_Split.f k a0).bind fun t134 => ((watershedref08_Split.f k a0).bind fun t137 => ((watershedref08_Same.f k t134 t137).bind fun t140 => (if t140 = true then ((words_Name.f a0).bind fun t141 => ((watershedref08_Name.f k a0).bind fun t142 => (if (t141 == t142) = true then (some (t141 == t142)) else (none)))) else (some false))))) else (some false)))))) = some r := h
  clear h
  by_cases c2 : (a0.size : Int) > 5000
  · rw [if_pos c2] at H
    have c2b0 : decide (5000 < (a0.size : Int)) = true := decide_eq_true c2
    have c2b1 : decide (5000 < a0.size) = true := decide_eq_true (by omega)
    clear c2
    obtain rfl := Option.some.inj H
    go_enter Tryd.func3, Tryd.ntmps3
    go_wp2
    go_ret
    exact ⟨by first | rfl | (simp [errW_none, errW_some] <;> rfl) | (simp [*, errW_none, errW_some] <;> rfl), by repeat (first | (with_reducible first | exact HB.out | apply below_alloc | apply pw_below_drewN | apply below_drew1) | exact HB.out)⟩
  · rw [if_neg c2] at H
    have c2b0 : decide (5000 < (a0.size : Int)) = false := decide_eq_false c2
    have c2b1 : decide (5000 < a0.size) = false := decide_eq_false (by omega)
    clear c2
    replace H := Option.bind_eq_some_iff.mp H
    obtain ⟨t127, A30, H⟩ := H
    replace H : ((watershedref08_Lines.f k a0).bind fun t130 => ((watershedref08_Same.f k t127 t130).bind fun t133 => (if t133 = true then ((words_Split.f k a0).bind fun t134 => ((watershedref08_Split.f k a0).bind fun t137 => ((watershedref08_Same.f k t134 t137).bind fun t140 => (if t140 = true then ((words_Name.f a0).bind fun t141 => ((watershedref08_Name.f k a0).bind fun t142 => (if (t141 == t142) = true then (some (t141 == t142)) else (none)))) else (some false))))) else (some false)))) = some r := H
    have A3 := Aside0.mk A30
    clear A30
    replace H := Option.bind_eq_some_iff.mp H
    obtain ⟨t130, A40, H⟩ := H
    replace H : ((watershedref08_Same.f k t127 t130).bind fun t133 => (if t133 = true then ((words_Split.f k a0).bind fun t134 => ((watershedref08_Split.f k a0).bind fun t137 => ((watershedref08_Same.f k t134 t137).bind fun t140 => (if t140 = true then ((words_Name.f a0).bind fun t141 => ((watershedref08_Name.f k a0).bind fun t142 => (if (t141 == t142) = true then (some (t141 == t142)) else (none)))) else (some false))))) else (some false))) = some r := H
    have A4 := Aside0.mk A40
    clear A40
    replace H := Option.bind_eq_some_iff.mp H
    obtain ⟨t133, A50, H⟩ := H
    replace H : (if t133 = true then ((words_Split.f k a0).bind fun t134 => ((watershedref08_Split.f k a0).bind fun t137 => ((watershedref08_Same.f k t134 t137).bind fun t140 => (if t140 = true then ((words_Name.f a0).bind fun t141 => ((watershedref08_Name.f k a0).bind fun t142 => (if (t141 == t142) = true then (some (t141 == t142)) else (none)))) else (some false))))) else (some false)) = some r := H
    have A5 := Aside0.mk A50
    clear A50
    by_cases c6 : t133 = true
    · subst c6
      have H1 : ((words_Split.f k a0).bind fun t134 => ((watershedref08_Split.f k a0).bind fun t137 => ((watershedref08_Same.f k t134 t137).bind fun t140 => (if t140 = true then ((words_Name.f a0).bind fun t141 => ((watershedref08_Name.f k a0).bind fun t142 => (if (t141 == t142) = true then (some (t141 == t142)) else (none)))) else (some false))))) = some r := by rw [if_pos rfl] at H; exact H
      clear H
      have H := H1
      clear H1
      replace H := Option.bind_eq_some_iff.mp H
      obtain ⟨t134, A70, H⟩ := H
      replace H : ((watershedref08_Split.f k a0).bind fun t137 => ((watershedref08_Same.f k t134 t137).bind fun t140 => (if t140 = true then ((words_Name.f a0).bind fun t141 => ((watershedref08_Name.f k a0).bind fun t142 => (if (t141 == t142) = true then (some (t141 == t142)) else (none)))) else (some false)))) = some r := H
      have A7 := Aside0.mk A70
      clear A70
      replace H := Option.bind_eq_some_iff.mp H
      obtain ⟨t137, A80, H⟩ := H
      replace H : ((watershedref08_Same.f k t134 t137).bind fun t140 => (if t140 = true then ((words_Name.f a0).bind fun t141 => ((watershedref08_Name.f k a0).bind fun t142 => (if (t141 == t142) = true then (some (t141 == t142)) else (none)))) else (some false))) = some r := H
      have A8 := Aside0.mk A80
      clear A80
      replace H := Option.bind_eq_some_iff.mp H
      obtain ⟨t140, A90, H⟩ := H
      replace H : (if t140 = true then ((words_Name.f a0).bind fun t141 => ((watershedref08_Name.f k a0).bind fun t142 => (if (t141 == t142) = true then (some (t141 == t142)) else (none)))) else (some false)) = some r := H
      have A9 := Aside0.mk A90
      clear A90
      by_cases c10 : t140 = true
      · subst c10
        have H1 : ((words_Name.f a0).bind fun t141 => ((watershedref08_Name.f k a0).bind fun t142 => (if (t141 == t142) = true then (some (t141 == t142)) else (none)))) = some r := by rw [if_pos rfl] at H; exact H
        clear H
        have H := H1
        clear H1
        replace H := Option.bind_eq_some_iff.mp H
        obtain ⟨t141, A110, H⟩ := H
        replace H : ((watershedref08_Name.f k a0).bind fun t142 => (if (t141 == t142) = true then (some (t141 == t142)) else (none))) = some r := H
        have A11 := Aside0.mk A110
        clear A110
        replace H := Option.bind_eq_some_iff.mp H
        obtain ⟨t142, A120, H⟩ := H
        replace H : (if (t141 == t142) = true then (some (t141 == t142)) else (none)) = some r := H
        have A12 := Aside0.mk A120
        clear A120
        by_cases c13 : (t141 == t142) = true
        · rw [if_pos c13] at H
          have c13b0 : (t141 == t142) = true := c13
          (try (have c13b1 : decide (t141 = t142) = true := by simpa using c13))
          (try (have c13b2 : (t141 == t142) = true := by simpa using c13))
          clear c13
          obtain rfl := Option.some.inj H
          go_enter Tryd.func3, Tryd.ntmps3
          go_wp2_with (first | ((with_reducible refine gate_callee (f := 7) rfl ?_); refine goesL_ (some 7) rfl rfl Tryd.func7 (by kernel_rfl) rfl #[.string a0] rfl zz2 ?_; (with_reducible refine (words_Lines.calls a0 t127 _ A3.out).mono ?_); rintro e w14 ⟨v128, rfl, ho0, hb⟩; refine ⟨_, rfl, ?_⟩; have n0_ := Aside0.mk (Kd.R_lower ho0 (below_size zz0)); have n1_ := Aside0.mk (below_step zz0 hb); clear HB; have HO129 := n0_; have HB := n1_; clear n0_ n1_; (try clear hb); (try clear hb2); (try clear hk); (try clear hi); (try clear ho0)) | ((with_reducible refine gate_callee (f := 8) rfl ?_); refine goesL_ (some 9) rfl rfl Tryd.func8 (by kernel_rfl) rfl #[.string a0] rfl zz2 ?_; (with_reducible refine (watershedref08_Lines.calls k a0 t130 _ A4.out).mono ?_); rintro e w15 ⟨v131, rfl, ho0, hb⟩; refine ⟨_, rfl, ?_⟩; have n0_ := Aside0.mk (Kd.R_elder' zz3 (Kd.R_base ho0) hb); have n1_ := Aside0.mk (Kd.R_lower (Kd.R_new' ho0 (Kd.R_lt zz3)) (below_size zz0)); have n2_ := Aside0.mk (below_step zz0 hb); clear HO129; clear HB; have HO129 := n0_; have HO132 := n1_; have HB := n2_; clear n0_ n1_ n2_; (try clear hb); (try clear hb2); (try clear hk); (try clear hi); (try clear ho0); obtain ⟨Ao16, co16, eo16⟩ := Kd.R_slice HO129.out; subst eo16; obtain ⟨Ao17, co17, eo17⟩ := Kd.R_slice HO132.out; subst eo17) | ((with_reducible refine gate_callee (f := 6) rfl ?_); refine goesL_ (some 10) rfl rfl Tryd.func6 (by kernel_rfl) rfl #[.slice Ao16 t127.length co16, .slice Ao17 t130.length co17] rfl zz2 ?_; (with_reducible refine (watershedref08_Same.calls k _ _ t127 _ _ t130 true _ ?side1 ?side2 ?side3 ?side4 A5.out).mono ?_); (case side1 => repeat (first | exact (Kd.R_reads' HO129.out).2.2 | (with_reducible refine Kd.C_alloc ?_ _) | (with_reducible refine Kd.C_drewN ?_ _) | (with_reducible refine Kd.C_drew ?_))); (case side2 => exact (Kd.R_reads' HO129.out).2.1); (case side3 => repeat (first | exact (Kd.R_reads' HO132.out).2.2 | (with_reducible refine Kd.C_alloc ?_ _) | (with_reducible refine Kd.C_drewN ?_ _) | (with_reducible refine Kd.C_drew ?_))); (case side4 => exact (Kd.R_reads' HO132.out).2.1); rintro e w' ⟨rfl, ⟨nd, rfl⟩⟩; refine ⟨_, rfl, ?_⟩) | (go_at_call 9; (with_reducible refine (words_Split.calls k a0 t134 _ A7.out).mono ?_); rintro e w18 ⟨v135, rfl, ho0, hb⟩; have n0_ := Aside0.mk (Kd.R_elder' zz3 (Kd.R_base ho0) hb); have n1_ := Aside0.mk (Kd.R_elder' zz5 (Kd.R_base ho0) hb); have n2_ := Aside0.mk (Kd.R_lower (Kd.R_new' (Kd.R_new' ho0 (Kd.R_lt zz3)) (Kd.R_lt zz5)) (below_size zz0)); have n3_ := Aside0.mk (below_step zz0 hb); clear HO129; clear HO132; clear HB; have HO129 := n0_; have HO132 := n1_; have HO136 := n2_; have HB := n3_; clear n0_ n1_ n2_ n3_; (try clear hb); (try clear hb2); (try clear hk); (try clear hi); (try clear ho0)) | (go_at_call 10; (with_reducible refine (watershedref08_Split.calls k a0 t137 _ A8.out).mono ?_); rintro e w19 ⟨v138, rfl, ho0, hb⟩; have n0_ := Aside0.mk (Kd.R_elder' zz3 (Kd.R_base ho0) hb); have n1_ := Aside0.mk (Kd.R_elder' zz5 (Kd.R_base ho0) hb); have n2_ := Aside0.mk (Kd.R_elder' zz6 (Kd.R_base ho0) hb); have n3_ := Aside0.mk (Kd.R_lower (Kd.R_new' (Kd.R_new' (Kd.R_new' ho0 (Kd.R_lt zz3)) (Kd.R_lt zz5)) (Kd.R_lt zz6)) (below_size zz0)); have n4_ := Aside0.mk (below_step zz0 hb); clear HO129; clear HO132; clear HO136; clear HB; have HO129 := n0_; have HO132 := n1_; have HO136 := n2_; have HO139 := n3_; have HB := n4_; clear n0_ n1_ n2_ n3_ n4_; (try clear hb); (try clear hb2); (try clear hk); (try clear hi); (try clear ho0); obtain ⟨Ao20, co20, eo20⟩ := Kd.R_slice HO136.out; subst eo20; obtain ⟨Ao21, co21, eo21⟩ := Kd.R_slice HO139.out; subst eo21) | (go_at_call 6; (with_reducible refine (watershedref08_Same.calls k _ _ t134 _ _ t137 true _ ?side1 ?side2 ?side3 ?side4 A9.out).mono ?_); (case side1 => repeat (first | exact (Kd.R_reads' HO136.out).2.2 | (with_reducible refine Kd.C_alloc ?_ _) | (with_reducible refine Kd.C_drewN ?_ _) | (with_reducible refine Kd.C_drew ?_))); (case side2 => exact (Kd.R_reads' HO136.out).2.1); (case side3 => repeat (first | exact (Kd.R_reads' HO139.out).2.2 | (with_reducible refine Kd.C_alloc ?_ _) | (with_reducible refine Kd.C_drewN ?_ _) | (with_reducible refine Kd.C_drew ?_))); (case side4 => exact (Kd.R_reads' HO139.out).2.1); rintro e w' ⟨rfl, ⟨nd, rfl⟩⟩) | (go_at_call 11; (with_reducible refine (words_Name.calls a0 t141 _ A11.out).mono ?_); rintro e w22 ⟨rfl, hb⟩; have n0_ := Aside0.mk (Kd.R_below zz3 hb); have n1_ := Aside0.mk (Kd.R_below zz5 hb); have n2_ := Aside0.mk (Kd.R_below zz6 hb); have n3_ := Aside0.mk (Kd.R_below (by (with_reducible repeat (first | apply Kd.R_alloc | apply Kd.R_drewN | apply Kd.R_drew)); exact HO139.out) hb); have n4_ := Aside0.mk (below_step zz0 hb); clear HO129; clear HO132; clear HO136; clear HO139; clear HB; have HO129 := n0_; have HO132 := n1_; have HO136 := n2_; have HO139 := n3_; have HB := n4_; clear n0_ n1_ n2_ n3_ n4_; (try clear hb); (try clear hb2); (try clear hk); (try clear hi)) | (go_at_call 12; (with_reducible refine (watershedref08_Name.calls k a0 t142 _ A12.out).mono ?_); rintro e w' ⟨rfl, ⟨nd, rfl⟩⟩))
          go_ret
          exact ⟨by first | rfl | (simp [errW_none, errW_some] <;> rfl) | (simp [*, errW_none, errW_some] <;> rfl), by repeat (first | (with_reducible first | exact HB.out | apply below_alloc | apply pw_below_drewN | apply below_drew1) | exact HB.out)⟩
        · rw [if_neg c13] at H
          exact absurd H (by simp)
      · replace c10 := Bool.eq_false_iff.mpr c10
        subst c10
        have H1 : (some false) = some r := by rw [if_neg (show ¬ (false = true) by decide)] at H; exact H
        clear H
        have H := H1
        clear H1
        obtain rfl := Option.some.inj H
        go_enter Tryd.func3, Tryd.ntmps3
        go_wp2_with (first | ((with_reducible refine gate_callee (f := 7) rfl ?_); refine goesL_ (some 7) rfl rfl Tryd.func7 (by kernel_rfl) rfl #[.string a0] rfl zz2 ?_; (with_reducible refine (words_Lines.calls a0 t127 _ A3.out).mono ?_); rintro e w23 ⟨v128, rfl, ho0, hb⟩; refine ⟨_, rfl, ?_⟩; have n0_ := Aside0.mk (Kd.R_lower ho0 (below_size zz0)); have n1_ := Aside0.mk (below_step zz0 hb); clear HB; have HO129 := n0_; have HB := n1_; clear n0_ n1_; (try clear hb); (try clear hb2); (try clear hk); (try clear hi); (try clear ho0)) | ((with_reducible refine gate_callee (f := 8) rfl ?_); refine goesL_ (some 9) rfl rfl Tryd.func8 (by kernel_rfl) rfl #[.string a0] rfl zz2 ?_; (with_reducible refine (watershedref08_Lines.calls k a0 t130 _ A4.out).mono ?_); rintro e w24 ⟨v131, rfl, ho0, hb⟩; refine ⟨_, rfl, ?_⟩; have n0_ := Aside0.mk (Kd.R_elder' zz3 (Kd.R_base ho0) hb); have n1_ := Aside0.mk (Kd.R_lower (Kd.R_new' ho0 (Kd.R_lt zz3)) (below_size zz0)); have n2_ := Aside0.mk (below_step zz0 hb); clear HO129; clear HB; have HO129 := n0_; have HO132 := n1_; have HB := n2_; clear n0_ n1_ n2_; (try clear hb); (try clear hb2); (try clear hk); (try clear hi); (try clear ho0); obtain ⟨Ao25, co25, eo25⟩ := Kd.R_slice HO129.out; subst eo25; obtain ⟨Ao26, co26, eo26⟩ := Kd.R_slice HO132.out; subst eo26) | ((with_reducible refine gate_callee (f := 6) rfl ?_); refine goesL_ (some 10) rfl rfl Tryd.func6 (by kernel_rfl) rfl #[.slice Ao25 t127.length co25, .slice Ao26 t130.length co26] rfl zz2 ?_; (with_reducible refine (watershedref08_Same.calls k _ _ t127 _ _ t130 true _ ?side1 ?side2 ?side3 ?side4 A5.out).mono ?_); (case side1 => repeat (first | exact (Kd.R_reads' HO129.out).2.2 | (with_reducible refine Kd.C_alloc ?_ _) | (with_reducible refine Kd.C_drewN ?_ _) | (with_reducible refine Kd.C_drew ?_))); (case side2 => exact (Kd.R_reads' HO129.out).2.1); (case side3 => repeat (first | exact (Kd.R_reads' HO132.out).2.2 | (with_reducible refine Kd.C_alloc ?_ _) | (with_reducible refine Kd.C_drewN ?_ _) | (with_reducible refine Kd.C_drew ?_))); (case side4 => exact (Kd.R_reads' HO132.out).2.1); rintro e w' ⟨rfl, ⟨nd, rfl⟩⟩; refine ⟨_, rfl, ?_⟩) | (go_at_call 9; (with_reducible refine (words_Split.calls k a0 t134 _ A7.out).mono ?_); rintro e w27 ⟨v135, rfl, ho0, hb⟩; have n0_ := Aside0.mk (Kd.R_elder' zz3 (Kd.R_base ho0) hb); have n1_ := Aside0.mk (Kd.R_elder' zz5 (Kd.R_base ho0) hb); have n2_ := Aside0.mk (Kd.R_lower (Kd.R_new' (Kd.R_new' ho0 (Kd.R_lt zz3)) (Kd.R_lt zz5)) (below_size zz0)); have n3_ := Aside0.mk (below_step zz0 hb); clear HO129; clear HO132; clear HB; have HO129 := n0_; have HO132 := n1_; have HO136 := n2_; have HB := n3_; clear n0_ n1_ n2_ n3_; (try clear hb); (try clear hb2); (try clear hk); (try clear hi); (try clear ho0)) | (go_at_call 10; (with_reducible refine (watershedref08_Split.calls k a0 t137 _ A8.out).mono ?_); rintro e w28 ⟨v138, rfl, ho0, hb⟩; have n0_ := Aside0.mk (Kd.R_elder' zz3 (Kd.R_base ho0) hb); have n1_ := Aside0.mk (Kd.R_elder' zz5 (Kd.R_base ho0) hb); have n2_ := Aside0.mk (Kd.R_elder' zz6 (Kd.R_base ho0) hb); have n3_ := Aside0.mk (Kd.R_lower (Kd.R_new' (Kd.R_new' (Kd.R_new' ho0 (Kd.R_lt zz3)) (Kd.R_lt zz5)) (Kd.R_lt zz6)) (below_size zz0)); have n4_ := Aside0.mk (below_step zz0 hb); clear HO129; clear HO132; clear HO136; clear HB; have HO129 := n0_; have HO132 := n1_; have HO136 := n2_; have HO139 := n3_; have HB := n4_; clear n0_ n1_ n2_ n3_ n4_; (try clear hb); (try clear hb2); (try clear hk); (try clear hi); (try clear ho0); obtain ⟨Ao29, co29, eo29⟩ := Kd.R_slice HO136.out; subst eo29; obtain ⟨Ao30, co30, eo30⟩ := Kd.R_slice HO139.out; subst eo30) | (go_at_call 6; (with_reducible refine (watershedref08_Same.calls k _ _ t134 _ _ t137 false _ ?side1 ?side2 ?side3 ?side4 A9.out).mono ?_); (case side1 => repeat (first | exact (Kd.R_reads' HO136.out).2.2 | (with_reducible refine Kd.C_alloc ?_ _) | (with_reducible refine Kd.C_drewN ?_ _) | (with_reducible refine Kd.C_drew ?_))); (case side2 => exact (Kd.R_reads' HO136.out).2.1); (case side3 => repeat (first | exact (Kd.R_reads' HO139.out).2.2 | (with_reducible refine Kd.C_alloc ?_ _) | (with_reducible refine Kd.C_drewN ?_ _) | (with_reducible refine Kd.C_drew ?_))); (case side4 => exact (Kd.R_reads' HO139.out).2.1); rintro e w' ⟨rfl, ⟨nd, rfl⟩⟩))
        go_ret
        exact ⟨by first | rfl | (simp [errW_none, errW_some] <;> rfl) | (simp [*, errW_none, errW_some] <;> rfl), by repeat (first | (with_reducible first | exact HB.out | apply below_alloc | apply pw_below_drewN | apply below_drew1) | exact HB.out)⟩
    · replace c6 := Bool.eq_false_iff.mpr c6
      subst c6
      have H1 : (some false) = some r := by rw [if_neg (show ¬ (false = true) by decide)] at H; exact H
      clear H
      have H := H1
      clear H1
      obtain rfl := Option.some.inj H
      go_enter Tryd.func3, Tryd.ntmps3
      go_wp2_with (first | ((with_reducible refine gate_callee (f := 7) rfl ?_); refine goesL_ (some 7) rfl rfl Tryd.func7 (by kernel_rfl) rfl #[.string a0] rfl zz2 ?_; (with_reducible refine (words_Lines.calls a0 t127 _ A3.out).mono ?_); rintro e w31 ⟨v128, rfl, ho0, hb⟩; refine ⟨_, rfl, ?_⟩; have n0_ := Aside0.mk (Kd.R_lower ho0 (below_size zz0)); have n1_ := Aside0.mk (below_step zz0 hb); clear HB; have HO129 := n0_; have HB := n1_; clear n0_ n1_; (try clear hb); (try clear hb2); (try clear hk); (try clear hi); (try clear ho0)) | ((with_reducible refine gate_callee (f := 8) rfl ?_); refine goesL_ (some 9) rfl rfl Tryd.func8 (by kernel_rfl) rfl #[.string a0] rfl zz2 ?_; (with_reducible refine (watershedref08_Lines.calls k a0 t130 _ A4.out).mono ?_); rintro e w32 ⟨v131, rfl, ho0, hb⟩; refine ⟨_, rfl, ?_⟩; have n0_ := Aside0.mk (Kd.R_elder' zz3 (Kd.R_base ho0) hb); have n1_ := Aside0.mk (Kd.R_lower (Kd.R_new' ho0 (Kd.R_lt zz3)) (below_size zz0)); have n2_ := Aside0.mk (below_step zz0 hb); clear HO129; clear HB; have HO129 := n0_; have HO132 := n1_; have HB := n2_; clear n0_ n1_ n2_; (try clear hb); (try clear hb2); (try clear hk); (try clear hi); (try clear ho0); obtain ⟨Ao33, co33, eo33⟩ := Kd.R_slice HO129.out; subst eo33; obtain ⟨Ao34, co34, eo34⟩ := Kd.R_slice HO132.out; subst eo34) | ((with_reducible refine gate_callee (f := 6) rfl ?_); refine goesL_ (some 10) rfl rfl Tryd.func6 (by kernel_rfl) rfl #[.slice Ao33 t127.length co33, .slice Ao34 t130.length co34] rfl zz2 ?_; (with_reducible refine (watershedref08_Same.calls k _ _ t127 _ _ t130 false _ ?side1 ?side2 ?side3 ?side4 A5.out).mono ?_); (case side1 => repeat (first | exact (Kd.R_reads' HO129.out).2.2 | (with_reducible refine Kd.C_alloc ?_ _) | (with_reducible refine Kd.C_drewN ?_ _) | (with_reducible refine Kd.C_drew ?_))); (case side2 => exact (Kd.R_reads' HO129.out).2.1); (case side3 => repeat (first | exact (Kd.R_reads' HO132.out).2.2 | (with_reducible refine Kd.C_alloc ?_ _) | (with_reducible refine Kd.C_drewN ?_ _) | (with_reducible refine Kd.C_drew ?_))); (case side4 => exact (Kd.R_reads' HO132.out).2.1); rintro e w' ⟨rfl, ⟨nd, rfl⟩⟩; refine ⟨_, rfl, ?_⟩))
      go_ret
      exact ⟨by first | rfl | (simp [errW_none, errW_some] <;> rfl) | (simp [*, errW_none, errW_some] <;> rfl), by repeat (first | (with_reducible first | exact HB.out | apply below_alloc | apply pw_below_drewN | apply below_drew1) | exact HB.out)⟩

end Go.Proofs.YtmpgknemhmoboaaDoor.Q08c
