-- Laid by wip/pp.py for this seat.
import Derived.Test.YtjkbgcdhhiakmaaDoorQ04Tx0
import Derived.Test.YtjkbgcdhhiakmaaDoorQ04Tx1
import Derived.Test.YtjkbgcdhhiakmaaDoorQ04Tx2
import Derived.Test.YtjkbgcdhhiakmaaDoorQ04Tx3
import Derived.Test.YtjkbgcdhhiakmaaDoorX04p
import Derived.Test.YtjkbgcdhhiakmaaDoorX04t
namespace Go.Proofs.YtjkbgcdhhiakmaaDoor.Q04T
open Go.RowKit Go.Proofs.YtjkbgcdhhiakmaaDoorW.PrintWords Go.Proofs.YtjkbgcdhhiakmaaDoorW.PrintLast Go.Proofs.YtjkbgcdhhiakmaaDoorW.PrintMore
attribute [local go_sem] max2_int min2_int max_two min_two max_three min_three max_four min_four   -- for this text's walks alone
set_option linter.unusedVariables false
set_option linter.unusedSimpArgs false

open Go.Proofs.YtjkbgcdhhiakmaaDoor.Ext
attribute [local go_sem high] eqA25
/-! ### watershedlaw04_StampTexts: function 3 -/
def watershedlaw04_StampTexts.f (k : Nat) (a0_0 : Int) (a0_1 : Int) (a0_2 : Int) (a0_3 : Int) (a0_4 : Int) (a1 : ByteArray) : Option (Bool) := if (a1.size : Int) > 5000 then (some true) else ((stamp_Text.f a0_0 a0_1 a0_2 a0_3 a0_4).bind fun bt118 => ((watershedref04_Text.f k a0_0 a0_1 a0_2 a0_3 a0_4).bind fun bt120 => ((stamp_Parse.f a1).bind fun bt122 => ((watershedref04_Parse.f k a1).bind fun bt129 => (if bt118.1.toList = bt120.1.toList then (if bt118.2 = bt120.2 then (if (bt122.1 == bt129.1 && (bt122.2.1 == bt129.2.1 && ((bt122.2.2.1 == bt129.2.2.1 && (bt122.2.2.2.1 == bt129.2.2.2.1 && (bt122.2.2.2.2.1 == bt129.2.2.2.2.1)))))) = true then (if bt122.2.2.2.2.2 = bt129.2.2.2.2.2 then (some (bt122.2.2.2.2.2 == bt129.2.2.2.2.2)) else (none)) else (none)) else (none)) else (none))))))
theorem watershedlaw04_StampTexts.mono : ∀ a0 a1 a2 a3 a4 a5 k, LeO (watershedlaw04_StampTexts.f k a0 a1 a2 a3 a4 a5) (watershedlaw04_StampTexts.f (k + 1) a0 a1 a2 a3 a4 a5) := by
  intro a0 a1 a2 a3 a4 a5 k
  unfold watershedlaw04_StampTexts.f
  repeat' first
      | (with_reducible exact watershedref04_Parse.mono _ _)
      | (with_reducible exact watershedref04_Text.mono _ _ _ _ _ _)
      | (with_reducible exact LeO.refl _)
      | (with_reducible exact LeO.none _)
      | (with_reducible refine LeO.ite ?_ ?_)
      | (with_reducible refine LeO.bind ?_ (fun _ => ?_))
      | exact watershedref04_Parse.mono _ _
      | exact watershedref04_Text.mono _ _ _ _ _ _
      | exact LeO.none _
      | refine LeO.ite ?_ ?_
      | refine LeO.bind ?_ (fun _ => ?_)
set_option maxHeartbeats 8000000 in
set_option maxRecDepth 100000 in
theorem watershedlaw04_StampTexts.calls (k : Nat) (a0_0 : Int) (a0_1 : Int) (a0_2 : Int) (a0_3 : Int) (a0_4 : Int) (a1 : ByteArray) (r : Bool) (w : World) (h : watershedlaw04_StampTexts.f k a0_0 a0_1 a0_2 a0_3 a0_4 a1 = some r) (HV : Aside0 (VARS w) := by first | exact HV | exact ⟨Ext.vars_below HV.out (by repeat (first | (with_reducible first | exact HB.out | apply below_alloc | apply pw_below_drewN | apply below_drew1 | refine below_set ?_ (Aside0.out (by assumption))) | exact HB.out))⟩) :
    Calls Tryd.prog 3 #[.agg #[.int .u32 a0_0, .int .i64 a0_1, .int .u32 a0_2, .int .u32 a0_3, .int .u32 a0_4], .string a1] w fun e w' => e = .returned (.bool r) ∧ Below w.heap.size w w' := by
  have hu25 := Tryd.underlying25
  have HB := Aside0.mk (Below.refl w.heap.size w)
  have H : (if (a1.size : Int) > 5000 then (some true) else ((stamp_Text.f a0_0 a0_1 a0_2 a0_3 a0_4).bind fun bt118 => ((watershedref04_Text.f k a0_0 a0_1 a0_2 a0_3 a0_4).bind fun bt120 => ((stamp_Parse.f a1).bind fun bt122 => ((watershedref04_Parse.f k a1).bind fun bt129 => (if bt118.1.toList = bt120.1.toList then (if bt118.2 = bt120.2 then (if (bt122.1 == bt129.1 && (bt122.2.1 == bt129.2.1 && ((bt122.2.2.1 == bt129.2.2.1 && (bt122.2.2.2.1 == bt129.2.2.2.1 && (bt122.2.2.2.2.1 == bt129.2.2.2.2.1)))))) = true then (if bt122.2.2.2.2.2 = bt129.2.2.2.2.2 then (some (bt122.2.2.2.2.2 == bt129.2.2.2.2.2)) else (none)) else (none)) else (none)) else (none))))))) = some r := h
  clear h
  by_cases c3 : (a1.size : Int) > 5000
  · rw [if_pos c3] at H
    have c3b0 : decide (5000 < (a1.size : Int)) = true := decide_eq_true c3
    have c3b1 : decide (5000 < a1.size) = true := decide_eq_true (by omega)
    clear c3
    obtain rfl := Option.some.inj H
    go_enter Tryd.func3, Tryd.ntmps3
    go_wp2_with (first | ((with_reducible refine gate_dst (N := 2) rfl ?_); refine box_event ?hg (N := 2) ?hd (cs := #[.int .u32 a0_0, .int .i64 a0_1, .int .u32 a0_2, .int .u32 a0_3, .int .u32 a0_4]) (t := 25) ?hr ?_; (case hd => rfl); (case hg => rfl); (case hr => first | (go_simp; done) | (go_simp; rfl)); intro gb117 hg w4 hbox hb; have n0_ := Aside0.mk (below_step zz3 hb); have n1_ := Aside0.mk (hbox); have n2_ := Aside0.mk ((by rw [hg]; exact (below_size zz3) : w.heap.size ≤ gb117)); have n3_ := Aside0.mk ((by rw [hg]; exact (below_size zz3) : w.heap.size ≤ gb117)); clear HB; have HB := n0_; have BK117 := n1_; have GW117 := n2_; have GE117 := n3_; clear n0_ n1_ n2_ n3_; clear hb hbox hg))
    go_ret
    exact ⟨by first | rfl | (simp [errW_none, errW_some] <;> rfl) | (simp [*, errW_none, errW_some] <;> rfl), by repeat (first | (with_reducible first | exact HB.out | apply below_alloc | apply pw_below_drewN | apply below_drew1 | refine below_set ?_ GE117.out) | exact HB.out)⟩
  · rw [if_neg c3] at H
    have c3b0 : decide (5000 < (a1.size : Int)) = false := decide_eq_false c3
    have c3b1 : decide (5000 < a1.size) = false := decide_eq_false (by omega)
    clear c3
    replace H := Option.bind_eq_some_iff.mp H
    obtain ⟨⟨t118, t119⟩, A50, H⟩ := H
    replace H : ((watershedref04_Text.f k a0_0 a0_1 a0_2 a0_3 a0_4).bind fun bt120 => ((stamp_Parse.f a1).bind fun bt122 => ((watershedref04_Parse.f k a1).bind fun bt129 => (if t118.toList = bt120.1.toList then (if t119 = bt120.2 then (if (bt122.1 == bt129.1 && (bt122.2.1 == bt129.2.1 && ((bt122.2.2.1 == bt129.2.2.1 && (bt122.2.2.2.1 == bt129.2.2.2.1 && (bt122.2.2.2.2.1 == bt129.2.2.2.2.1)))))) = true then (if bt122.2.2.2.2.2 = bt129.2.2.2.2.2 then (some (bt122.2.2.2.2.2 == bt129.2.2.2.2.2)) else (none)) else (none)) else (none)) else (none))))) = some r := H
    have A5 := Aside0.mk A50
    clear A50
    replace H := Option.bind_eq_some_iff.mp H
    obtain ⟨⟨t120, t121⟩, A60, H⟩ := H
    replace H : ((stamp_Parse.f a1).bind fun bt122 => ((watershedref04_Parse.f k a1).bind fun bt129 => (if t118.toList = t120.toList then (if t119 = t121 then (if (bt122.1 == bt129.1 && (bt122.2.1 == bt129.2.1 && ((bt122.2.2.1 == bt129.2.2.1 && (bt122.2.2.2.1 == bt129.2.2.2.1 && (bt122.2.2.2.2.1 == bt129.2.2.2.2.1)))))) = true then (if bt122.2.2.2.2.2 = bt129.2.2.2.2.2 then (some (bt122.2.2.2.2.2 == bt129.2.2.2.2.2)) else (none)) else (none)) else (none)) else (none)))) = some r := H
    have A6 := Aside0.mk A60
    clear A60
    replace H := Option.bind_eq_some_iff.mp H
    obtain ⟨⟨t122, t123, t124, t125, t126, t127⟩, A70, H⟩ := H
    replace H : ((watershedref04_Parse.f k a1).bind fun bt129 => (if t118.toList = t120.toList then (if t119 = t121 then (if (t122 == bt129.1 && (t123 == bt129.2.1 && ((t124 == bt129.2.2.1 && (t125 == bt129.2.2.2.1 && (t126 == bt129.2.2.2.2.1)))))) = true then (if t127 = bt129.2.2.2.2.2 then (some (t127 == bt129.2.2.2.2.2)) else (none)) else (none)) else (none)) else (none))) = some r := H
    have A7 := Aside0.mk A70
    clear A70
    replace H := Option.bind_eq_some_iff.mp H
    obtain ⟨⟨t129, t130, t131, t132, t133, t134⟩, A80, H⟩ := H
    replace H : (if t118.toList = t120.toList then (if t119 = t121 then (if (t122 == t129 && (t123 == t130 && ((t124 == t131 && (t125 == t132 && (t126 == t133)))))) = true then (if t127 = t134 then (some (t127 == t134)) else (none)) else (none)) else (none)) else (none)) = some r := H
    have A8 := Aside0.mk A80
    clear A80
    by_cases c9 : t118.toList = t120.toList
    · rw [if_pos c9] at H
      have c9b0 : (t118.toList == t120.toList) = true := beq_iff_eq.mpr c9
      have c9b1 : (t118.toList != t120.toList) = false := bne_eq_false_iff_eq.mpr c9
      clear c9
      by_cases c10 : t119 = t121
      · rw [if_pos c10] at H
        have c10b0 : (t119 == t121) = true := beq_iff_eq.mpr c10
        have c10b1 : (t119 != t121) = false := bne_eq_false_iff_eq.mpr c10
        clear c10
        by_cases c11 : (t122 == t129 && (t123 == t130 && ((t124 == t131 && (t125 == t132 && (t126 == t133)))))) = true
        · rw [if_pos c11] at H
          have c11b0 : (t122 == t129 && (t123 == t130 && ((t124 == t131 && (t125 == t132 && (t126 == t133)))))) = true := c11
          (try (have c11b1 : decide (t122 = t129 && (t123 == t130 && ((t124 == t131 && (t125 == t132 && (t126 == t133)))))) = true := by simpa using c11))
          (try (have c11b2 : (t122 == t129 && (t123 == t130 && ((t124 == t131 && (t125 == t132 && (t126 == t133)))))) = true := by simpa using c11))
          clear c11
          by_cases c12 : t127 = t134
          · rw [if_pos c12] at H
            have c12b0 : (t127 == t134) = true := beq_iff_eq.mpr c12
            have c12b1 : (t127 != t134) = false := bne_eq_false_iff_eq.mpr c12
            clear c12
            obtain rfl := Option.some.inj H
            go_enter Tryd.func3, Tryd.ntmps3
            go_wp2_with (first | ((with_reducible refine gate_dst (N := 2) rfl ?_); refine box_event ?hg (N := 2) ?hd (cs := #[.int .u32 a0_0, .int .i64 a0_1, .int .u32 a0_2, .int .u32 a0_3, .int .u32 a0_4]) (t := 25) ?hr ?_; (case hd => rfl); (case hg => rfl); (case hr => first | (go_simp; done) | (go_simp; rfl)); intro gb117 hg w13 hbox hb; have n0_ := Aside0.mk (below_step zz3 hb); have n1_ := Aside0.mk (hbox); have n2_ := Aside0.mk ((by rw [hg]; exact (below_size zz3) : w.heap.size ≤ gb117)); have n3_ := Aside0.mk ((by rw [hg]; exact (below_size zz3) : w.heap.size ≤ gb117)); clear HB; have HB := n0_; have BK117 := n1_; have GW117 := n2_; have GE117 := n3_; clear n0_ n1_ n2_ n3_; clear hb hbox hg; obtain ⟨hcz14_0, hcz14_1, hcz14_2, hcz14_3, hcz14_4, hfz14_0, hfz14_1, hfz14_2, hfz14_3, hfz14_4⟩ := yC5 BK117) | ((with_reducible refine gate_callee (f := 8) rfl ?_); refine goesL_ (some 18) rfl rfl Tryd.func8 (by kernel_rfl) rfl #[.agg #[.int .u32 a0_0, .int .i64 a0_1, .int .u32 a0_2, .int .u32 a0_3, .int .u32 a0_4]] rfl zz5 ?_; (with_reducible refine (stamp_Text.calls a0_0 a0_1 a0_2 a0_3 a0_4 t118 t119 _ A5.out).mono ?_); rintro e w15 ⟨rfl, hb⟩; refine ⟨_, rfl, ?_⟩; have n0_ := yB BK117 hb; have n1_ := Aside0.mk (below_step zz8 hb); clear BK117; clear HB; have BK117 := n0_; have HB := n1_; clear n0_ n1_; (try clear hb); (try clear hb2); (try clear hk); (try clear hi); obtain ⟨hcz16_0, hcz16_1, hcz16_2, hcz16_3, hcz16_4, hfz16_0, hfz16_1, hfz16_2, hfz16_3, hfz16_4⟩ := yC5 BK117) | ((with_reducible refine gate_callee (f := 9) rfl ?_); refine goesL_ (some 23) rfl rfl Tryd.func9 (by kernel_rfl) rfl #[.agg #[.int .u32 a0_0, .int .i64 a0_1, .int .u32 a0_2, .int .u32 a0_3, .int .u32 a0_4]] rfl zz5 ?_; (with_reducible refine (watershedref04_Text.calls k a0_0 a0_1 a0_2 a0_3 a0_4 t120 t121 _ A6.out).mono ?_); rintro e w17 ⟨rfl, hb⟩; refine ⟨_, rfl, ?_⟩; have n0_ := yB BK117 hb; have n1_ := Aside0.mk (below_step zz8 hb); clear BK117; clear HB; have BK117 := n0_; have HB := n1_; clear n0_ n1_; (try clear hb); (try clear hb2); (try clear hk); (try clear hi)) | ((with_reducible refine gate_callee (f := 10) rfl ?_); refine goesL_ (some 28) rfl rfl Tryd.func10 (by kernel_rfl) rfl #[.string a1] rfl zz5 ?_; (with_reducible refine (stamp_Parse.calls a1 t122 t123 t124 t125 t126 t127 _ A7.out).mono ?_); rintro e w18 ⟨rfl, hb⟩; refine ⟨_, rfl, ?_⟩; have n0_ := yB BK117 hb; have n1_ := Aside0.mk (below_step zz8 hb); clear BK117; clear HB; have BK117 := n0_; have HB := n1_; clear n0_ n1_; (try clear hb); (try clear hb2); (try clear hk); (try clear hi)) | ((with_reducible refine gate_dst (N := 9) rfl ?_); refine box_event ?hg (N := 9) ?hd (cs := #[.int .u32 0, .int .i64 0, .int .u32 0, .int .u32 0, .int .u32 0]) (t := 25) ?hr ?_; (case hd => rfl); (case hg => rfl); (case hr => first | (go_simp; done) | (go_simp; rfl)); intro gb128 hg w19 hbox hb; have n0_ := yB BK117 hb; have n1_ := Aside0.mk (below_step zz8 hb); have n2_ := Aside0.mk (hbox); have n3_ := Aside0.mk ((by rw [hg]; exact (below_size zz8) : w.heap.size ≤ gb128)); have n4_ := Aside0.mk ((by rw [hg]; exact (below_size zz8) : w.heap.size ≤ gb128)); have n5_ := yN BK117 hg; have n6_ := yM BK117 hg; clear BK117; clear HB; have BK117 := n0_; have HB := n1_; have BK128 := n2_; have GW128 := n3_; have GE128 := n4_; have NB117_128 := n5_; have NB128_117 := n6_; clear n0_ n1_ n2_ n3_ n4_ n5_ n6_; clear hb hbox hg; have hnb20 := NB128_117.out; have hnc20 := NB117_128.out; obtain ⟨hcz21_0, hcz21_1, hcz21_2, hcz21_3, hcz21_4, hfz21_0, hfz21_1, hfz21_2, hfz21_3, hfz21_4⟩ := yC5 BK128) | ((with_reducible refine gate_callee (f := 11) rfl ?_); refine goesL_ (some 33) rfl rfl Tryd.func11 (by kernel_rfl) rfl #[.string a1] rfl zz5 ?_; (with_reducible refine (watershedref04_Parse.calls k a1 t129 t130 t131 t132 t133 t134 _ A8.out).mono ?_); rintro e w22 ⟨rfl, hb⟩; refine ⟨_, rfl, ?_⟩; have n0_ := yB BK117 hb; have n1_ := Aside0.mk (blk_below (g := gb128) (o := .cells #[.int .u32 t122, .int .i64 t123, .int .u32 t124, .int .u32 t125, .int .u32 t126] 25 (0, 0)) (by (with_reducible repeat (first | refine blk_drewN ?_ _ | refine blk_drew ?_ | refine blk_alloc ?_ _)); refine blk_put (cs := #[.int .u32 t122, .int .i64 t123, .int .u32 t124, .int .u32 t125, .int .u32 0]) ?_ 4 _ rfl; (with_reducible repeat (first | refine blk_drewN ?_ _ | refine blk_drew ?_ | refine blk_alloc ?_ _)); refine blk_put (cs := #[.int .u32 t122, .int .i64 t123, .int .u32 t124, .int .u32 0, .int .u32 0]) ?_ 3 _ rfl; (with_reducible repeat (first | refine blk_drewN ?_ _ | refine blk_drew ?_ | refine blk_alloc ?_ _)); refine blk_put (cs := #[.int .u32 t122, .int .i64 t123, .int .u32 0, .int .u32 0, .int .u32 0]) ?_ 2 _ rfl; (with_reducible repeat (first | refine blk_drewN ?_ _ | refine blk_drew ?_ | refine blk_alloc ?_ _)); refine blk_put (cs := #[.int .u32 t122, .int .i64 0, .int .u32 0, .int .u32 0, .int .u32 0]) ?_ 1 _ rfl; (with_reducible repeat (first | refine blk_drewN ?_ _ | refine blk_drew ?_ | refine blk_alloc ?_ _)); refine blk_put (cs := #[.int .u32 0, .int .i64 0, .int .u32 0, .int .u32 0, .int .u32 0]) ?_ 0 _ rfl; (with_reducible repeat (first | refine blk_drewN ?_ _ | refine blk_drew ?_ | refine blk_alloc ?_ _)); exact BK128.out) hb); have n2_ := Aside0.mk (below_step zz9 hb); clear BK117; clear BK128; clear HB; have BK117 := n0_; have BK128 := n1_; have HB := n2_; clear n0_ n1_ n2_; (try clear hb); (try clear hb2); (try clear hk); (try clear hi)) | ((with_reducible refine gate_dst (N := 11) rfl ?_); refine box_event ?hg (N := 11) ?hd (cs := #[.int .u32 0, .int .i64 0, .int .u32 0, .int .u32 0, .int .u32 0]) (t := 25) ?hr ?_; (case hd => rfl); (case hg => rfl); (case hr => first | (go_simp; done) | (go_simp; rfl)); intro gb135 hg w23 hbox hb; have n0_ := yB BK117 hb; have n1_ := yB BK128 hb; have n2_ := Aside0.mk (below_step zz9 hb); have n3_ := Aside0.mk (hbox); have n4_ := Aside0.mk ((by rw [hg]; exact (below_size zz9) : w.heap.size ≤ gb135)); have n5_ := Aside0.mk ((by rw [hg]; exact (below_size zz9) : w.heap.size ≤ gb135)); have n6_ := yN BK117 hg; have n7_ := yM BK117 hg; have n8_ := yN BK128 hg; have n9_ := yM BK128 hg; clear BK117; clear BK128; clear HB; have BK117 := n0_; have BK128 := n1_; have HB := n2_; have BK135 := n3_; have GW135 := n4_; have GE135 := n5_; have NB117_135 := n6_; have NB135_117 := n7_; have NB128_135 := n8_; have NB135_128 := n9_; clear n0_ n1_ n2_ n3_ n4_ n5_ n6_ n7_ n8_ n9_; clear hb hbox hg; have hnb24 := NB135_117.out; have hnc24 := NB117_135.out; have hnb25 := NB135_128.out; have hnc25 := NB128_135.out; obtain ⟨hcz26_0, hcz26_1, hcz26_2, hcz26_3, hcz26_4, hfz26_0, hfz26_1, hfz26_2, hfz26_3, hfz26_4⟩ := yC5 BK135; obtain ⟨hcz27_0, hcz27_1, hcz27_2, hcz27_3, hcz27_4, hfz27_0, hfz27_1, hfz27_2, hfz27_3, hfz27_4⟩ := yC5 BK128))
            go_ret
            exact ⟨by first | rfl | (simp [errW_none, errW_some] <;> rfl) | (simp [*, errW_none, errW_some] <;> rfl), by repeat (first | (with_reducible first | exact HB.out | apply below_alloc | apply pw_below_drewN | apply below_drew1 | refine below_set ?_ GE117.out | refine below_set ?_ GE128.out | refine below_set ?_ GE135.out) | exact HB.out)⟩
          · rw [if_neg c12] at H
            exact absurd H (by simp)
        · rw [if_neg c11] at H
          exact absurd H (by simp)
      · rw [if_neg c10] at H
        exact absurd H (by simp)
    · rw [if_neg c9] at H
      exact absurd H (by simp)

end Go.Proofs.YtjkbgcdhhiakmaaDoor.Q04T
