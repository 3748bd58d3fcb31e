-- Laid by wip/pp.py for this seat.
import Derived.Test.YtjkbgcdhhiakmaaDoorQ04Tx0
import Derived.Test.YtjkbgcdhhiakmaaDoorQ04Tx2
namespace Go.Proofs.YtjkbgcdhhiakmaaDoor.Q04T
open Go.RowKit Go.Proofs.YtjkbgcdhhiakmaaDoorW.PrintWords Go.Proofs.YtjkbgcdhhiakmaaDoorW.PrintLast Go.Proofs.YtjkbgcdhhiakmaaDoorW.PrintMore
attribute [local go_sem] max2_int min2_int max_two min_two max_three min_three max_four min_four   -- for this text's walks alone
set_option linter.unusedVariables false
set_option linter.unusedSimpArgs false

/-! ### watershedref04_Parse: function 11 -/
mutual
def watershedref04_Parse.l0 : Nat → ByteArray → Int → Int → Int → Int → Int → Int → Int → Option (Int × Int × Int × Int × Int × Int)
  | 0, _, _, _, _, _, _, _, _ => none
  | k + 1, x0, x5, x6, x114000, x114001, x114002, x114003, x114004 => if x6 < (x0.size : Int) then (watershedref04_Parse.j1 k x0 x5 x6 (decide (x6 < 40)) x114000 x114001 x114002 x114003 x114004) else (watershedref04_Parse.j1 k x0 x5 x6 false x114000 x114001 x114002 x114003 x114004)
def watershedref04_Parse.j1 : Nat → ByteArray → Int → Int → Bool → Int → Int → Int → Int → Int → Option (Int × Int × Int × Int × Int × Int)
  | 0, _, _, _, _, _, _, _, _, _ => none
  | k + 1, x0, x5, x6, x17, x114000, x114001, x114002, x114003, x114004 => if x17 = true then (if 0 ≤ x6 then (if x6 < (x0.size : Int) then (if (bt x0 x6) = 46 then (watershedref04_Parse.j2 k x0 x5 x6 (decide (x5 < 4)) x114000 x114001 x114002 x114003 x114004) else (watershedref04_Parse.j2 k x0 x5 x6 false x114000 x114001 x114002 x114003 x114004)) else (none)) else (none)) else (if x5 > 3 then (some (0, 0, 0, 0, 0, 6)) else ((watershedref04_Text.f k ((x114000) % 4294967296) x5 ((x114001) % 4294967296) ((x114002) % 4294967296) ((x114003) % 4294967296)).bind fun bt115 => (if bt115.2 = 0 then (if bt115.1.toList = x0.toList then (some ((x114000) % 4294967296, x5, (x114001) % 4294967296, (x114002) % 4294967296, (x114003) % 4294967296, 0)) else (some (0, 0, 0, 0, 0, 6))) else (some (0, 0, 0, 0, 0, 6)))))
def watershedref04_Parse.j2 : Nat → ByteArray → Int → Int → Bool → Int → Int → Int → Int → Int → Option (Int × Int × Int × Int × Int × Int)
  | 0, _, _, _, _, _, _, _, _, _ => none
  | k + 1, x0, x5, x6, x21, x114000, x114001, x114002, x114003, x114004 => if x21 = true then (watershedref04_Parse.l0 k x0 (wrap64 (x5 + 1)) (wrap64 (x6 + 1)) x114000 x114001 x114002 x114003 x114004) else (if 0 ≤ x6 then (if x6 < (x0.size : Int) then (if (bt x0 x6) ≥ 48 then (if (bt x0 x6) ≤ 57 then (if x5 = 0 then (watershedref04_Parse.l0 k x0 x5 (wrap64 (x6 + 1)) (mn (IntKind.u64.wrap ((IntKind.u64.wrap (x114000 * 10)) + (((bt x0 x6) - 48) % 256))) 1073741824) x114001 x114002 x114003 x114004) else (if x5 = 1 then (watershedref04_Parse.l0 k x0 x5 (wrap64 (x6 + 1)) x114000 (mn (IntKind.u64.wrap ((IntKind.u64.wrap (x114001 * 10)) + (((bt x0 x6) - 48) % 256))) 1073741824) x114002 x114003 x114004) else (if x5 = 2 then (watershedref04_Parse.l0 k x0 x5 (wrap64 (x6 + 1)) x114000 x114001 (mn (IntKind.u64.wrap ((IntKind.u64.wrap (x114002 * 10)) + (((bt x0 x6) - 48) % 256))) 1073741824) x114003 x114004) else (if x5 = 3 then (watershedref04_Parse.l0 k x0 x5 (wrap64 (x6 + 1)) x114000 x114001 x114002 (mn (IntKind.u64.wrap ((IntKind.u64.wrap (x114003 * 10)) + (((bt x0 x6) - 48) % 256))) 1073741824) x114004) else (if x5 = 4 then (watershedref04_Parse.l0 k x0 x5 (wrap64 (x6 + 1)) x114000 x114001 x114002 x114003 (mn (IntKind.u64.wrap ((IntKind.u64.wrap (x114004 * 10)) + (((bt x0 x6) - 48) % 256))) 1073741824)) else (none)))))) else (some (0, 0, 0, 0, 0, 6))) else (some (0, 0, 0, 0, 0, 6))) else (none)) else (none))
end
def watershedref04_Parse.f (k : Nat) (a0 : ByteArray) : Option (Int × Int × Int × Int × Int × Int) := watershedref04_Parse.l0 k a0 0 0 0 0 0 0 0
theorem watershedref04_Parse.mono_l : ∀ k, (∀ y0 y1 y2 y3 y4 y5 y6 y7, LeO (watershedref04_Parse.l0 k y0 y1 y2 y3 y4 y5 y6 y7) (watershedref04_Parse.l0 (k + 1) y0 y1 y2 y3 y4 y5 y6 y7)) ∧ (∀ y0 y1 y2 y3 y4 y5 y6 y7 y8, LeO (watershedref04_Parse.j1 k y0 y1 y2 y3 y4 y5 y6 y7 y8) (watershedref04_Parse.j1 (k + 1) y0 y1 y2 y3 y4 y5 y6 y7 y8)) ∧ (∀ y0 y1 y2 y3 y4 y5 y6 y7 y8, LeO (watershedref04_Parse.j2 k y0 y1 y2 y3 y4 y5 y6 y7 y8) (watershedref04_Parse.j2 (k + 1) y0 y1 y2 y3 y4 y5 y6 y7 y8))
  | 0 => ⟨fun _ _ _ _ _ _ _ _ r h => by simp [watershedref04_Parse.l0] at h, fun _ _ _ _ _ _ _ _ _ r h => by simp [watershedref04_Parse.j1] at h, fun _ _ _ _ _ _ _ _ _ r h => by simp [watershedref04_Parse.j2] at h⟩
  | k + 1 => by
    obtain ⟨ih0, ih1, ih2⟩ := watershedref04_Parse.mono_l k
    refine ⟨?_, ?_, ?_⟩
    · intro y0 y1 y2 y3 y4 y5 y6 y7
      unfold watershedref04_Parse.l0
      repeat' first
      | (with_reducible exact ih0 _ _ _ _ _ _ _ _)
      | (with_reducible exact ih1 _ _ _ _ _ _ _ _ _)
      | (with_reducible exact ih2 _ _ _ _ _ _ _ _ _)
      | (with_reducible exact watershedref04_Text.mono _ _ _ _ _ _)
      | (with_reducible exact LeO.refl _)
      | (with_reducible exact LeO.none _)
      | (with_reducible refine LeO.ite ?_ ?_)
      | (with_reducible refine LeO.bind ?_ (fun _ => ?_))
      | exact ih0 _ _ _ _ _ _ _ _
      | exact ih1 _ _ _ _ _ _ _ _ _
      | exact ih2 _ _ _ _ _ _ _ _ _
      | exact watershedref04_Text.mono _ _ _ _ _ _
      | exact LeO.none _
      | refine LeO.ite ?_ ?_
      | refine LeO.bind ?_ (fun _ => ?_)
    · intro y0 y1 y2 y3 y4 y5 y6 y7 y8
      unfold watershedref04_Parse.j1
      repeat' first
      | (with_reducible exact ih0 _ _ _ _ _ _ _ _)
      | (with_reducible exact ih1 _ _ _ _ _ _ _ _ _)
      | (with_reducible exact ih2 _ _ _ _ _ _ _ _ _)
      | (with_reducible exact watershedref04_Text.mono _ _ _ _ _ _)
      | (with_reducible exact LeO.refl _)
      | (with_reducible exact LeO.none _)
      | (with_reducible refine LeO.ite ?_ ?_)
      | (with_reducible refine LeO.bind ?_ (fun _ => ?_))
      | exact ih0 _ _ _ _ _ _ _ _
      | exact ih1 _ _ _ _ _ _ _ _ _
      | exact ih2 _ _ _ _ _ _ _ _ _
      | exact watershedref04_Text.mono _ _ _ _ _ _
      | exact LeO.none _
      | refine LeO.ite ?_ ?_
      | refine LeO.bind ?_ (fun _ => ?_)
    · intro y0 y1 y2 y3 y4 y5 y6 y7 y8
      unfold watershedref04_Parse.j2
      repeat' first
      | (with_reducible exact ih0 _ _ _ _ _ _ _ _)
      | (with_reducible exact ih1 _ _ _ _ _ _ _ _ _)
      | (with_reducible exact ih2 _ _ _ _ _ _ _ _ _)
      | (with_reducible exact watershedref04_Text.mono _ _ _ _ _ _)
      | (with_reducible exact LeO.refl _)
      | (with_reducible exact LeO.none _)
      | (with_reducible refine LeO.ite ?_ ?_)
      | (with_reducible refine LeO.bind ?_ (fun _ => ?_))
      | exact ih0 _ _ _ _ _ _ _ _
      | exact ih1 _ _ _ _ _ _ _ _ _
      | exact ih2 _ _ _ _ _ _ _ _ _
      | exact watershedref04_Text.mono _ _ _ _ _ _
      | exact LeO.none _
      | refine LeO.ite ?_ ?_
      | refine LeO.bind ?_ (fun _ => ?_)
theorem watershedref04_Parse.mono : ∀ a0 k, LeO (watershedref04_Parse.f k a0) (watershedref04_Parse.f (k + 1) a0) := by
  intro a0 k
  obtain ⟨ih0, ih1, ih2⟩ := watershedref04_Parse.mono_l k
  unfold watershedref04_Parse.f
  repeat' first
      | (with_reducible exact ih0 _ _ _ _ _ _ _ _)
      | (with_reducible exact ih1 _ _ _ _ _ _ _ _ _)
      | (with_reducible exact ih2 _ _ _ _ _ _ _ _ _)
      | (with_reducible exact watershedref04_Text.mono _ _ _ _ _ _)
      | (with_reducible exact LeO.refl _)
      | (with_reducible exact LeO.none _)
      | (with_reducible refine LeO.ite ?_ ?_)
      | (with_reducible refine LeO.bind ?_ (fun _ => ?_))
      | exact ih0 _ _ _ _ _ _ _ _
      | exact ih1 _ _ _ _ _ _ _ _ _
      | exact ih2 _ _ _ _ _ _ _ _ _
      | exact watershedref04_Text.mono _ _ _ _ _ _
      | exact LeO.none _
      | refine LeO.ite ?_ ?_
      | refine LeO.bind ?_ (fun _ => ?_)
def watershedref04_Parse.T10 : Bool × List (List Nat × List Nat) := (true, [([], []), ([], []), ([1], [1]), ([2], [2]), ([3], [3]), ([], []), ([], []), ([5, 6], [5, 6]), ([7], [7]), ([8], [8]), ([4, 9], [4, 9]), ([10], [10]), ([0, 0, 1, 2, 3, 4, 5, 6, 7, 8, 9, 10, 11], [0]), ([12, 11, 0, 1, 2, 3, 4, 5, 6, 7, 8, 9, 10, 11], [11, 12])])
def watershedref04_Parse.B10 : List Nat := [0, 0, 2, 6, 14, 0, 0, 96, 224, 480, 1022, 2046, 4095, 8191]
theorem watershedref04_Parse.tab10 : rtab .any (opsOf Tryd.f11 10) = watershedref04_Parse.T10 := by kernel_rfl
theorem watershedref04_Parse.bits10 : waitsOk watershedref04_Parse.T10.2 watershedref04_Parse.B10 = true := by kernel_rfl
set_option maxHeartbeats 8000000 in
set_option maxRecDepth 100000 in
theorem watershedref04_Parse.calls (k : Nat) (a0 : ByteArray) (r1 : Int) (r2 : Int) (r3 : Int) (r4 : Int) (r5 : Int) (r6 : Int) (w : World) (h : watershedref04_Parse.f k a0 = some (r1, r2, r3, r4, r5, r6)) :
    Calls Tryd.prog 11 #[.string a0] w fun e w' => e = .returned (.tuple #[.agg #[.int .u32 r1, .int .i64 r2, .int .u32 r3, .int .u32 r4, .int .u32 r5], .int .i64 r6]) ∧ Below w.heap.size w w' := by
  have hu25 := Tryd.underlying25
  have hu56 := Tryd.underlying56
  have hu23 := Tryd.underlying23
  have HB := Aside0.mk (Below.refl w.heap.size w)
  have H : (watershedref04_Parse.l0 k a0 0 0 0 0 0 0 0) = some (r1, r2, r3, r4, r5, r6) := h
  clear h
  have H' := Aside0.mk H
  clear H
  go_enter Tryd.func11, Tryd.ntmps11
  go_wp2_with (first | ((with_reducible refine gate_dst (N := 2) rfl ?_); refine box_event ?hg (N := 2) ?hd (cs := #[.int .u32 0, .int .i64 0, .int .u32 0, .int .u32 0, .int .u32 0]) (t := 25) ?hr ?_; (case hd => rfl); (case hg => rfl); (case hr => first | (go_simp; done) | (go_simp; rfl)); intro gb112 hg w2 hbox hb; have n0_ := Aside0.mk (below_step zz3 hb); have n1_ := Aside0.mk (hbox); have n2_ := Aside0.mk ((by rw [hg]; exact (below_size zz3) : w.heap.size ≤ gb112)); have n3_ := Aside0.mk ((by rw [hg]; exact (below_size zz3) : w.heap.size ≤ gb112)); clear HB; have HB := n0_; have BK112 := n1_; have GW112 := n2_; have GE112 := n3_; clear n0_ n1_ n2_ n3_; clear hb hbox hg) | ((with_reducible refine gate_dst (N := 4) rfl ?_); refine box_event ?hg (N := 4) ?hd (cs := #[.int .u64 0, .int .u64 0, .int .u64 0, .int .u64 0, .int .u64 0]) (t := 56) ?hr ?_; (case hd => rfl); (case hg => rfl); (case hr => first | (go_simp; done) | (go_simp; rfl)); intro gb113 hg w3 hbox hb; have n0_ := yB BK112 hb; have n1_ := Aside0.mk (below_step (by repeat (first | (with_reducible first | exact HB.out | apply below_alloc | apply pw_below_drewN | apply below_drew1 | refine below_set ?_ GE112.out) | exact HB.out)) hb); have n2_ := Aside0.mk (hbox); have n3_ := Aside0.mk ((by rw [hg]; exact (below_size (by repeat (first | (with_reducible first | exact HB.out | apply below_alloc | apply pw_below_drewN | apply below_drew1 | refine below_set ?_ GE112.out) | exact HB.out))) : w.heap.size ≤ gb113)); have n4_ := Aside0.mk ((by rw [hg]; exact (below_size (by repeat (first | (with_reducible first | exact HB.out | apply below_alloc | apply pw_below_drewN | apply below_drew1 | refine below_set ?_ GE112.out) | exact HB.out))) : w.heap.size ≤ gb113)); have n5_ := yN BK112 hg; have n6_ := yM BK112 hg; clear BK112; clear HB; have BK112 := n0_; have HB := n1_; have BK113 := n2_; have GW113 := n3_; have GE113 := n4_; have NB112_113 := n5_; have NB113_112 := n6_; clear n0_ n1_ n2_ n3_ n4_ n5_ n6_; clear hb hbox hg))
  go_loopg [5, 6] k (fun kq v5 v6 w' => ∃ (x5_1 : Int) (x6_1 : Int) (x113000_1 : Int) (x113001_1 : Int) (x113002_1 : Int) (x113003_1 : Int) (x113004_1 : Int) (x114000_1 : Int) (x114001_1 : Int) (x114002_1 : Int) (x114003_1 : Int) (x114004_1 : Int), v5 = .int .i64 x5_1 ∧ v6 = .int .i64 x6_1 ∧ Aside0 (watershedref04_Parse.l0 kq a0 x5_1 x6_1 x114000_1 x114001_1 x114002_1 x114003_1 x114004_1 = some (r1, r2, r3, r4, r5, r6)) ∧ Aside0 (kq ≤ k) ∧ Aside0 (w'.heap[gb112]? = some (.cells #[.int .u32 x113000_1, .int .i64 x113001_1, .int .u32 x113002_1, .int .u32 x113003_1, .int .u32 x113004_1] 25 (0, 0))) ∧ Aside0 (w'.heap[gb113]? = some (.cells #[.int .u64 x114000_1, .int .u64 x114001_1, .int .u64 x114002_1, .int .u64 x114003_1, .int .u64 x114004_1] 56 (0, 0))) ∧ Aside0 (Below w.heap.size w w'))
  case atStart => exact ⟨(0), (0), (0), (0), (0), (0), (0), (0), (0), (0), (0), (0), zz1, zz1, H', ⟨Nat.le_refl _⟩, ⟨yF⟩, ⟨yF⟩, ⟨by repeat (first | (with_reducible first | exact HB.out | apply below_alloc | apply pw_below_drewN | apply below_drew1 | refine below_set ?_ GE112.out | refine below_set ?_ GE113.out) | exact HB.out)⟩⟩
  case round =>
    clear H'
    (try clear c1); (try clear p2)
    obtain ⟨x5_1, x6_1, x113000_1, x113001_1, x113002_1, x113003_1, x113004_1, x114000_1, x114001_1, x114002_1, x114003_1, x114004_1, rfl, rfl, HA, HK1, BK112, BK113, HB⟩ := hrel
    cases gk with
    | zero => exact absurd HA.out (by simp [watershedref04_Parse.l0])
    | succ k1 =>
      have H := HA.out
      clear HA
      simp only [watershedref04_Parse.l0] at H
      have HC4 := Aside0.mk H
      clear H
      go_upto_region 4 with (fail)
      go_cut [17] (fun v17 wc => ∃ (kq : Nat) (x17_3 : Bool), v17 = .bool x17_3 ∧ Aside0 (watershedref04_Parse.j1 kq a0 x5_1 x6_1 x17_3 x114000_1 x114001_1 x114002_1 x114003_1 x114004_1 = some (r1, r2, r3, r4, r5, r6)) ∧ Aside0 (kq ≤ k1) ∧ Aside0 (wc.heap[gb112]? = some (.cells #[.int .u32 x113000_1, .int .i64 x113001_1, .int .u32 x113002_1, .int .u32 x113003_1, .int .u32 x113004_1] 25 (0, 0))) ∧ Aside0 (wc.heap[gb113]? = some (.cells #[.int .u64 x114000_1, .int .u64 x114001_1, .int .u64 x114002_1, .int .u64 x114003_1, .int .u64 x114004_1] 56 (0, 0))) ∧ Aside0 (Below w.heap.size w wc))
      case first =>
        have H := HC4.out
        clear HC4
        by_cases c5 : x6_1 < (a0.size : Int)
        · rw [if_pos c5] at H
          have c5b0 : decide (x6_1 < (a0.size : Int)) = true := decide_eq_true c5
          clear c5
          (first | rw [c5b0] | (simp only [i64_w, i32_w]; rw [c5b0]) | skip)
          have H' := Aside0.mk H
          clear H
          go_wp2
          go_meet
          case rel => exact ⟨_, (decide (x6_1 < 40)), zz1, H', ⟨by have := HK1.out; first | omega | exact Nat.le_refl _⟩, ⟨yF⟩, ⟨yF⟩, ⟨by repeat (first | (with_reducible first | exact HB.out | apply below_alloc | apply pw_below_drewN | apply below_drew1 | refine below_set ?_ GE112.out | refine below_set ?_ GE113.out) | exact HB.out)⟩⟩
        · rw [if_neg c5] at H
          have c5b0 : decide (x6_1 < (a0.size : Int)) = false := decide_eq_false c5
          clear c5
          (first | rw [c5b0] | (simp only [i64_w, i32_w]; rw [c5b0]) | skip)
          have H' := Aside0.mk H
          clear H
          go_wp2
          go_meet
          case rel => exact ⟨_, (false), zz1, H', ⟨by have := HK1.out; first | omega | exact Nat.le_refl _⟩, ⟨yF⟩, ⟨yF⟩, ⟨by repeat (first | (with_reducible first | exact HB.out | apply below_alloc | apply pw_below_drewN | apply below_drew1 | refine below_set ?_ GE112.out | refine below_set ?_ GE113.out) | exact HB.out)⟩⟩
      case rest =>
        clear HC4
        (try clear c1); (try clear p2); (try clear c5); (try clear c5b0); (try clear p2)
        obtain ⟨kq, x17_3, rfl, HA, HJ3, BK112, BK113, HB⟩ := hcut
        cases kq with
        | zero => exact absurd HA.out (by simp [watershedref04_Parse.j1])
        | succ kj3 =>
          have H := HA.out
          clear HA
          simp only [watershedref04_Parse.j1] at H
          by_cases c6 : x17_3 = true
          · subst c6
            have H1 : (if 0 ≤ x6_1 then (if x6_1 < (a0.size : Int) then (if (bt a0 x6_1) = 46 then (watershedref04_Parse.j2 kj3 a0 x5_1 x6_1 (decide (x5_1 < 4)) x114000_1 x114001_1 x114002_1 x114003_1 x114004_1) else (watershedref04_Parse.j2 kj3 a0 x5_1 x6_1 false x114000_1 x114001_1 x114002_1 x114003_1 x114004_1)) else (none)) else (none)) = some (r1, r2, r3, r4, r5, r6) := by rw [if_pos rfl] at H; exact H
            clear H
            have H := H1
            clear H1
            have HC7 := Aside0.mk H
            clear H
            go_upto_region 7 with (fail)
            go_cut [21] (fun v21 wc => ∃ (kq : Nat) (x21_6 : Bool), v21 = .bool x21_6 ∧ Aside0 (watershedref04_Parse.j2 kq a0 x5_1 x6_1 x21_6 x114000_1 x114001_1 x114002_1 x114003_1 x114004_1 = some (r1, r2, r3, r4, r5, r6)) ∧ Aside0 (kq ≤ kj3) ∧ Aside0 (wc.heap[gb112]? = some (.cells #[.int .u32 x113000_1, .int .i64 x113001_1, .int .u32 x113002_1, .int .u32 x113003_1, .int .u32 x113004_1] 25 (0, 0))) ∧ Aside0 (wc.heap[gb113]? = some (.cells #[.int .u64 x114000_1, .int .u64 x114001_1, .int .u64 x114002_1, .int .u64 x114003_1, .int .u64 x114004_1] 56 (0, 0))) ∧ Aside0 (Below w.heap.size w wc))
            case first =>
              have H := HC7.out
              clear HC7
              by_cases c8 : 0 ≤ x6_1
              · rw [if_pos c8] at H
                have c8b0 : decide (0 ≤ x6_1) = true := decide_eq_true c8
                clear c8
                (first | rw [c8b0] | (simp only [i64_w, i32_w]; rw [c8b0]) | skip)
                by_cases c9 : x6_1 < (a0.size : Int)
                · rw [if_pos c9] at H
                  have c9b0 : decide (x6_1 < (a0.size : Int)) = true := decide_eq_true c9
                  clear c9
                  by_cases c11 : (bt a0 x6_1) = 46
                  · rw [if_pos c11] at H
                    have c11b0 : ((bt a0 x6_1) == 46) = true := beq_iff_eq.mpr c11
                    have c11b1 : ((bt a0 x6_1) != 46) = false := bne_eq_false_iff_eq.mpr c11
                    clear c11
                    have H' := Aside0.mk H
                    clear H
                    have p10 : 0 ≤ (x6_1 : Int) := of_decide_eq_true zz4
                    have q10 : x6_1 < (a0.size : Int) := of_decide_eq_true zz4
                    have hx10 := bt_at a0 x6_1
                    replace p10 := eq_true p10
                    replace q10 := eq_true q10
                    go_wp2
                    go_meet
                    case rel => exact ⟨_, (decide (x5_1 < 4)), zz1, H', ⟨by have := HK1.out; have := HJ3.out; first | omega | exact Nat.le_refl _⟩, ⟨yF⟩, ⟨yF⟩, ⟨by repeat (first | (with_reducible first | exact HB.out | apply below_alloc | apply pw_below_drewN | apply below_drew1 | refine below_set ?_ GE112.out | refine below_set ?_ GE113.out) | exact HB.out)⟩⟩
                  · rw [if_neg c11] at H
                    have c11b0 : ((bt a0 x6_1) == 46) = false := beq_eq_false_iff_ne.mpr c11
                    have c11b1 : ((bt a0 x6_1) != 46) = true := bne_iff_ne.mpr c11
                    have H' := Aside0.mk H
                    clear H
                    have p10 : 0 ≤ (x6_1 : Int) := of_decide_eq_true zz4
                    have q10 : x6_1 < (a0.size : Int) := of_decide_eq_true zz4
                    have hx10 := bt_at a0 x6_1
                    replace p10 := eq_true p10
                    replace q10 := eq_true q10
                    go_wp2
                    go_meet
                    case rel => exact ⟨_, (false), zz1, H', ⟨by have := HK1.out; have := HJ3.out; first | omega | exact Nat.le_refl _⟩, ⟨yF⟩, ⟨yF⟩, ⟨by repeat (first | (with_reducible first | exact HB.out | apply below_alloc | apply pw_below_drewN | apply below_drew1 | refine below_set ?_ GE112.out | refine below_set ?_ GE113.out) | exact HB.out)⟩⟩
                · rw [if_neg c9] at H
                  exact absurd H (by simp)
              · rw [if_neg c8] at H
                exact absurd H (by simp)
            case rest =>
              clear HC7
              (try clear c1); (try clear p1); (try clear q1); (try clear hx1); (try clear p2); (try clear c5); (try clear c5b0); (try clear c6); (try clear p6); (try clear c8); (try clear c8b0); (try clear c9); (try clear c9b0); (try clear p10); (try clear q10); (try clear hx10); (try clear c11); (try clear c11b0); (try clear c11b1); (try clear p10); (try clear p2); (try clear q10)
              obtain ⟨kq, x21_6, rfl, HA, HJ6, BK112, BK113, HB⟩ := hcut
              cases kq with
              | zero => exact absurd HA.out (by simp [watershedref04_Parse.j2])
              | succ kj6 =>
                have H := HA.out
                clear HA
                simp only [watershedref04_Parse.j2] at H
                by_cases c12 : x21_6 = true
                · subst c12
                  have H1 : (watershedref04_Parse.l0 kj6 a0 (wrap64 (x5_1 + 1)) (wrap64 (x6_1 + 1)) x114000_1 x114001_1 x114002_1 x114003_1 x114004_1) = some (r1, r2, r3, r4, r5, r6) := by rw [if_pos rfl] at H; exact H
                  clear H
                  have H := H1
                  clear H1
                  have H' := Aside0.mk H
                  clear H
                  go_wp2
                  go_roundg kj6
                  case measure => have := HK1.out; have := HJ3.out; have := HJ6.out; omega
                  case rel => exact ⟨(wrap64 (x5_1 + 1)), (wrap64 (x6_1 + 1)), (x113000_1), (x113001_1), (x113002_1), (x113003_1), (x113004_1), (x114000_1), (x114001_1), (x114002_1), (x114003_1), (x114004_1), zz1, zz1, H', ⟨by have := HK1.out; have := HJ3.out; have := HJ6.out; omega⟩, ⟨yF⟩, ⟨yF⟩, ⟨by repeat (first | (with_reducible first | exact HB.out | apply below_alloc | apply pw_below_drewN | apply below_drew1 | refine below_set ?_ GE112.out | refine below_set ?_ GE113.out) | exact HB.out)⟩⟩
                · replace c12 := Bool.eq_false_iff.mpr c12
                  subst c12
                  have H1 : (if 0 ≤ x6_1 then (if x6_1 < (a0.size : Int) then (if (bt a0 x6_1) ≥ 48 then (if (bt a0 x6_1) ≤ 57 then (if x5_1 = 0 then (watershedref04_Parse.l0 kj6 a0 x5_1 (wrap64 (x6_1 + 1)) (mn (IntKind.u64.wrap ((IntKind.u64.wrap (x114000_1 * 10)) + (((bt a0 x6_1) - 48) % 256))) 1073741824) x114001_1 x114002_1 x114003_1 x114004_1) else (if x5_1 = 1 then (watershedref04_Parse.l0 kj6 a0 x5_1 (wrap64 (x6_1 + 1)) x114000_1 (mn (IntKind.u64.wrap ((IntKind.u64.wrap (x114001_1 * 10)) + (((bt a0 x6_1) - 48) % 256))) 1073741824) x114002_1 x114003_1 x114004_1) else (if x5_1 = 2 then (watershedref04_Parse.l0 kj6 a0 x5_1 (wrap64 (x6_1 + 1)) x114000_1 x114001_1 (mn (IntKind.u64.wrap ((IntKind.u64.wrap (x114002_1 * 10)) + (((bt a0 x6_1) - 48) % 256))) 1073741824) x114003_1 x114004_1) else (if x5_1 = 3 then (watershedref04_Parse.l0 kj6 a0 x5_1 (wrap64 (x6_1 + 1)) x114000_1 x114001_1 x114002_1 (mn (IntKind.u64.wrap ((IntKind.u64.wrap (x114003_1 * 10)) + (((bt a0 x6_1) - 48) % 256))) 1073741824) x114004_1) else (if x5_1 = 4 then (watershedref04_Parse.l0 kj6 a0 x5_1 (wrap64 (x6_1 + 1)) x114000_1 x114001_1 x114002_1 x114003_1 (mn (IntKind.u64.wrap ((IntKind.u64.wrap (x114004_1 * 10)) + (((bt a0 x6_1) - 48) % 256))) 1073741824)) else (none)))))) else (some (0, 0, 0, 0, 0, 6))) else (some (0, 0, 0, 0, 0, 6))) else (none)) else (none)) = some (r1, r2, r3, r4, r5, r6) := by rw [if_neg (show ¬ (false = true) by decide)] at H; exact H
                  clear H
                  have H := H1
                  clear H1
                  by_cases c13 : 0 ≤ x6_1
                  · rw [if_pos c13] at H
                    have c13b0 : decide (0 ≤ x6_1) = true := decide_eq_true c13
                    clear c13
                    by_cases c14 : x6_1 < (a0.size : Int)
                    · rw [if_pos c14] at H
                      have c14b0 : decide (x6_1 < (a0.size : Int)) = true := decide_eq_true c14
                      clear c14
                      by_cases c16 : (bt a0 x6_1) ≥ 48
                      · rw [if_pos c16] at H
                        have c16b0 : decide (48 ≤ (bt a0 x6_1)) = true := decide_eq_true c16
                        clear c16
                        by_cases c18 : (bt a0 x6_1) ≤ 57
                        · rw [if_pos c18] at H
                          have c18b0 : decide ((bt a0 x6_1) ≤ 57) = true := decide_eq_true c18
                          clear c18
                          by_cases c19 : x5_1 = 0
                          · rw [if_pos c19] at H
                            subst c19
                            obtain ⟨ji21, hji21⟩ : ∃ j_ : Int, (mn (IntKind.u64.wrap ((IntKind.u64.wrap (x114000_1 * 10)) + (((bt a0 x6_1) - 48) % 256))) 1073741824) = j_ := ⟨_, rfl⟩
                            replace H : (watershedref04_Parse.l0 kj6 a0 0 (wrap64 (x6_1 + 1)) ji21 x114001_1 x114002_1 x114003_1 x114004_1) = some (r1, r2, r3, r4, r5, r6) := by first | (rw [hji21] at H; exact H) | (simp only [hji21] at H ⊢; exact H)
                            have hji21_ : (if 1073741824 < (IntKind.u64.wrap ((IntKind.u64.wrap (x114000_1 * 10)) + (((bt a0 x6_1) - 48) % 256))) then 1073741824 else (IntKind.u64.wrap ((IntKind.u64.wrap (x114000_1 * 10)) + (((bt a0 x6_1) - 48) % 256)))) = ji21 := hji21
                            have hji21A : (if 1073741824 < (IntKind.u64.wrap ((IntKind.u64.wrap (x114000_1 * 10)) + (IntKind.u64.wrap (IntKind.u8.wrap ((bt a0 x6_1) - 48))))) then 1073741824 else (IntKind.u64.wrap ((IntKind.u64.wrap (x114000_1 * 10)) + (IntKind.u64.wrap (IntKind.u8.wrap ((bt a0 x6_1) - 48)))))) = ji21 := by rw [yV]; exact hji21_
                            have hji21B : (if 1073741824 < (IntKind.u64.wrap ((IntKind.u64.wrap (x114000_1 * 10)) + (IntKind.u64.wrap (((bt a0 x6_1) - 48) % 256)))) then 1073741824 else (IntKind.u64.wrap ((IntKind.u64.wrap (x114000_1 * 10)) + (IntKind.u64.wrap (((bt a0 x6_1) - 48) % 256))))) = ji21 := by rw [yW]; exact hji21_
                            have H' := Aside0.mk H
                            clear H
                            have p15 : 0 ≤ (x6_1 : Int) := of_decide_eq_true zz4
                            have q15 : x6_1 < (a0.size : Int) := of_decide_eq_true zz4
                            have hx15 := bt_at a0 x6_1
                            replace p15 := eq_true p15
                            replace q15 := eq_true q15
                            have p17 : 0 ≤ (x6_1 : Int) := of_decide_eq_true zz4
                            have q17 : x6_1 < (a0.size : Int) := of_decide_eq_true zz4
                            have hx17 := bt_at a0 x6_1
                            replace p17 := eq_true p17
                            replace q17 := eq_true q17
                            try go_wp2
                            have n0_ := Aside0.mk (blk_drew BK112.out)
                            have n1_ := Aside0.mk (blk_drew BK113.out)
                            have n2_ := Aside0.mk (below_drew1 HB.out)
                            clear BK112
                            clear BK113
                            clear HB
                            have BK112 := n0_
                            have BK113 := n1_
                            have HB := n2_
                            clear n0_ n1_ n2_
                            have p20 : 0 ≤ (x6_1 : Int) := of_decide_eq_true zz4
                            have q20 : x6_1 < (a0.size : Int) := of_decide_eq_true zz4
                            have hx20 := bt_at a0 x6_1
                            replace p20 := eq_true p20
                            replace q20 := eq_true q20
                            refine start_ (n := 14) (S := fun w' => w'.cell? ⟨gb113, 0, none⟩ = some (.int .u64 x114000_1) ∧ w'.cell? ⟨gb113, 1, none⟩ = some (.int .u64 x114001_1) ∧ w'.cell? ⟨gb113, 2, none⟩ = some (.int .u64 x114002_1) ∧ w'.cell? ⟨gb113, 3, none⟩ = some (.int .u64 x114003_1) ∧ w'.cell? ⟨gb113, 4, none⟩ = some (.int .u64 x114004_1)) (ds := [13]) #[false, false, false, false, false, false, false, false, false, false, false, false, false, false] (by kernel_rfl) rfl rfl ⟨(blk_cell BK113.out 0).trans rfl, (blk_cell BK113.out 1).trans rfl, (blk_cell BK113.out 2).trans rfl, (blk_cell BK113.out 3).trans rfl, (blk_cell BK113.out 4).trans rfl⟩ (fun hHeld => ?_); refine with_tabW watershedref04_Parse.tab10 watershedref04_Parse.bits10 (fun HT_ HW_ => ?_)
                            generalize wc.drew = w22 at BK112 BK113 HB hHeld ⊢
                            refine pure_ (i := 0) (N := some 43) (v := ?_) (a' := ?_) #[true, false, false, false, false, false, false, false, false, false, false, false, false, false] rfl rfl (any_of HT_.out (by kernel_rfl)) (fun _ _ _ h => h) (Or.inl ⟨by rfl, ?_⟩) ?_ ?_
                            rotate_left
                            · intro w'
                              go_simp
                              with_reducible rfl
                            rotate_left
                            · simp only [Act.put, List.setIfInBounds_toArray, List.set_cons_zero, List.set_cons_succ, i64_w, i32_w]
                              rfl
                            refine pure_ (i := 1) (N := some 44) (v := ?_) (a' := ?_) #[true, true, false, false, false, false, false, false, false, false, false, false, false, false] rfl rfl (any_of HT_.out (by kernel_rfl)) (fun _ _ _ h => h) (Or.inl ⟨by rfl, ?_⟩) ?_ ?_
                            rotate_left
                            · intro w'
                              go_simp
                              with_reducible rfl
                            rotate_left
                            · simp only [Act.put, List.setIfInBounds_toArray, List.set_cons_zero, List.set_cons_succ, i64_w, i32_w]
                              rfl
                            refine pure_ (i := 2) (N := some 45) (v := ?_) (a' := ?_) #[true, true, true, false, false, false, false, false, false, false, false, false, false, false] rfl rfl (any_of HT_.out (by kernel_rfl)) (fun _ _ _ h => h) (Or.inl ⟨by rfl, ?_⟩) ?_ ?_
                            rotate_left
                            · intro w'
                              go_simp
                              with_reducible rfl
                            rotate_left
                            · simp only [Act.put, List.setIfInBounds_toArray, List.set_cons_zero, List.set_cons_succ, i64_w, i32_w]
                              rfl
                            refine pure_ (i := 5) (N := some 48) (v := ?_) (a' := ?_) #[true, true, true, false, false, true, false, false, false, false, false, false, false, false] rfl rfl (any_of HT_.out (by kernel_rfl)) (fun _ _ _ h => h) (Or.inl ⟨by rfl, ?_⟩) ?_ ?_
                            rotate_left
                            · intro w'
                              go_simp
                              with_reducible rfl
                            rotate_left
                            · simp only [Act.put, List.setIfInBounds_toArray, List.set_cons_zero, List.set_cons_succ, i64_w, i32_w]
                              rfl
                            refine pure_ (i := 6) (N := some 49) (v := ?_) (a' := ?_) #[true, true, true, false, false, true, true, false, false, false, false, false, false, false] rfl rfl (any_of HT_.out (by kernel_rfl)) (fun _ _ _ h => h) (Or.inl ⟨by rfl, ?_⟩) ?_ ?_
                            rotate_left
                            · intro w'
                              go_simp
                              with_reducible rfl
                            rotate_left
                            · simp only [Act.put, List.setIfInBounds_toArray, List.set_cons_zero, List.set_cons_succ, i64_w, i32_w]
                              rfl
                            refine take_ (i := 3) (N := some 46) (v := ?_) (a' := ?_) #[true, true, true, true, false, true, true, false, false, false, false, false, false, false] rfl rfl (take_ofW HT_.out HW_.out (by kernel_rfl)) (fun _ _ _ h => h) (Or.inl ⟨by rfl, ?_⟩) hHeld ?_ ?_
                            rotate_left
                            · rintro w' ⟨s0, s1, s2, s3, s4⟩
                              go_simp
                              with_reducible rfl
                            rotate_left
                            · simp only [Act.put, List.setIfInBounds_toArray, List.set_cons_zero, List.set_cons_succ, i64_w, i32_w]
                              rfl
                            refine pure_ (i := 4) (N := some 47) (v := ?_) (a' := ?_) #[true, true, true, true, true, true, true, false, false, false, false, false, false, false] rfl rfl (any_of HT_.out (by kernel_rfl)) (fun _ _ _ h => h) (Or.inl ⟨by rfl, ?_⟩) ?_ ?_
                            rotate_left
                            · intro w'
                              go_simp
                              with_reducible rfl
                            rotate_left
                            · simp only [Act.put, List.setIfInBounds_toArray, List.set_cons_zero, List.set_cons_succ, i64_w, i32_w]
                              rfl
                            refine take_ (i := 7) (N := some 50) (v := ?_) (a' := ?_) #[true, true, true, true, true, true, true, true, false, false, false, false, false, false] rfl rfl (take_ofW HT_.out HW_.out (by kernel_rfl)) (fun _ _ _ h => h) (Or.inl ⟨by rfl, ?_⟩) hHeld ?_ ?_
                            rotate_left
                            · rintro w' ⟨s0, s1, s2, s3, s4⟩
                              go_simp
                              with_reducible rfl
                            rotate_left
                            · simp only [Act.put, List.setIfInBounds_toArray, List.set_cons_zero, List.set_cons_succ, i64_w, i32_w]
                              rfl
                            refine pure_ (i := 8) (N := some 51) (v := ?_) (a' := ?_) #[true, true, true, true, true, true, true, true, true, false, false, false, false, false] rfl rfl (any_of HT_.out (by kernel_rfl)) (fun _ _ _ h => h) (Or.inl ⟨by rfl, ?_⟩) ?_ ?_
                            rotate_left
                            · intro w'
                              go_simp
                              with_reducible rfl
                            rotate_left
                            · simp only [Act.put, List.setIfInBounds_toArray, List.set_cons_zero, List.set_cons_succ, i64_w, i32_w]
                              rfl
                            refine pure_ (i := 9) (N := some 52) (v := ?_) (a' := ?_) #[true, true, true, true, true, true, true, true, true, true, false, false, false, false] rfl rfl (any_of HT_.out (by kernel_rfl)) (fun _ _ _ h => h) (Or.inl ⟨by rfl, ?_⟩) ?_ ?_
                            rotate_left
                            · intro w'
                              go_simp
                              with_reducible rfl
                            rotate_left
                            · simp only [Act.put, List.setIfInBounds_toArray, List.set_cons_zero, List.set_cons_succ, i64_w, i32_w]
                              rfl
                            refine pure_ (i := 10) (N := some 53) (v := ?_) (a' := ?_) #[true, true, true, true, true, true, true, true, true, true, true, false, false, false] rfl rfl (any_of HT_.out (by kernel_rfl)) (fun _ _ _ h => h) (Or.inl ⟨by rfl, ?_⟩) ?_ ?_
                            rotate_left
                            · intro w'
                              go_simp
                              with_reducible rfl
                            rotate_left
                            · simp only [Act.put, List.setIfInBounds_toArray, List.set_cons_zero, List.set_cons_succ, i64_w, i32_w]
                              rfl
                            refine pure_ (i := 11) (N := some 54) (v := ?_) (a' := ?_) #[true, true, true, true, true, true, true, true, true, true, true, true, false, false] rfl rfl (any_of HT_.out (by kernel_rfl)) (fun _ _ _ h => h) (Or.inl ⟨by rfl, ?_⟩) ?_ ?_
                            rotate_left
                            · intro w'
                              go_simp
                              with_reducible rfl
                            rotate_left
                            · simp only [Act.put, List.setIfInBounds_toArray, List.set_cons_zero, List.set_cons_succ, i64_w, i32_w]
                              rfl
                            refine pure_ (i := 12) (N := some 55) (v := ?_) (a' := ?_) #[true, true, true, true, true, true, true, true, true, true, true, true, true, false] rfl rfl (any_of HT_.out (by kernel_rfl)) (fun _ _ _ h => h) (Or.inl ⟨by rfl, ?_⟩) ?_ ?_
                            rotate_left
                            · intro w'
                              go_simp
                              with_reducible rfl
                            rotate_left
                            · simp only [Act.put, List.setIfInBounds_toArray, List.set_cons_zero, List.set_cons_succ, i64_w, i32_w]
                              rfl
                            refine last_ (i := 13) (N := none) #[true, true, true, true, true, true, true, true, true, true, true, true, true, true] rfl rfl (one_of HT_.out (by kernel_rfl)) (by decide) (fun K hK => ?_)
                            have hs23 : w22.cell? ⟨gb113, 0, none⟩ = some (.int .u64 x114000_1) := (blk_cell BK113.out 0).trans rfl
                            have hfs23 := blk_frozen BK113.out 0
                            have hns23_0 := NB112_113.out
                            have hms23_0 := NB113_112.out
                            refine skip_ (w1 := ?_) (by rfl) rfl ?_ ?_
                            rotate_left
                            · go_simp
                              rfl
                            refine hK.out _ _ ?_
                            clear hK K
                            refine done_ (done_of HT_.out (by kernel_rfl)) ?_
                            try go_wp2
                            go_roundg kj6
                            case measure => have := HK1.out; have := HJ3.out; have := HJ6.out; omega
                            case rel => exact ⟨(0), (wrap64 (x6_1 + 1)), (x113000_1), (x113001_1), (x113002_1), (x113003_1), (x113004_1), (ji21), (x114001_1), (x114002_1), (x114003_1), (x114004_1), zz1, zz1, H', ⟨by have := HK1.out; have := HJ3.out; have := HJ6.out; omega⟩, ⟨yF⟩, ⟨by (with_reducible repeat (first | refine blk_drewN ?_ _ | refine blk_drew ?_ | refine blk_alloc ?_ _)); refine blk_put (cs := #[.int .u64 x114000_1, .int .u64 x114001_1, .int .u64 x114002_1, .int .u64 x114003_1, .int .u64 x114004_1]) ?_ 0 _ rfl; (with_reducible repeat (first | refine blk_drewN ?_ _ | refine blk_drew ?_ | refine blk_alloc ?_ _)); exact BK113.out⟩, ⟨by repeat (first | (with_reducible first | exact HB.out | apply below_alloc | apply pw_below_drewN | apply below_drew1 | refine below_set ?_ GE112.out | refine below_set ?_ GE113.out) | exact HB.out)⟩⟩
                          · rw [if_neg c19] at H
                            have c19b0 : (x5_1 == 0) = false := beq_eq_false_iff_ne.mpr c19
                            have c19b1 : (x5_1 != 0) = true := bne_iff_ne.mpr c19
                            by_cases c24 : x5_1 = 1
                            · rw [if_pos c24] at H
                              subst c24
                              obtain ⟨ji26, hji26⟩ : ∃ j_ : Int, (mn (IntKind.u64.wrap ((IntKind.u64.wrap (x114001_1 * 10)) + (((bt a0 x6_1) - 48) % 256))) 1073741824) = j_ := ⟨_, rfl⟩
                              replace H : (watershedref04_Parse.l0 kj6 a0 1 (wrap64 (x6_1 + 1)) x114000_1 ji26 x114002_1 x114003_1 x114004_1) = some (r1, r2, r3, r4, r5, r6) := by first | (rw [hji26] at H; exact H) | (simp only [hji26] at H ⊢; exact H)
                              have hji26_ : (if 1073741824 < (IntKind.u64.wrap ((IntKind.u64.wrap (x114001_1 * 10)) + (((bt a0 x6_1) - 48) % 256))) then 1073741824 else (IntKind.u64.wrap ((IntKind.u64.wrap (x114001_1 * 10)) + (((bt a0 x6_1) - 48) % 256)))) = ji26 := hji26
                              have hji26A : (if 1073741824 < (IntKind.u64.wrap ((IntKind.u64.wrap (x114001_1 * 10)) + (IntKind.u64.wrap (IntKind.u8.wrap ((bt a0 x6_1) - 48))))) then 1073741824 else (IntKind.u64.wrap ((IntKind.u64.wrap (x114001_1 * 10)) + (IntKind.u64.wrap (IntKind.u8.wrap ((bt a0 x6_1) - 48)))))) = ji26 := by rw [yV]; exact hji26_
                              have hji26B : (if 1073741824 < (IntKind.u64.wrap ((IntKind.u64.wrap (x114001_1 * 10)) + (IntKind.u64.wrap (((bt a0 x6_1) - 48) % 256)))) then 1073741824 else (IntKind.u64.wrap ((IntKind.u64.wrap (x114001_1 * 10)) + (IntKind.u64.wrap (((bt a0 x6_1) - 48) % 256))))) = ji26 := by rw [yW]; exact hji26_
                              have H' := Aside0.mk H
                              clear H
                              have p15 : 0 ≤ (x6_1 : Int) := of_decide_eq_true zz4
                              have q15 : x6_1 < (a0.size : Int) := of_decide_eq_true zz4
                              have hx15 := bt_at a0 x6_1
                              replace p15 := eq_true p15
                              replace q15 := eq_true q15
                              have p17 : 0 ≤ (x6_1 : Int) := of_decide_eq_true zz4
                              have q17 : x6_1 < (a0.size : Int) := of_decide_eq_true zz4
                              have hx17 := bt_at a0 x6_1
                              replace p17 := eq_true p17
                              replace q17 := eq_true q17
                              try go_wp2
                              have n0_ := Aside0.mk (blk_drew BK112.out)
                              have n1_ := Aside0.mk (blk_drew BK113.out)
                              have n2_ := Aside0.mk (below_drew1 HB.out)
                              clear BK112
                              clear BK113
                              clear HB
                              have BK112 := n0_
                              have BK113 := n1_
                              have HB := n2_
                              clear n0_ n1_ n2_
                              have p25 : 0 ≤ (x6_1 : Int) := of_decide_eq_true zz4
                              have q25 : x6_1 < (a0.size : Int) := of_decide_eq_true zz4
                              have hx25 := bt_at a0 x6_1
                              replace p25 := eq_true p25
                              replace q25 := eq_true q25
                              refine start_ (n := 14) (S := fun w' => w'.cell? ⟨gb113, 0, none⟩ = some (.int .u64 x114000_1) ∧ w'.cell? ⟨gb113, 1, none⟩ = some (.int .u64 x114001_1) ∧ w'.cell? ⟨gb113, 2, none⟩ = some (.int .u64 x114002_1) ∧ w'.cell? ⟨gb113, 3, none⟩ = some (.int .u64 x114003_1) ∧ w'.cell? ⟨gb113, 4, none⟩ = some (.int .u64 x114004_1)) (ds := [13]) #[false, false, false, false, false, false, false, false, false, false, false, false, false, false] (by kernel_rfl) rfl rfl ⟨(blk_cell BK113.out 0).trans rfl, (blk_cell BK113.out 1).trans rfl, (blk_cell BK113.out 2).trans rfl, (blk_cell BK113.out 3).trans rfl, (blk_cell BK113.out 4).trans rfl⟩ (fun hHeld => ?_); refine with_tabW watershedref04_Parse.tab10 watershedref04_Parse.bits10 (fun HT_ HW_ => ?_)
                              generalize wc.drew = w27 at BK112 BK113 HB hHeld ⊢
                              refine pure_ (i := 0) (N := some 43) (v := ?_) (a' := ?_) #[true, false, false, false, false, false, false, false, false, false, false, false, false, false] rfl rfl (any_of HT_.out (by kernel_rfl)) (fun _ _ _ h => h) (Or.inl ⟨by rfl, ?_⟩) ?_ ?_
                              rotate_left
                              · intro w'
                                go_simp
                                with_reducible rfl
                              rotate_left
                              · simp only [Act.put, List.setIfInBounds_toArray, List.set_cons_zero, List.set_cons_succ, i64_w, i32_w]
                                rfl
                              refine pure_ (i := 1) (N := some 44) (v := ?_) (a' := ?_) #[true, true, false, false, false, false, false, false, false, false, false, false, false, false] rfl rfl (any_of HT_.out (by kernel_rfl)) (fun _ _ _ h => h) (Or.inl ⟨by rfl, ?_⟩) ?_ ?_
                              rotate_left
                              · intro w'
                                go_simp
                                with_reducible rfl
                              rotate_left
                              · simp only [Act.put, List.setIfInBounds_toArray, List.set_cons_zero, List.set_cons_succ, i64_w, i32_w]
                                rfl
                              refine pure_ (i := 2) (N := some 45) (v := ?_) (a' := ?_) #[true, true, true, false, false, false, false, false, false, false, false, false, false, false] rfl rfl (any_of HT_.out (by kernel_rfl)) (fun _ _ _ h => h) (Or.inl ⟨by rfl, ?_⟩) ?_ ?_
                              rotate_left
                              · intro w'
                                go_simp
                                with_reducible rfl
                              rotate_left
                              · simp only [Act.put, List.setIfInBounds_toArray, List.set_cons_zero, List.set_cons_succ, i64_w, i32_w]
                                rfl
                              refine pure_ (i := 5) (N := some 48) (v := ?_) (a' := ?_) #[true, true, true, false, false, true, false, false, false, false, false, false, false, false] rfl rfl (any_of HT_.out (by kernel_rfl)) (fun _ _ _ h => h) (Or.inl ⟨by rfl, ?_⟩) ?_ ?_
                              rotate_left
                              · intro w'
                                go_simp
                                with_reducible rfl
                              rotate_left
                              · simp only [Act.put, List.setIfInBounds_toArray, List.set_cons_zero, List.set_cons_succ, i64_w, i32_w]
                                rfl
                              refine pure_ (i := 6) (N := some 49) (v := ?_) (a' := ?_) #[true, true, true, false, false, true, true, false, false, false, false, false, false, false] rfl rfl (any_of HT_.out (by kernel_rfl)) (fun _ _ _ h => h) (Or.inl ⟨by rfl, ?_⟩) ?_ ?_
                              rotate_left
                              · intro w'
                                go_simp
                                with_reducible rfl
                              rotate_left
                              · simp only [Act.put, List.setIfInBounds_toArray, List.set_cons_zero, List.set_cons_succ, i64_w, i32_w]
                                rfl
                              refine take_ (i := 3) (N := some 46) (v := ?_) (a' := ?_) #[true, true, true, true, false, true, true, false, false, false, false, false, false, false] rfl rfl (take_ofW HT_.out HW_.out (by kernel_rfl)) (fun _ _ _ h => h) (Or.inl ⟨by rfl, ?_⟩) hHeld ?_ ?_
                              rotate_left
                              · rintro w' ⟨s0, s1, s2, s3, s4⟩
                                go_simp
                                with_reducible rfl
                              rotate_left
                              · simp only [Act.put, List.setIfInBounds_toArray, List.set_cons_zero, List.set_cons_succ, i64_w, i32_w]
                                rfl
                              refine pure_ (i := 4) (N := some 47) (v := ?_) (a' := ?_) #[true, true, true, true, true, true, true, false, false, false, false, false, false, false] rfl rfl (any_of HT_.out (by kernel_rfl)) (fun _ _ _ h => h) (Or.inl ⟨by rfl, ?_⟩) ?_ ?_
                              rotate_left
                              · intro w'
                                go_simp
                                with_reducible rfl
                              rotate_left
                              · simp only [Act.put, List.setIfInBounds_toArray, List.set_cons_zero, List.set_cons_succ, i64_w, i32_w]
                                rfl
                              refine take_ (i := 7) (N := some 50) (v := ?_) (a' := ?_) #[true, true, true, true, true, true, true, true, false, false, false, false, false, false] rfl rfl (take_ofW HT_.out HW_.out (by kernel_rfl)) (fun _ _ _ h => h) (Or.inl ⟨by rfl, ?_⟩) hHeld ?_ ?_
                              rotate_left
                              · rintro w' ⟨s0, s1, s2, s3, s4⟩
                                go_simp
                                with_reducible rfl
                              rotate_left
                              · simp only [Act.put, List.setIfInBounds_toArray, List.set_cons_zero, List.set_cons_succ, i64_w, i32_w]
                                rfl
                              refine pure_ (i := 8) (N := some 51) (v := ?_) (a' := ?_) #[true, true, true, true, true, true, true, true, true, false, false, false, false, false] rfl rfl (any_of HT_.out (by kernel_rfl)) (fun _ _ _ h => h) (Or.inl ⟨by rfl, ?_⟩) ?_ ?_
                              rotate_left
                              · intro w'
                                go_simp
                                with_reducible rfl
                              rotate_left
                              · simp only [Act.put, List.setIfInBounds_toArray, List.set_cons_zero, List.set_cons_succ, i64_w, i32_w]
                                rfl
                              refine pure_ (i := 9) (N := some 52) (v := ?_) (a' := ?_) #[true, true, true, true, true, true, true, true, true, true, false, false, false, false] rfl rfl (any_of HT_.out (by kernel_rfl)) (fun _ _ _ h => h) (Or.inl ⟨by rfl, ?_⟩) ?_ ?_
                              rotate_left
                              · intro w'
                                go_simp
                                with_reducible rfl
                              rotate_left
                              · simp only [Act.put, List.setIfInBounds_toArray, List.set_cons_zero, List.set_cons_succ, i64_w, i32_w]
                                rfl
                              refine pure_ (i := 10) (N := some 53) (v := ?_) (a' := ?_) #[true, true, true, true, true, true, true, true, true, true, true, false, false, false] rfl rfl (any_of HT_.out (by kernel_rfl)) (fun _ _ _ h => h) (Or.inl ⟨by rfl, ?_⟩) ?_ ?_
                              rotate_left
                              · intro w'
                                go_simp
                                with_reducible rfl
                              rotate_left
                              · simp only [Act.put, List.setIfInBounds_toArray, List.set_cons_zero, List.set_cons_succ, i64_w, i32_w]
                                rfl
                              refine pure_ (i := 11) (N := some 54) (v := ?_) (a' := ?_) #[true, true, true, true, true, true, true, true, true, true, true, true, false, false] rfl rfl (any_of HT_.out (by kernel_rfl)) (fun _ _ _ h => h) (Or.inl ⟨by rfl, ?_⟩) ?_ ?_
                              rotate_left
                              · intro w'
                                go_simp
                                with_reducible rfl
                              rotate_left
                              · simp only [Act.put, List.setIfInBounds_toArray, List.set_cons_zero, List.set_cons_succ, i64_w, i32_w]
                                rfl
                              refine pure_ (i := 12) (N := some 55) (v := ?_) (a' := ?_) #[true, true, true, true, true, true, true, true, true, true, true, true, true, false] rfl rfl (any_of HT_.out (by kernel_rfl)) (fun _ _ _ h => h) (Or.inl ⟨by rfl, ?_⟩) ?_ ?_
                              rotate_left
                              · intro w'
                                go_simp
                                with_reducible rfl
                              rotate_left
                              · simp only [Act.put, List.setIfInBounds_toArray, List.set_cons_zero, List.set_cons_succ, i64_w, i32_w]
                                rfl
                              refine last_ (i := 13) (N := none) #[true, true, true, true, true, true, true, true, true, true, true, true, true, true] rfl rfl (one_of HT_.out (by kernel_rfl)) (by decide) (fun K hK => ?_)
                              have hs28 : w27.cell? ⟨gb113, 1, none⟩ = some (.int .u64 x114001_1) := (blk_cell BK113.out 1).trans rfl
                              have hfs28 := blk_frozen BK113.out 1
                              have hns28_0 := NB112_113.out
                              have hms28_0 := NB113_112.out
                              refine skip_ (w1 := ?_) (by rfl) rfl ?_ ?_
                              rotate_left
                              · go_simp
                                rfl
                              refine hK.out _ _ ?_
                              clear hK K
                              refine done_ (done_of HT_.out (by kernel_rfl)) ?_
                              try go_wp2
                              go_roundg kj6
                              case measure => have := HK1.out; have := HJ3.out; have := HJ6.out; omega
                              case rel => exact ⟨(1), (wrap64 (x6_1 + 1)), (x113000_1), (x113001_1), (x113002_1), (x113003_1), (x113004_1), (x114000_1), (ji26), (x114002_1), (x114003_1), (x114004_1), zz1, zz1, H', ⟨by have := HK1.out; have := HJ3.out; have := HJ6.out; omega⟩, ⟨yF⟩, ⟨by (with_reducible repeat (first | refine blk_drewN ?_ _ | refine blk_drew ?_ | refine blk_alloc ?_ _)); refine blk_put (cs := #[.int .u64 x114000_1, .int .u64 x114001_1, .int .u64 x114002_1, .int .u64 x114003_1, .int .u64 x114004_1]) ?_ 1 _ rfl; (with_reducible repeat (first | refine blk_drewN ?_ _ | refine blk_drew ?_ | refine blk_alloc ?_ _)); exact BK113.out⟩, ⟨by repeat (first | (with_reducible first | exact HB.out | apply below_alloc | apply pw_below_drewN | apply below_drew1 | refine below_set ?_ GE112.out | refine below_set ?_ GE113.out) | exact HB.out)⟩⟩
                            · rw [if_neg c24] at H
                              have c24b0 : (x5_1 == 1) = false := beq_eq_false_iff_ne.mpr c24
                              have c24b1 : (x5_1 != 1) = true := bne_iff_ne.mpr c24
                              by_cases c29 : x5_1 = 2
                              · rw [if_pos c29] at H
                                subst c29
                                obtain ⟨ji31, hji31⟩ : ∃ j_ : Int, (mn (IntKind.u64.wrap ((IntKind.u64.wrap (x114002_1 * 10)) + (((bt a0 x6_1) - 48) % 256))) 1073741824) = j_ := ⟨_, rfl⟩
                                replace H : (watershedref04_Parse.l0 kj6 a0 2 (wrap64 (x6_1 + 1)) x114000_1 x114001_1 ji31 x114003_1 x114004_1) = some (r1, r2, r3, r4, r5, r6) := by first | (rw [hji31] at H; exact H) | (simp only [hji31] at H ⊢; exact H)
                                have hji31_ : (if 1073741824 < (IntKind.u64.wrap ((IntKind.u64.wrap (x114002_1 * 10)) + (((bt a0 x6_1) - 48) % 256))) then 1073741824 else (IntKind.u64.wrap ((IntKind.u64.wrap (x114002_1 * 10)) + (((bt a0 x6_1) - 48) % 256)))) = ji31 := hji31
                                have hji31A : (if 1073741824 < (IntKind.u64.wrap ((IntKind.u64.wrap (x114002_1 * 10)) + (IntKind.u64.wrap (IntKind.u8.wrap ((bt a0 x6_1) - 48))))) then 1073741824 else (IntKind.u64.wrap ((IntKind.u64.wrap (x114002_1 * 10)) + (IntKind.u64.wrap (IntKind.u8.wrap ((bt a0 x6_1) - 48)))))) = ji31 := by rw [yV]; exact hji31_
                                have hji31B : (if 1073741824 < (IntKind.u64.wrap ((IntKind.u64.wrap (x114002_1 * 10)) + (IntKind.u64.wrap (((bt a0 x6_1) - 48) % 256)))) then 1073741824 else (IntKind.u64.wrap ((IntKind.u64.wrap (x114002_1 * 10)) + (IntKind.u64.wrap (((bt a0 x6_1) - 48) % 256))))) = ji31 := by rw [yW]; exact hji31_
                                have H' := Aside0.mk H
                                clear H
                                have p15 : 0 ≤ (x6_1 : Int) := of_decide_eq_true zz4
                                have q15 : x6_1 < (a0.size : Int) := of_decide_eq_true zz4
                                have hx15 := bt_at a0 x6_1
                                replace p15 := eq_true p15
                                replace q15 := eq_true q15
                                have p17 : 0 ≤ (x6_1 : Int) := of_decide_eq_true zz4
                                have q17 : x6_1 < (a0.size : Int) := of_decide_eq_true zz4
                                have hx17 := bt_at a0 x6_1
                                replace p17 := eq_true p17
                                replace q17 := eq_true q17
                                try go_wp2
                                have n0_ := Aside0.mk (blk_drew BK112.out)
                                have n1_ := Aside0.mk (blk_drew BK113.out)
                                have n2_ := Aside0.mk (below_drew1 HB.out)
                                clear BK112
                                clear BK113
                                clear HB
                                have BK112 := n0_
                                have BK113 := n1_
                                have HB := n2_
                                clear n0_ n1_ n2_
                                have p30 : 0 ≤ (x6_1 : Int) := of_decide_eq_true zz4
                                have q30 : x6_1 < (a0.size : Int) := of_decide_eq_true zz4
                                have hx30 := bt_at a0 x6_1
                                replace p30 := eq_true p30
                                replace q30 := eq_true q30
                                refine start_ (n := 14) (S := fun w' => w'.cell? ⟨gb113, 0, none⟩ = some (.int .u64 x114000_1) ∧ w'.cell? ⟨gb113, 1, none⟩ = some (.int .u64 x114001_1) ∧ w'.cell? ⟨gb113, 2, none⟩ = some (.int .u64 x114002_1) ∧ w'.cell? ⟨gb113, 3, none⟩ = some (.int .u64 x114003_1) ∧ w'.cell? ⟨gb113, 4, none⟩ = some (.int .u64 x114004_1)) (ds := [13]) #[false, false, false, false, false, false, false, false, false, false, false, false, false, false] (by kernel_rfl) rfl rfl ⟨(blk_cell BK113.out 0).trans rfl, (blk_cell BK113.out 1).trans rfl, (blk_cell BK113.out 2).trans rfl, (blk_cell BK113.out 3).trans rfl, (blk_cell BK113.out 4).trans rfl⟩ (fun hHeld => ?_); refine with_tabW watershedref04_Parse.tab10 watershedref04_Parse.bits10 (fun HT_ HW_ => ?_)
                                generalize wc.drew = w32 at BK112 BK113 HB hHeld ⊢
                                refine pure_ (i := 0) (N := some 43) (v := ?_) (a' := ?_) #[true, false, false, false, false, false, false, false, false, false, false, false, false, false] rfl rfl (any_of HT_.out (by kernel_rfl)) (fun _ _ _ h => h) (Or.inl ⟨by rfl, ?_⟩) ?_ ?_
                                rotate_left
                                · intro w'
                                  go_simp
                                  with_reducible rfl
                                rotate_left
                                · simp only [Act.put, List.setIfInBounds_toArray, List.set_cons_zero, List.set_cons_succ, i64_w, i32_w]
                                  rfl
                                refine pure_ (i := 1) (N := some 44) (v := ?_) (a' := ?_) #[true, true, false, false, false, false, false, false, false, false, false, false, false, false] rfl rfl (any_of HT_.out (by kernel_rfl)) (fun _ _ _ h => h) (Or.inl ⟨by rfl, ?_⟩) ?_ ?_
                                rotate_left
                                · intro w'
                                  go_simp
                                  with_reducible rfl
                                rotate_left
                                · simp only [Act.put, List.setIfInBounds_toArray, List.set_cons_zero, List.set_cons_succ, i64_w, i32_w]
                                  rfl
                                refine pure_ (i := 2) (N := some 45) (v := ?_) (a' := ?_) #[true, true, true, false, false, false, false, false, false, false, false, false, false, false] rfl rfl (any_of HT_.out (by kernel_rfl)) (fun _ _ _ h => h) (Or.inl ⟨by rfl, ?_⟩) ?_ ?_
                                rotate_left
                                · intro w'
                                  go_simp
                                  with_reducible rfl
                                rotate_left
                                · simp only [Act.put, List.setIfInBounds_toArray, List.set_cons_zero, List.set_cons_succ, i64_w, i32_w]
                                  rfl
                                refine pure_ (i := 5) (N := some 48) (v := ?_) (a' := ?_) #[true, true, true, false, false, true, false, false, false, false, false, false, false, false] rfl rfl (any_of HT_.out (by kernel_rfl)) (fun _ _ _ h => h) (Or.inl ⟨by rfl, ?_⟩) ?_ ?_
                                rotate_left
                                · intro w'
                                  go_simp
                                  with_reducible rfl
                                rotate_left
                                · simp only [Act.put, List.setIfInBounds_toArray, List.set_cons_zero, List.set_cons_succ, i64_w, i32_w]
                                  rfl
                                refine pure_ (i := 6) (N := some 49) (v := ?_) (a' := ?_) #[true, true, true, false, false, true, true, false, false, false, false, false, false, false] rfl rfl (any_of HT_.out (by kernel_rfl)) (fun _ _ _ h => h) (Or.inl ⟨by rfl, ?_⟩) ?_ ?_
                                rotate_left
                                · intro w'
                                  go_simp
                                  with_reducible rfl
                                rotate_left
                                · simp only [Act.put, List.setIfInBounds_toArray, List.set_cons_zero, List.set_cons_succ, i64_w, i32_w]
                                  rfl
                                refine take_ (i := 3) (N := some 46) (v := ?_) (a' := ?_) #[true, true, true, true, false, true, true, false, false, false, false, false, false, false] rfl rfl (take_ofW HT_.out HW_.out (by kernel_rfl)) (fun _ _ _ h => h) (Or.inl ⟨by rfl, ?_⟩) hHeld ?_ ?_
                                rotate_left
                                · rintro w' ⟨s0, s1, s2, s3, s4⟩
                                  go_simp
                                  with_reducible rfl
                                rotate_left
                                · simp only [Act.put, List.setIfInBounds_toArray, List.set_cons_zero, List.set_cons_succ, i64_w, i32_w]
                                  rfl
                                refine pure_ (i := 4) (N := some 47) (v := ?_) (a' := ?_) #[true, true, true, true, true, true, true, false, false, false, false, false, false, false] rfl rfl (any_of HT_.out (by kernel_rfl)) (fun _ _ _ h => h) (Or.inl ⟨by rfl, ?_⟩) ?_ ?_
                                rotate_left
                                · intro w'
                                  go_simp
                                  with_reducible rfl
                                rotate_left
                                · simp only [Act.put, List.setIfInBounds_toArray, List.set_cons_zero, List.set_cons_succ, i64_w, i32_w]
                                  rfl
                                refine take_ (i := 7) (N := some 50) (v := ?_) (a' := ?_) #[true, true, true, true, true, true, true, true, false, false, false, false, false, false] rfl rfl (take_ofW HT_.out HW_.out (by kernel_rfl)) (fun _ _ _ h => h) (Or.inl ⟨by rfl, ?_⟩) hHeld ?_ ?_
                                rotate_left
                                · rintro w' ⟨s0, s1, s2, s3, s4⟩
                                  go_simp
                                  with_reducible rfl
                                rotate_left
                                · simp only [Act.put, List.setIfInBounds_toArray, List.set_cons_zero, List.set_cons_succ, i64_w, i32_w]
                                  rfl
                                refine pure_ (i := 8) (N := some 51) (v := ?_) (a' := ?_) #[true, true, true, true, true, true, true, true, true, false, false, false, false, false] rfl rfl (any_of HT_.out (by kernel_rfl)) (fun _ _ _ h => h) (Or.inl ⟨by rfl, ?_⟩) ?_ ?_
                                rotate_left
                                · intro w'
                                  go_simp
                                  with_reducible rfl
                                rotate_left
                                · simp only [Act.put, List.setIfInBounds_toArray, List.set_cons_zero, List.set_cons_succ, i64_w, i32_w]
                                  rfl
                                refine pure_ (i := 9) (N := some 52) (v := ?_) (a' := ?_) #[true, true, true, true, true, true, true, true, true, true, false, false, false, false] rfl rfl (any_of HT_.out (by kernel_rfl)) (fun _ _ _ h => h) (Or.inl ⟨by rfl, ?_⟩) ?_ ?_
                                rotate_left
                                · intro w'
                                  go_simp
                                  with_reducible rfl
                                rotate_left
                                · simp only [Act.put, List.setIfInBounds_toArray, List.set_cons_zero, List.set_cons_succ, i64_w, i32_w]
                                  rfl
                                refine pure_ (i := 10) (N := some 53) (v := ?_) (a' := ?_) #[true, true, true, true, true, true, true, true, true, true, true, false, false, false] rfl rfl (any_of HT_.out (by kernel_rfl)) (fun _ _ _ h => h) (Or.inl ⟨by rfl, ?_⟩) ?_ ?_
                                rotate_left
                                · intro w'
                                  go_simp
                                  with_reducible rfl
                                rotate_left
                                · simp only [Act.put, List.setIfInBounds_toArray, List.set_cons_zero, List.set_cons_succ, i64_w, i32_w]
                                  rfl
                                refine pure_ (i := 11) (N := some 54) (v := ?_) (a' := ?_) #[true, true, true, true, true, true, true, true, true, true, true, true, false, false] rfl rfl (any_of HT_.out (by kernel_rfl)) (fun _ _ _ h => h) (Or.inl ⟨by rfl, ?_⟩) ?_ ?_
                                rotate_left
                                · intro w'
                                  go_simp
                                  with_reducible rfl
                                rotate_left
                                · simp only [Act.put, List.setIfInBounds_toArray, List.set_cons_zero, List.set_cons_succ, i64_w, i32_w]
                                  rfl
                                refine pure_ (i := 12) (N := some 55) (v := ?_) (a' := ?_) #[true, true, true, true, true, true, true, true, true, true, true, true, true, false] rfl rfl (any_of HT_.out (by kernel_rfl)) (fun _ _ _ h => h) (Or.inl ⟨by rfl, ?_⟩) ?_ ?_
                                rotate_left
                                · intro w'
                                  go_simp
                                  with_reducible rfl
                                rotate_left
                                · simp only [Act.put, List.setIfInBounds_toArray, List.set_cons_zero, List.set_cons_succ, i64_w, i32_w]
                                  rfl
                                refine last_ (i := 13) (N := none) #[true, true, true, true, true, true, true, true, true, true, true, true, true, true] rfl rfl (one_of HT_.out (by kernel_rfl)) (by decide) (fun K hK => ?_)
                                have hs33 : w32.cell? ⟨gb113, 2, none⟩ = some (.int .u64 x114002_1) := (blk_cell BK113.out 2).trans rfl
                                have hfs33 := blk_frozen BK113.out 2
                                have hns33_0 := NB112_113.out
                                have hms33_0 := NB113_112.out
                                refine skip_ (w1 := ?_) (by rfl) rfl ?_ ?_
                                rotate_left
                                · go_simp
                                  rfl
                                refine hK.out _ _ ?_
                                clear hK K
                                refine done_ (done_of HT_.out (by kernel_rfl)) ?_
                                try go_wp2
                                go_roundg kj6
                                case measure => have := HK1.out; have := HJ3.out; have := HJ6.out; omega
                                case rel => exact ⟨(2), (wrap64 (x6_1 + 1)), (x113000_1), (x113001_1), (x113002_1), (x113003_1), (x113004_1), (x114000_1), (x114001_1), (ji31), (x114003_1), (x114004_1), zz1, zz1, H', ⟨by have := HK1.out; have := HJ3.out; have := HJ6.out; omega⟩, ⟨yF⟩, ⟨by (with_reducible repeat (first | refine blk_drewN ?_ _ | refine blk_drew ?_ | refine blk_alloc ?_ _)); refine blk_put (cs := #[.int .u64 x114000_1, .int .u64 x114001_1, .int .u64 x114002_1, .int .u64 x114003_1, .int .u64 x114004_1]) ?_ 2 _ rfl; (with_reducible repeat (first | refine blk_drewN ?_ _ | refine blk_drew ?_ | refine blk_alloc ?_ _)); exact BK113.out⟩, ⟨by repeat (first | (with_reducible first | exact HB.out | apply below_alloc | apply pw_below_drewN | apply below_drew1 | refine below_set ?_ GE112.out | refine below_set ?_ GE113.out) | exact HB.out)⟩⟩
                              · rw [if_neg c29] at H
                                have c29b0 : (x5_1 == 2) = false := beq_eq_false_iff_ne.mpr c29
                                have c29b1 : (x5_1 != 2) = true := bne_iff_ne.mpr c29
                                by_cases c34 : x5_1 = 3
                                · rw [if_pos c34] at H
                                  subst c34
                                  obtain ⟨ji36, hji36⟩ : ∃ j_ : Int, (mn (IntKind.u64.wrap ((IntKind.u64.wrap (x114003_1 * 10)) + (((bt a0 x6_1) - 48) % 256))) 1073741824) = j_ := ⟨_, rfl⟩
                                  replace H : (watershedref04_Parse.l0 kj6 a0 3 (wrap64 (x6_1 + 1)) x114000_1 x114001_1 x114002_1 ji36 x114004_1) = some (r1, r2, r3, r4, r5, r6) := by first | (rw [hji36] at H; exact H) | (simp only [hji36] at H ⊢; exact H)
                                  have hji36_ : (if 1073741824 < (IntKind.u64.wrap ((IntKind.u64.wrap (x114003_1 * 10)) + (((bt a0 x6_1) - 48) % 256))) then 1073741824 else (IntKind.u64.wrap ((IntKind.u64.wrap (x114003_1 * 10)) + (((bt a0 x6_1) - 48) % 256)))) = ji36 := hji36
                                  have hji36A : (if 1073741824 < (IntKind.u64.wrap ((IntKind.u64.wrap (x114003_1 * 10)) + (IntKind.u64.wrap (IntKind.u8.wrap ((bt a0 x6_1) - 48))))) then 1073741824 else (IntKind.u64.wrap ((IntKind.u64.wrap (x114003_1 * 10)) + (IntKind.u64.wrap (IntKind.u8.wrap ((bt a0 x6_1) - 48)))))) = ji36 := by rw [yV]; exact hji36_
                                  have hji36B : (if 1073741824 < (IntKind.u64.wrap ((IntKind.u64.wrap (x114003_1 * 10)) + (IntKind.u64.wrap (((bt a0 x6_1) - 48) % 256)))) then 1073741824 else (IntKind.u64.wrap ((IntKind.u64.wrap (x114003_1 * 10)) + (IntKind.u64.wrap (((bt a0 x6_1) - 48) % 256))))) = ji36 := by rw [yW]; exact hji36_
                                  have H' := Aside0.mk H
                                  clear H
                                  have p15 : 0 ≤ (x6_1 : Int) := of_decide_eq_true zz4
                                  have q15 : x6_1 < (a0.size : Int) := of_decide_eq_true zz4
                                  have hx15 := bt_at a0 x6_1
                                  replace p15 := eq_true p15
                                  replace q15 := eq_true q15
                                  have p17 : 0 ≤ (x6_1 : Int) := of_decide_eq_true zz4
                                  have q17 : x6_1 < (a0.size : Int) := of_decide_eq_true zz4
                                  have hx17 := bt_at a0 x6_1
                                  replace p17 := eq_true p17
                                  replace q17 := eq_true q17
                                  try go_wp2
                                  have n0_ := Aside0.mk (blk_drew BK112.out)
                                  have n1_ := Aside0.mk (blk_drew BK113.out)
                                  have n2_ := Aside0.mk (below_drew1 HB.out)
                                  clear BK112
                                  clear BK113
                                  clear HB
                                  have BK112 := n0_
                                  have BK113 := n1_
                                  have HB := n2_
                                  clear n0_ n1_ n2_
                                  have p35 : 0 ≤ (x6_1 : Int) := of_decide_eq_true zz4
                                  have q35 : x6_1 < (a0.size : Int) := of_decide_eq_true zz4
                                  have hx35 := bt_at a0 x6_1
                                  replace p35 := eq_true p35
                                  replace q35 := eq_true q35
                                  refine start_ (n := 14) (S := fun w' => w'.cell? ⟨gb113, 0, none⟩ = some (.int .u64 x114000_1) ∧ w'.cell? ⟨gb113, 1, none⟩ = some (.int .u64 x114001_1) ∧ w'.cell? ⟨gb113, 2, none⟩ = some (.int .u64 x114002_1) ∧ w'.cell? ⟨gb113, 3, none⟩ = some (.int .u64 x114003_1) ∧ w'.cell? ⟨gb113, 4, none⟩ = some (.int .u64 x114004_1)) (ds := [13]) #[false, false, false, false, false, false, false, false, false, false, false, false, false, false] (by kernel_rfl) rfl rfl ⟨(blk_cell BK113.out 0).trans rfl, (blk_cell BK113.out 1).trans rfl, (blk_cell BK113.out 2).trans rfl, (blk_cell BK113.out 3).trans rfl, (blk_cell BK113.out 4).trans rfl⟩ (fun hHeld => ?_); refine with_tabW watershedref04_Parse.tab10 watershedref04_Parse.bits10 (fun HT_ HW_ => ?_)
                                  generalize wc.drew = w37 at BK112 BK113 HB hHeld ⊢
                                  refine pure_ (i := 0) (N := some 43) (v := ?_) (a' := ?_) #[true, false, false, false, false, false, false, false, false, false, false, false, false, false] rfl rfl (any_of HT_.out (by kernel_rfl)) (fun _ _ _ h => h) (Or.inl ⟨by rfl, ?_⟩) ?_ ?_
                                  rotate_left
                                  · intro w'
                                    go_simp
                                    with_reducible rfl
                                  rotate_left
                                  · simp only [Act.put, List.setIfInBounds_toArray, List.set_cons_zero, List.set_cons_succ, i64_w, i32_w]
                                    rfl
                                  refine pure_ (i := 1) (N := some 44) (v := ?_) (a' := ?_) #[true, true, false, false, false, false, false, false, false, false, false, false, false, false] rfl rfl (any_of HT_.out (by kernel_rfl)) (fun _ _ _ h => h) (Or.inl ⟨by rfl, ?_⟩) ?_ ?_
                                  rotate_left
                                  · intro w'
                                    go_simp
                                    with_reducible rfl
                                  rotate_left
                                  · simp only [Act.put, List.setIfInBounds_toArray, List.set_cons_zero, List.set_cons_succ, i64_w, i32_w]
                                    rfl
                                  refine pure_ (i := 2) (N := some 45) (v := ?_) (a' := ?_) #[true, true, true, false, false, false, false, false, false, false, false, false, false, false] rfl rfl (any_of HT_.out (by kernel_rfl)) (fun _ _ _ h => h) (Or.inl ⟨by rfl, ?_⟩) ?_ ?_
                                  rotate_left
                                  · intro w'
                                    go_simp
                                    with_reducible rfl
                                  rotate_left
                                  · simp only [Act.put, List.setIfInBounds_toArray, List.set_cons_zero, List.set_cons_succ, i64_w, i32_w]
                                    rfl
                                  refine pure_ (i := 5) (N := some 48) (v := ?_) (a' := ?_) #[true, true, true, false, false, true, false, false, false, false, false, false, false, false] rfl rfl (any_of HT_.out (by kernel_rfl)) (fun _ _ _ h => h) (Or.inl ⟨by rfl, ?_⟩) ?_ ?_
                                  rotate_left
                                  · intro w'
                                    go_simp
                                    with_reducible rfl
                                  rotate_left
                                  · simp only [Act.put, List.setIfInBounds_toArray, List.set_cons_zero, List.set_cons_succ, i64_w, i32_w]
                                    rfl
                                  refine pure_ (i := 6) (N := some 49) (v := ?_) (a' := ?_) #[true, true, true, false, false, true, true, false, false, false, false, false, false, false] rfl rfl (any_of HT_.out (by kernel_rfl)) (fun _ _ _ h => h) (Or.inl ⟨by rfl, ?_⟩) ?_ ?_
                                  rotate_left
                                  · intro w'
                                    go_simp
                                    with_reducible rfl
                                  rotate_left
                                  · simp only [Act.put, List.setIfInBounds_toArray, List.set_cons_zero, List.set_cons_succ, i64_w, i32_w]
                                    rfl
                                  refine take_ (i := 3) (N := some 46) (v := ?_) (a' := ?_) #[true, true, true, true, false, true, true, false, false, false, false, false, false, false] rfl rfl (take_ofW HT_.out HW_.out (by kernel_rfl)) (fun _ _ _ h => h) (Or.inl ⟨by rfl, ?_⟩) hHeld ?_ ?_
                                  rotate_left
                                  · rintro w' ⟨s0, s1, s2, s3, s4⟩
                                    go_simp
                                    with_reducible rfl
                                  rotate_left
                                  · simp only [Act.put, List.setIfInBounds_toArray, List.set_cons_zero, List.set_cons_succ, i64_w, i32_w]
                                    rfl
                                  refine pure_ (i := 4) (N := some 47) (v := ?_) (a' := ?_) #[true, true, true, true, true, true, true, false, false, false, false, false, false, false] rfl rfl (any_of HT_.out (by kernel_rfl)) (fun _ _ _ h => h) (Or.inl ⟨by rfl, ?_⟩) ?_ ?_
                                  rotate_left
                                  · intro w'
                                    go_simp
                                    with_reducible rfl
                                  rotate_left
                                  · simp only [Act.put, List.setIfInBounds_toArray, List.set_cons_zero, List.set_cons_succ, i64_w, i32_w]
                                    rfl
                                  refine take_ (i := 7) (N := some 50) (v := ?_) (a' := ?_) #[true, true, true, true, true, true, true, true, false, false, false, false, false, false] rfl rfl (take_ofW HT_.out HW_.out (by kernel_rfl)) (fun _ _ _ h => h) (Or.inl ⟨by rfl, ?_⟩) hHeld ?_ ?_
                                  rotate_left
                                  · rintro w' ⟨s0, s1, s2, s3, s4⟩
                                    go_simp
                                    with_reducible rfl
                                  rotate_left
                                  · simp only [Act.put, List.setIfInBounds_toArray, List.set_cons_zero, List.set_cons_succ, i64_w, i32_w]
                                    rfl
                                  refine pure_ (i := 8) (N := some 51) (v := ?_) (a' := ?_) #[true, true, true, true, true, true, true, true, true, false, false, false, false, false] rfl rfl (any_of HT_.out (by kernel_rfl)) (fun _ _ _ h => h) (Or.inl ⟨by rfl, ?_⟩) ?_ ?_
                                  rotate_left
                                  · intro w'
                                    go_simp
                                    with_reducible rfl
                                  rotate_left
                                  · simp only [Act.put, List.setIfInBounds_toArray, List.set_cons_zero, List.set_cons_succ, i64_w, i32_w]
                                    rfl
                                  refine pure_ (i := 9) (N := some 52) (v := ?_) (a' := ?_) #[true, true, true, true, true, true, true, true, true, true, false, false, false, false] rfl rfl (any_of HT_.out (by kernel_rfl)) (fun _ _ _ h => h) (Or.inl ⟨by rfl, ?_⟩) ?_ ?_
                                  rotate_left
                                  · intro w'
                                    go_simp
                                    with_reducible rfl
                                  rotate_left
                                  · simp only [Act.put, List.setIfInBounds_toArray, List.set_cons_zero, List.set_cons_succ, i64_w, i32_w]
                                    rfl
                                  refine pure_ (i := 10) (N := some 53) (v := ?_) (a' := ?_) #[true, true, true, true, true, true, true, true, true, true, true, false, false, false] rfl rfl (any_of HT_.out (by kernel_rfl)) (fun _ _ _ h => h) (Or.inl ⟨by rfl, ?_⟩) ?_ ?_
                                  rotate_left
                                  · intro w'
                                    go_simp
                                    with_reducible rfl
                                  rotate_left
                                  · simp only [Act.put, List.setIfInBounds_toArray, List.set_cons_zero, List.set_cons_succ, i64_w, i32_w]
                                    rfl
                                  refine pure_ (i := 11) (N := some 54) (v := ?_) (a' := ?_) #[true, true, true, true, true, true, true, true, true, true, true, true, false, false] rfl rfl (any_of HT_.out (by kernel_rfl)) (fun _ _ _ h => h) (Or.inl ⟨by rfl, ?_⟩) ?_ ?_
                                  rotate_left
                                  · intro w'
                                    go_simp
                                    with_reducible rfl
                                  rotate_left
                                  · simp only [Act.put, List.setIfInBounds_toArray, List.set_cons_zero, List.set_cons_succ, i64_w, i32_w]
                                    rfl
                                  refine pure_ (i := 12) (N := some 55) (v := ?_) (a' := ?_) #[true, true, true, true, true, true, true, true, true, true, true, true, true, false] rfl rfl (any_of HT_.out (by kernel_rfl)) (fun _ _ _ h => h) (Or.inl ⟨by rfl, ?_⟩) ?_ ?_
                                  rotate_left
                                  · intro w'
                                    go_simp
                                    with_reducible rfl
                                  rotate_left
                                  · simp only [Act.put, List.setIfInBounds_toArray, List.set_cons_zero, List.set_cons_succ, i64_w, i32_w]
                                    rfl
                                  refine last_ (i := 13) (N := none) #[true, true, true, true, true, true, true, true, true, true, true, true, true, true] rfl rfl (one_of HT_.out (by kernel_rfl)) (by decide) (fun K hK => ?_)
                                  have hs38 : w37.cell? ⟨gb113, 3, none⟩ = some (.int .u64 x114003_1) := (blk_cell BK113.out 3).trans rfl
                                  have hfs38 := blk_frozen BK113.out 3
                                  have hns38_0 := NB112_113.out
                                  have hms38_0 := NB113_112.out
                                  refine skip_ (w1 := ?_) (by rfl) rfl ?_ ?_
                                  rotate_left
                                  · go_simp
                                    rfl
                                  refine hK.out _ _ ?_
                                  clear hK K
                                  refine done_ (done_of HT_.out (by kernel_rfl)) ?_
                                  try go_wp2
                                  go_roundg kj6
                                  case measure => have := HK1.out; have := HJ3.out; have := HJ6.out; omega
                                  case rel => exact ⟨(3), (wrap64 (x6_1 + 1)), (x113000_1), (x113001_1), (x113002_1), (x113003_1), (x113004_1), (x114000_1), (x114001_1), (x114002_1), (ji36), (x114004_1), zz1, zz1, H', ⟨by have := HK1.out; have := HJ3.out; have := HJ6.out; omega⟩, ⟨yF⟩, ⟨by (with_reducible repeat (first | refine blk_drewN ?_ _ | refine blk_drew ?_ | refine blk_alloc ?_ _)); refine blk_put (cs := #[.int .u64 x114000_1, .int .u64 x114001_1, .int .u64 x114002_1, .int .u64 x114003_1, .int .u64 x114004_1]) ?_ 3 _ rfl; (with_reducible repeat (first | refine blk_drewN ?_ _ | refine blk_drew ?_ | refine blk_alloc ?_ _)); exact BK113.out⟩, ⟨by repeat (first | (with_reducible first | exact HB.out | apply below_alloc | apply pw_below_drewN | apply below_drew1 | refine below_set ?_ GE112.out | refine below_set ?_ GE113.out) | exact HB.out)⟩⟩
                                · rw [if_neg c34] at H
                                  have c34b0 : (x5_1 == 3) = false := beq_eq_false_iff_ne.mpr c34
                                  have c34b1 : (x5_1 != 3) = true := bne_iff_ne.mpr c34
                                  by_cases c39 : x5_1 = 4
                                  · rw [if_pos c39] at H
                                    subst c39
                                    obtain ⟨ji41, hji41⟩ : ∃ j_ : Int, (mn (IntKind.u64.wrap ((IntKind.u64.wrap (x114004_1 * 10)) + (((bt a0 x6_1) - 48) % 256))) 1073741824) = j_ := ⟨_, rfl⟩
                                    replace H : (watershedref04_Parse.l0 kj6 a0 4 (wrap64 (x6_1 + 1)) x114000_1 x114001_1 x114002_1 x114003_1 ji41) = some (r1, r2, r3, r4, r5, r6) := by first | (rw [hji41] at H; exact H) | (simp only [hji41] at H ⊢; exact H)
                                    have hji41_ : (if 1073741824 < (IntKind.u64.wrap ((IntKind.u64.wrap (x114004_1 * 10)) + (((bt a0 x6_1) - 48) % 256))) then 1073741824 else (IntKind.u64.wrap ((IntKind.u64.wrap (x114004_1 * 10)) + (((bt a0 x6_1) - 48) % 256)))) = ji41 := hji41
                                    have hji41A : (if 1073741824 < (IntKind.u64.wrap ((IntKind.u64.wrap (x114004_1 * 10)) + (IntKind.u64.wrap (IntKind.u8.wrap ((bt a0 x6_1) - 48))))) then 1073741824 else (IntKind.u64.wrap ((IntKind.u64.wrap (x114004_1 * 10)) + (IntKind.u64.wrap (IntKind.u8.wrap ((bt a0 x6_1) - 48)))))) = ji41 := by rw [yV]; exact hji41_
                                    have hji41B : (if 1073741824 < (IntKind.u64.wrap ((IntKind.u64.wrap (x114004_1 * 10)) + (IntKind.u64.wrap (((bt a0 x6_1) - 48) % 256)))) then 1073741824 else (IntKind.u64.wrap ((IntKind.u64.wrap (x114004_1 * 10)) + (IntKind.u64.wrap (((bt a0 x6_1) - 48) % 256))))) = ji41 := by rw [yW]; exact hji41_
                                    have H' := Aside0.mk H
                                    clear H
                                    have p15 : 0 ≤ (x6_1 : Int) := of_decide_eq_true zz4
                                    have q15 : x6_1 < (a0.size : Int) := of_decide_eq_true zz4
                                    have hx15 := bt_at a0 x6_1
                                    replace p15 := eq_true p15
                                    replace q15 := eq_true q15
                                    have p17 : 0 ≤ (x6_1 : Int) := of_decide_eq_true zz4
                                    have q17 : x6_1 < (a0.size : Int) := of_decide_eq_true zz4
                                    have hx17 := bt_at a0 x6_1
                                    replace p17 := eq_true p17
                                    replace q17 := eq_true q17
                                    try go_wp2
                                    have n0_ := Aside0.mk (blk_drew BK112.out)
                                    have n1_ := Aside0.mk (blk_drew BK113.out)
                                    have n2_ := Aside0.mk (below_drew1 HB.out)
                                    clear BK112
                                    clear BK113
                                    clear HB
                                    have BK112 := n0_
                                    have BK113 := n1_
                                    have HB := n2_
                                    clear n0_ n1_ n2_
                                    have p40 : 0 ≤ (x6_1 : Int) := of_decide_eq_true zz4
                                    have q40 : x6_1 < (a0.size : Int) := of_decide_eq_true zz4
                                    have hx40 := bt_at a0 x6_1
                                    replace p40 := eq_true p40
                                    replace q40 := eq_true q40
                                    refine start_ (n := 14) (S := fun w' => w'.cell? ⟨gb113, 0, none⟩ = some (.int .u64 x114000_1) ∧ w'.cell? ⟨gb113, 1, none⟩ = some (.int .u64 x114001_1) ∧ w'.cell? ⟨gb113, 2, none⟩ = some (.int .u64 x114002_1) ∧ w'.cell? ⟨gb113, 3, none⟩ = some (.int .u64 x114003_1) ∧ w'.cell? ⟨gb113, 4, none⟩ = some (.int .u64 x114004_1)) (ds := [13]) #[false, false, false, false, false, false, false, false, false, false, false, false, false, false] (by kernel_rfl) rfl rfl ⟨(blk_cell BK113.out 0).trans rfl, (blk_cell BK113.out 1).trans rfl, (blk_cell BK113.out 2).trans rfl, (blk_cell BK113.out 3).trans rfl, (blk_cell BK113.out 4).trans rfl⟩ (fun hHeld => ?_); refine with_tabW watershedref04_Parse.tab10 watershedref04_Parse.bits10 (fun HT_ HW_ => ?_)
                                    generalize wc.drew = w42 at BK112 BK113 HB hHeld ⊢
                                    refine pure_ (i := 0) (N := some 43) (v := ?_) (a' := ?_) #[true, false, false, false, false, false, false, false, false, false, false, false, false, false] rfl rfl (any_of HT_.out (by kernel_rfl)) (fun _ _ _ h => h) (Or.inl ⟨by rfl, ?_⟩) ?_ ?_
                                    rotate_left
                                    · intro w'
                                      go_simp
                                      with_reducible rfl
                                    rotate_left
                                    · simp only [Act.put, List.setIfInBounds_toArray, List.set_cons_zero, List.set_cons_succ, i64_w, i32_w]
                                      rfl
                                    refine pure_ (i := 1) (N := some 44) (v := ?_) (a' := ?_) #[true, true, false, false, false, false, false, false, false, false, false, false, false, false] rfl rfl (any_of HT_.out (by kernel_rfl)) (fun _ _ _ h => h) (Or.inl ⟨by rfl, ?_⟩) ?_ ?_
                                    rotate_left
                                    · intro w'
                                      go_simp
                                      with_reducible rfl
                                    rotate_left
                                    · simp only [Act.put, List.setIfInBounds_toArray, List.set_cons_zero, List.set_cons_succ, i64_w, i32_w]
                                      rfl
                                    refine pure_ (i := 2) (N := some 45) (v := ?_) (a' := ?_) #[true, true, true, false, false, false, false, false, false, false, false, false, false, false] rfl rfl (any_of HT_.out (by kernel_rfl)) (fun _ _ _ h => h) (Or.inl ⟨by rfl, ?_⟩) ?_ ?_
                                    rotate_left
                                    · intro w'
                                      go_simp
                                      with_reducible rfl
                                    rotate_left
                                    · simp only [Act.put, List.setIfInBounds_toArray, List.set_cons_zero, List.set_cons_succ, i64_w, i32_w]
                                      rfl
                                    refine pure_ (i := 5) (N := some 48) (v := ?_) (a' := ?_) #[true, true, true, false, false, true, false, false, false, false, false, false, false, false] rfl rfl (any_of HT_.out (by kernel_rfl)) (fun _ _ _ h => h) (Or.inl ⟨by rfl, ?_⟩) ?_ ?_
                                    rotate_left
                                    · intro w'
                                      go_simp
                                      with_reducible rfl
                                    rotate_left
                                    · simp only [Act.put, List.setIfInBounds_toArray, List.set_cons_zero, List.set_cons_succ, i64_w, i32_w]
                                      rfl
                                    refine pure_ (i := 6) (N := some 49) (v := ?_) (a' := ?_) #[true, true, true, false, false, true, true, false, false, false, false, false, false, false] rfl rfl (any_of HT_.out (by kernel_rfl)) (fun _ _ _ h => h) (Or.inl ⟨by rfl, ?_⟩) ?_ ?_
                                    rotate_left
                                    · intro w'
                                      go_simp
                                      with_reducible rfl
                                    rotate_left
                                    · simp only [Act.put, List.setIfInBounds_toArray, List.set_cons_zero, List.set_cons_succ, i64_w, i32_w]
                                      rfl
                                    refine take_ (i := 3) (N := some 46) (v := ?_) (a' := ?_) #[true, true, true, true, false, true, true, false, false, false, false, false, false, false] rfl rfl (take_ofW HT_.out HW_.out (by kernel_rfl)) (fun _ _ _ h => h) (Or.inl ⟨by rfl, ?_⟩) hHeld ?_ ?_
                                    rotate_left
                                    · rintro w' ⟨s0, s1, s2, s3, s4⟩
                                      go_simp
                                      with_reducible rfl
                                    rotate_left
                                    · simp only [Act.put, List.setIfInBounds_toArray, List.set_cons_zero, List.set_cons_succ, i64_w, i32_w]
                                      rfl
                                    refine pure_ (i := 4) (N := some 47) (v := ?_) (a' := ?_) #[true, true, true, true, true, true, true, false, false, false, false, false, false, false] rfl rfl (any_of HT_.out (by kernel_rfl)) (fun _ _ _ h => h) (Or.inl ⟨by rfl, ?_⟩) ?_ ?_
                                    rotate_left
                                    · intro w'
                                      go_simp
                                      with_reducible rfl
                                    rotate_left
                                    · simp only [Act.put, List.setIfInBounds_toArray, List.set_cons_zero, List.set_cons_succ, i64_w, i32_w]
                                      rfl
                                    refine take_ (i := 7) (N := some 50) (v := ?_) (a' := ?_) #[true, true, true, true, true, true, true, true, false, false, false, false, false, false] rfl rfl (take_ofW HT_.out HW_.out (by kernel_rfl)) (fun _ _ _ h => h) (Or.inl ⟨by rfl, ?_⟩) hHeld ?_ ?_
                                    rotate_left
                                    · rintro w' ⟨s0, s1, s2, s3, s4⟩
                                      go_simp
                                      with_reducible rfl
                                    rotate_left
                                    · simp only [Act.put, List.setIfInBounds_toArray, List.set_cons_zero, List.set_cons_succ, i64_w, i32_w]
                                      rfl
                                    refine pure_ (i := 8) (N := some 51) (v := ?_) (a' := ?_) #[true, true, true, true, true, true, true, true, true, false, false, false, false, false] rfl rfl (any_of HT_.out (by kernel_rfl)) (fun _ _ _ h => h) (Or.inl ⟨by rfl, ?_⟩) ?_ ?_
                                    rotate_left
                                    · intro w'
                                      go_simp
                                      with_reducible rfl
                                    rotate_left
                                    · simp only [Act.put, List.setIfInBounds_toArray, List.set_cons_zero, List.set_cons_succ, i64_w, i32_w]
                                      rfl
                                    refine pure_ (i := 9) (N := some 52) (v := ?_) (a' := ?_) #[true, true, true, true, true, true, true, true, true, true, false, false, false, false] rfl rfl (any_of HT_.out (by kernel_rfl)) (fun _ _ _ h => h) (Or.inl ⟨by rfl, ?_⟩) ?_ ?_
                                    rotate_left
                                    · intro w'
                                      go_simp
                                      with_reducible rfl
                                    rotate_left
                                    · simp only [Act.put, List.setIfInBounds_toArray, List.set_cons_zero, List.set_cons_succ, i64_w, i32_w]
                                      rfl
                                    refine pure_ (i := 10) (N := some 53) (v := ?_) (a' := ?_) #[true, true, true, true, true, true, true, true, true, true, true, false, false, false] rfl rfl (any_of HT_.out (by kernel_rfl)) (fun _ _ _ h => h) (Or.inl ⟨by rfl, ?_⟩) ?_ ?_
                                    rotate_left
                                    · intro w'
                                      go_simp
                                      with_reducible rfl
                                    rotate_left
                                    · simp only [Act.put, List.setIfInBounds_toArray, List.set_cons_zero, List.set_cons_succ, i64_w, i32_w]
                                      rfl
                                    refine pure_ (i := 11) (N := some 54) (v := ?_) (a' := ?_) #[true, true, true, true, true, true, true, true, true, true, true, true, false, false] rfl rfl (any_of HT_.out (by kernel_rfl)) (fun _ _ _ h => h) (Or.inl ⟨by rfl, ?_⟩) ?_ ?_
                                    rotate_left
                                    · intro w'
                                      go_simp
                                      with_reducible rfl
                                    rotate_left
                                    · simp only [Act.put, List.setIfInBounds_toArray, List.set_cons_zero, List.set_cons_succ, i64_w, i32_w]
                                      rfl
                                    refine pure_ (i := 12) (N := some 55) (v := ?_) (a' := ?_) #[true, true, true, true, true, true, true, true, true, true, true, true, true, false] rfl rfl (any_of HT_.out (by kernel_rfl)) (fun _ _ _ h => h) (Or.inl ⟨by rfl, ?_⟩) ?_ ?_
                                    rotate_left
                                    · intro w'
                                      go_simp
                                      with_reducible rfl
                                    rotate_left
                                    · simp only [Act.put, List.setIfInBounds_toArray, List.set_cons_zero, List.set_cons_succ, i64_w, i32_w]
                                      rfl
                                    refine last_ (i := 13) (N := none) #[true, true, true, true, true, true, true, true, true, true, true, true, true, true] rfl rfl (one_of HT_.out (by kernel_rfl)) (by decide) (fun K hK => ?_)
                                    have hs43 : w42.cell? ⟨gb113, 4, none⟩ = some (.int .u64 x114004_1) := (blk_cell BK113.out 4).trans rfl
                                    have hfs43 := blk_frozen BK113.out 4
                                    have hns43_0 := NB112_113.out
                                    have hms43_0 := NB113_112.out
                                    refine skip_ (w1 := ?_) (by rfl) rfl ?_ ?_
                                    rotate_left
                                    · go_simp
                                      rfl
                                    refine hK.out _ _ ?_
                                    clear hK K
                                    refine done_ (done_of HT_.out (by kernel_rfl)) ?_
                                    try go_wp2
                                    go_roundg kj6
                                    case measure => have := HK1.out; have := HJ3.out; have := HJ6.out; omega
                                    case rel => exact ⟨(4), (wrap64 (x6_1 + 1)), (x113000_1), (x113001_1), (x113002_1), (x113003_1), (x113004_1), (x114000_1), (x114001_1), (x114002_1), (x114003_1), (ji41), zz1, zz1, H', ⟨by have := HK1.out; have := HJ3.out; have := HJ6.out; omega⟩, ⟨yF⟩, ⟨by (with_reducible repeat (first | refine blk_drewN ?_ _ | refine blk_drew ?_ | refine blk_alloc ?_ _)); refine blk_put (cs := #[.int .u64 x114000_1, .int .u64 x114001_1, .int .u64 x114002_1, .int .u64 x114003_1, .int .u64 x114004_1]) ?_ 4 _ rfl; (with_reducible repeat (first | refine blk_drewN ?_ _ | refine blk_drew ?_ | refine blk_alloc ?_ _)); exact BK113.out⟩, ⟨by repeat (first | (with_reducible first | exact HB.out | apply below_alloc | apply pw_below_drewN | apply below_drew1 | refine below_set ?_ GE112.out | refine below_set ?_ GE113.out) | exact HB.out)⟩⟩
                                  · rw [if_neg c39] at H
                                    exact absurd H (by simp)
                        · rw [if_neg c18] at H
                          have c18b0 : decide ((bt a0 x6_1) ≤ 57) = false := decide_eq_false c18
                          clear c18
                          simp only [Option.some.injEq, Prod.mk.injEq] at H
                          obtain ⟨rfl, rfl, rfl, rfl, rfl, rfl⟩ := H
                          have p15 : 0 ≤ (x6_1 : Int) := of_decide_eq_true zz4
                          have q15 : x6_1 < (a0.size : Int) := of_decide_eq_true zz4
                          have hx15 := bt_at a0 x6_1
                          replace p15 := eq_true p15
                          replace q15 := eq_true q15
                          have p17 : 0 ≤ (x6_1 : Int) := of_decide_eq_true zz4
                          have q17 : x6_1 < (a0.size : Int) := of_decide_eq_true zz4
                          have hx17 := bt_at a0 x6_1
                          replace p17 := eq_true p17
                          replace q17 := eq_true q17
                          have hnb44 := NB112_113.out
                          have hnc44 := NB113_112.out
                          obtain ⟨hcz45_0, hcz45_1, hcz45_2, hcz45_3, hcz45_4, hfz45_0, hfz45_1, hfz45_2, hfz45_3, hfz45_4⟩ := yC5 BK112
                          go_wp2
                          refine bodyPost_ret (results_ct rfl _ _ gb112 25 #[.int .u32 0, .int .i64 0, .int .u32 0, .int .u32 0, .int .u32 0] (0, 0) _ rfl zz0 Tryd.underlying25 rfl (by kernel_rfl)) rfl ?_
                          exact ⟨by first | rfl | (simp [errW_none, errW_some] <;> rfl) | (simp [*, errW_none, errW_some] <;> rfl), by repeat (first | (with_reducible first | exact HB.out | apply below_alloc | apply pw_below_drewN | apply below_drew1 | refine below_set ?_ GE112.out | refine below_set ?_ GE113.out) | exact HB.out)⟩
                      · rw [if_neg c16] at H
                        have c16b0 : decide (48 ≤ (bt a0 x6_1)) = false := decide_eq_false c16
                        clear c16
                        simp only [Option.some.injEq, Prod.mk.injEq] at H
                        obtain ⟨rfl, rfl, rfl, rfl, rfl, rfl⟩ := H
                        have p15 : 0 ≤ (x6_1 : Int) := of_decide_eq_true zz4
                        have q15 : x6_1 < (a0.size : Int) := of_decide_eq_true zz4
                        have hx15 := bt_at a0 x6_1
                        replace p15 := eq_true p15
                        replace q15 := eq_true q15
                        have hnb46 := NB112_113.out
                        have hnc46 := NB113_112.out
                        obtain ⟨hcz47_0, hcz47_1, hcz47_2, hcz47_3, hcz47_4, hfz47_0, hfz47_1, hfz47_2, hfz47_3, hfz47_4⟩ := yC5 BK112
                        go_wp2
                        refine bodyPost_ret (results_ct rfl _ _ gb112 25 #[.int .u32 0, .int .i64 0, .int .u32 0, .int .u32 0, .int .u32 0] (0, 0) _ rfl zz0 Tryd.underlying25 rfl (by kernel_rfl)) rfl ?_
                        exact ⟨by first | rfl | (simp [errW_none, errW_some] <;> rfl) | (simp [*, errW_none, errW_some] <;> rfl), by repeat (first | (with_reducible first | exact HB.out | apply below_alloc | apply pw_below_drewN | apply below_drew1 | refine below_set ?_ GE112.out | refine below_set ?_ GE113.out) | exact HB.out)⟩
                    · rw [if_neg c14] at H
                      exact absurd H (by simp)
                  · rw [if_neg c13] at H
                    exact absurd H (by simp)
          · replace c6 := Bool.eq_false_iff.mpr c6
            subst c6
            have H1 : (if x5_1 > 3 then (some (0, 0, 0, 0, 0, 6)) else ((watershedref04_Text.f kj3 ((x114000_1) % 4294967296) x5_1 ((x114001_1) % 4294967296) ((x114002_1) % 4294967296) ((x114003_1) % 4294967296)).bind fun bt115 => (if bt115.2 = 0 then (if bt115.1.toList = a0.toList then (some ((x114000_1) % 4294967296, x5_1, (x114001_1) % 4294967296, (x114002_1) % 4294967296, (x114003_1) % 4294967296, 0)) else (some (0, 0, 0, 0, 0, 6))) else (some (0, 0, 0, 0, 0, 6))))) = some (r1, r2, r3, r4, r5, r6) := by rw [if_neg (show ¬ (false = true) by decide)] at H; exact H
            clear H
            have H := H1
            clear H1
            by_cases c48 : x5_1 > 3
            · rw [if_pos c48] at H
              have c48b0 : decide (3 < x5_1) = true := decide_eq_true c48
              clear c48
              simp only [Option.some.injEq, Prod.mk.injEq] at H
              obtain ⟨rfl, rfl, rfl, rfl, rfl, rfl⟩ := H
              have hnb49 := NB112_113.out
              have hnc49 := NB113_112.out
              obtain ⟨hcz50_0, hcz50_1, hcz50_2, hcz50_3, hcz50_4, hfz50_0, hfz50_1, hfz50_2, hfz50_3, hfz50_4⟩ := yC5 BK112
              go_wp2
              refine bodyPost_ret (results_ct rfl _ _ gb112 25 #[.int .u32 0, .int .i64 0, .int .u32 0, .int .u32 0, .int .u32 0] (0, 0) _ rfl zz0 Tryd.underlying25 rfl (by kernel_rfl)) rfl ?_
              exact ⟨by first | rfl | (simp [errW_none, errW_some] <;> rfl) | (simp [*, errW_none, errW_some] <;> rfl), by repeat (first | (with_reducible first | exact HB.out | apply below_alloc | apply pw_below_drewN | apply below_drew1 | refine below_set ?_ GE112.out | refine below_set ?_ GE113.out) | exact HB.out)⟩
            · rw [if_neg c48] at H
              have c48b0 : decide (3 < x5_1) = false := decide_eq_false c48
              clear c48
              replace H := Option.bind_eq_some_iff.mp H
              obtain ⟨⟨t115, t116⟩, A510, H⟩ := H
              replace H : (if t116 = 0 then (if t115.toList = a0.toList then (some ((x114000_1) % 4294967296, x5_1, (x114001_1) % 4294967296, (x114002_1) % 4294967296, (x114003_1) % 4294967296, 0)) else (some (0, 0, 0, 0, 0, 6))) else (some (0, 0, 0, 0, 0, 6))) = some (r1, r2, r3, r4, r5, r6) := H
              have A51 := Aside0.mk A510
              clear A510
              by_cases c52 : t116 = 0
              · rw [if_pos c52] at H
                have c52b0 : (t116 == 0) = true := beq_iff_eq.mpr c52
                have c52b1 : (t116 != 0) = false := bne_eq_false_iff_eq.mpr c52
                clear c52
                by_cases c53 : t115.toList = a0.toList
                · rw [if_pos c53] at H
                  have c53b0 : (t115.toList == a0.toList) = true := beq_iff_eq.mpr c53
                  have c53b1 : (t115.toList != a0.toList) = false := bne_eq_false_iff_eq.mpr c53
                  clear c53
                  simp only [Option.some.injEq, Prod.mk.injEq] at H
                  obtain ⟨rfl, rfl, rfl, rfl, rfl, rfl⟩ := H
                  have hnb54 := NB113_112.out
                  have hnc54 := NB112_113.out
                  obtain ⟨hcz55_0, hcz55_1, hcz55_2, hcz55_3, hcz55_4, hfz55_0, hfz55_1, hfz55_2, hfz55_3, hfz55_4⟩ := yC5 BK113
                  go_wp2_with (first | ((with_reducible refine gate_dst (N := 7) rfl ?_); refine box_event ?hg (N := 7) ?hd (cs := #[.int .u32 0, .int .i64 0, .int .u32 0, .int .u32 0, .int .u32 0]) (t := 25) ?hr ?_; (case hd => rfl); (case hg => rfl); (case hr => first | (go_simp; done) | (go_simp; rfl)); intro gb114 hg w56 hbox hb; have n0_ := yB BK112 hb; have n1_ := yB BK113 hb; have n2_ := Aside0.mk (below_step zz6 hb); have n3_ := Aside0.mk (hbox); have n4_ := Aside0.mk ((by rw [hg]; exact (below_size zz6) : w.heap.size ≤ gb114)); have n5_ := Aside0.mk ((by rw [hg]; exact (below_size zz6) : w.heap.size ≤ gb114)); have n6_ := yN BK112 hg; have n7_ := yM BK112 hg; have n8_ := yN BK113 hg; have n9_ := yM BK113 hg; clear BK112; clear BK113; clear HB; have BK112 := n0_; have BK113 := n1_; have HB := n2_; have BK114 := n3_; have GW114 := n4_; have GE114 := n5_; have NB112_114 := n6_; have NB114_112 := n7_; have NB113_114 := n8_; have NB114_113 := n9_; clear n0_ n1_ n2_ n3_ n4_ n5_ n6_ n7_ n8_ n9_; clear hb hbox hg; have hnb57 := NB114_112.out; have hnc57 := NB112_114.out; have hnb58 := NB114_113.out; have hnc58 := NB113_114.out; obtain ⟨hcz59_0, hcz59_1, hcz59_2, hcz59_3, hcz59_4, hfz59_0, hfz59_1, hfz59_2, hfz59_3, hfz59_4⟩ := yC5 BK114) | ((with_reducible refine gate_callee (f := 9) rfl ?_); refine goesL_ (some 76) rfl rfl Tryd.func9 (by kernel_rfl) rfl #[.agg #[.int .u32 ((x114000_1) % 4294967296), .int .i64 x5_1, .int .u32 ((x114001_1) % 4294967296), .int .u32 ((x114002_1) % 4294967296), .int .u32 ((x114003_1) % 4294967296)]] rfl zz5 ?_; (with_reducible refine (watershedref04_Text.calls kj3 ((x114000_1) % 4294967296) x5_1 ((x114001_1) % 4294967296) ((x114002_1) % 4294967296) ((x114003_1) % 4294967296) t115 t116 _ A51.out).mono ?_); rintro e w60 ⟨rfl, hb⟩; refine ⟨_, rfl, ?_⟩; have n0_ := yB BK112 hb; have n1_ := yB BK113 hb; have n2_ := Aside0.mk (blk_below (g := gb114) (o := .cells #[.int .u32 ((x114000_1) % 4294967296), .int .i64 x5_1, .int .u32 ((x114001_1) % 4294967296), .int .u32 ((x114002_1) % 4294967296), .int .u32 ((x114003_1) % 4294967296)] 25 (0, 0)) zz2 hb); have n3_ := Aside0.mk (below_step zz10 hb); clear BK112; clear BK113; clear BK114; clear HB; have BK112 := n0_; have BK113 := n1_; have BK114 := n2_; have HB := n3_; clear n0_ n1_ n2_ n3_; (try clear hb); (try clear hb2); (try clear hk); (try clear hi); obtain ⟨hcz61_0, hcz61_1, hcz61_2, hcz61_3, hcz61_4, hfz61_0, hfz61_1, hfz61_2, hfz61_3, hfz61_4⟩ := yC5 BK114; obtain ⟨hcz62_0, hcz62_1, hcz62_2, hcz62_3, hcz62_4, hfz62_0, hfz62_1, hfz62_2, hfz62_3, hfz62_4⟩ := yC5 BK112))
                  refine bodyPost_ret (results_ct rfl _ _ gb112 25 #[.int .u32 ((x114000_1) % 4294967296), .int .i64 x5_1, .int .u32 ((x114001_1) % 4294967296), .int .u32 ((x114002_1) % 4294967296), .int .u32 ((x114003_1) % 4294967296)] (0, 0) _ rfl (by (with_reducible repeat (first | refine blk_drewN ?_ _ | refine blk_drew ?_ | refine blk_alloc ?_ _)); refine blk_put (cs := #[.int .u32 ((x114000_1) % 4294967296), .int .i64 x5_1, .int .u32 ((x114001_1) % 4294967296), .int .u32 ((x114002_1) % 4294967296), .int .u32 x113004_1]) ?_ 4 _ rfl; (with_reducible repeat (first | refine blk_drewN ?_ _ | refine blk_drew ?_ | refine blk_alloc ?_ _)); refine blk_put (cs := #[.int .u32 ((x114000_1) % 4294967296), .int .i64 x5_1, .int .u32 ((x114001_1) % 4294967296), .int .u32 x113003_1, .int .u32 x113004_1]) ?_ 3 _ rfl; (with_reducible repeat (first | refine blk_drewN ?_ _ | refine blk_drew ?_ | refine blk_alloc ?_ _)); refine blk_put (cs := #[.int .u32 ((x114000_1) % 4294967296), .int .i64 x5_1, .int .u32 x113002_1, .int .u32 x113003_1, .int .u32 x113004_1]) ?_ 2 _ rfl; (with_reducible repeat (first | refine blk_drewN ?_ _ | refine blk_drew ?_ | refine blk_alloc ?_ _)); refine blk_put (cs := #[.int .u32 ((x114000_1) % 4294967296), .int .i64 x113001_1, .int .u32 x113002_1, .int .u32 x113003_1, .int .u32 x113004_1]) ?_ 1 _ rfl; (with_reducible repeat (first | refine blk_drewN ?_ _ | refine blk_drew ?_ | refine blk_alloc ?_ _)); refine blk_put (cs := #[.int .u32 x113000_1, .int .i64 x113001_1, .int .u32 x113002_1, .int .u32 x113003_1, .int .u32 x113004_1]) ?_ 0 _ rfl; (with_reducible repeat (first | refine blk_drewN ?_ _ | refine blk_drew ?_ | refine blk_alloc ?_ _)); exact BK112.out) Tryd.underlying25 rfl (by kernel_rfl)) rfl ?_
                  exact ⟨by first | rfl | (simp [errW_none, errW_some] <;> rfl) | (simp [*, errW_none, errW_some] <;> rfl), by repeat (first | (with_reducible first | exact HB.out | apply below_alloc | apply pw_below_drewN | apply below_drew1 | refine below_set ?_ GE112.out | refine below_set ?_ GE113.out | refine below_set ?_ GE114.out) | exact HB.out)⟩
                · rw [if_neg c53] at H
                  have c53b0 : (t115.toList == a0.toList) = false := beq_eq_false_iff_ne.mpr c53
                  have c53b1 : (t115.toList != a0.toList) = true := bne_iff_ne.mpr c53
                  simp only [Option.some.injEq, Prod.mk.injEq] at H
                  obtain ⟨rfl, rfl, rfl, rfl, rfl, rfl⟩ := H
                  have hnb63 := NB113_112.out
                  have hnc63 := NB112_113.out
                  obtain ⟨hcz64_0, hcz64_1, hcz64_2, hcz64_3, hcz64_4, hfz64_0, hfz64_1, hfz64_2, hfz64_3, hfz64_4⟩ := yC5 BK113
                  go_wp2_with (first | ((with_reducible refine gate_dst (N := 7) rfl ?_); refine box_event ?hg (N := 7) ?hd (cs := #[.int .u32 0, .int .i64 0, .int .u32 0, .int .u32 0, .int .u32 0]) (t := 25) ?hr ?_; (case hd => rfl); (case hg => rfl); (case hr => first | (go_simp; done) | (go_simp; rfl)); intro gb114 hg w65 hbox hb; have n0_ := yB BK112 hb; have n1_ := yB BK113 hb; have n2_ := Aside0.mk (below_step zz6 hb); have n3_ := Aside0.mk (hbox); have n4_ := Aside0.mk ((by rw [hg]; exact (below_size zz6) : w.heap.size ≤ gb114)); have n5_ := Aside0.mk ((by rw [hg]; exact (below_size zz6) : w.heap.size ≤ gb114)); have n6_ := yN BK112 hg; have n7_ := yM BK112 hg; have n8_ := yN BK113 hg; have n9_ := yM BK113 hg; clear BK112; clear BK113; clear HB; have BK112 := n0_; have BK113 := n1_; have HB := n2_; have BK114 := n3_; have GW114 := n4_; have GE114 := n5_; have NB112_114 := n6_; have NB114_112 := n7_; have NB113_114 := n8_; have NB114_113 := n9_; clear n0_ n1_ n2_ n3_ n4_ n5_ n6_ n7_ n8_ n9_; clear hb hbox hg; have hnb66 := NB114_112.out; have hnc66 := NB112_114.out; have hnb67 := NB114_113.out; have hnc67 := NB113_114.out; obtain ⟨hcz68_0, hcz68_1, hcz68_2, hcz68_3, hcz68_4, hfz68_0, hfz68_1, hfz68_2, hfz68_3, hfz68_4⟩ := yC5 BK114) | ((with_reducible refine gate_callee (f := 9) rfl ?_); refine goesL_ (some 76) rfl rfl Tryd.func9 (by kernel_rfl) rfl #[.agg #[.int .u32 ((x114000_1) % 4294967296), .int .i64 x5_1, .int .u32 ((x114001_1) % 4294967296), .int .u32 ((x114002_1) % 4294967296), .int .u32 ((x114003_1) % 4294967296)]] rfl zz5 ?_; (with_reducible refine (watershedref04_Text.calls kj3 ((x114000_1) % 4294967296) x5_1 ((x114001_1) % 4294967296) ((x114002_1) % 4294967296) ((x114003_1) % 4294967296) t115 t116 _ A51.out).mono ?_); rintro e w69 ⟨rfl, hb⟩; refine ⟨_, rfl, ?_⟩; have n0_ := yB BK112 hb; have n1_ := yB BK113 hb; have n2_ := Aside0.mk (blk_below (g := gb114) (o := .cells #[.int .u32 ((x114000_1) % 4294967296), .int .i64 x5_1, .int .u32 ((x114001_1) % 4294967296), .int .u32 ((x114002_1) % 4294967296), .int .u32 ((x114003_1) % 4294967296)] 25 (0, 0)) zz2 hb); have n3_ := Aside0.mk (below_step zz10 hb); clear BK112; clear BK113; clear BK114; clear HB; have BK112 := n0_; have BK113 := n1_; have BK114 := n2_; have HB := n3_; clear n0_ n1_ n2_ n3_; (try clear hb); (try clear hb2); (try clear hk); (try clear hi); obtain ⟨hcz70_0, hcz70_1, hcz70_2, hcz70_3, hcz70_4, hfz70_0, hfz70_1, hfz70_2, hfz70_3, hfz70_4⟩ := yC5 BK112))
                  refine bodyPost_ret (results_ct rfl _ _ gb112 25 #[.int .u32 0, .int .i64 0, .int .u32 0, .int .u32 0, .int .u32 0] (0, 0) _ rfl zz0 Tryd.underlying25 rfl (by kernel_rfl)) rfl ?_
                  exact ⟨by first | rfl | (simp [errW_none, errW_some] <;> rfl) | (simp [*, errW_none, errW_some] <;> rfl), by repeat (first | (with_reducible first | exact HB.out | apply below_alloc | apply pw_below_drewN | apply below_drew1 | refine below_set ?_ GE112.out | refine below_set ?_ GE113.out | refine below_set ?_ GE114.out) | exact HB.out)⟩
              · rw [if_neg c52] at H
                have c52b0 : (t116 == 0) = false := beq_eq_false_iff_ne.mpr c52
                have c52b1 : (t116 != 0) = true := bne_iff_ne.mpr c52
                simp only [Option.some.injEq, Prod.mk.injEq] at H
                obtain ⟨rfl, rfl, rfl, rfl, rfl, rfl⟩ := H
                have hnb71 := NB113_112.out
                have hnc71 := NB112_113.out
                obtain ⟨hcz72_0, hcz72_1, hcz72_2, hcz72_3, hcz72_4, hfz72_0, hfz72_1, hfz72_2, hfz72_3, hfz72_4⟩ := yC5 BK113
                go_wp2_with (first | ((with_reducible refine gate_dst (N := 7) rfl ?_); refine box_event ?hg (N := 7) ?hd (cs := #[.int .u32 0, .int .i64 0, .int .u32 0, .int .u32 0, .int .u32 0]) (t := 25) ?hr ?_; (case hd => rfl); (case hg => rfl); (case hr => first | (go_simp; done) | (go_simp; rfl)); intro gb114 hg w73 hbox hb; have n0_ := yB BK112 hb; have n1_ := yB BK113 hb; have n2_ := Aside0.mk (below_step zz6 hb); have n3_ := Aside0.mk (hbox); have n4_ := Aside0.mk ((by rw [hg]; exact (below_size zz6) : w.heap.size ≤ gb114)); have n5_ := Aside0.mk ((by rw [hg]; exact (below_size zz6) : w.heap.size ≤ gb114)); have n6_ := yN BK112 hg; have n7_ := yM BK112 hg; have n8_ := yN BK113 hg; have n9_ := yM BK113 hg; clear BK112; clear BK113; clear HB; have BK112 := n0_; have BK113 := n1_; have HB := n2_; have BK114 := n3_; have GW114 := n4_; have GE114 := n5_; have NB112_114 := n6_; have NB114_112 := n7_; have NB113_114 := n8_; have NB114_113 := n9_; clear n0_ n1_ n2_ n3_ n4_ n5_ n6_ n7_ n8_ n9_; clear hb hbox hg; have hnb74 := NB114_112.out; have hnc74 := NB112_114.out; have hnb75 := NB114_113.out; have hnc75 := NB113_114.out; obtain ⟨hcz76_0, hcz76_1, hcz76_2, hcz76_3, hcz76_4, hfz76_0, hfz76_1, hfz76_2, hfz76_3, hfz76_4⟩ := yC5 BK114) | ((with_reducible refine gate_callee (f := 9) rfl ?_); refine goesL_ (some 76) rfl rfl Tryd.func9 (by kernel_rfl) rfl #[.agg #[.int .u32 ((x114000_1) % 4294967296), .int .i64 x5_1, .int .u32 ((x114001_1) % 4294967296), .int .u32 ((x114002_1) % 4294967296), .int .u32 ((x114003_1) % 4294967296)]] rfl zz5 ?_; (with_reducible refine (watershedref04_Text.calls kj3 ((x114000_1) % 4294967296) x5_1 ((x114001_1) % 4294967296) ((x114002_1) % 4294967296) ((x114003_1) % 4294967296) t115 t116 _ A51.out).mono ?_); rintro e w77 ⟨rfl, hb⟩; refine ⟨_, rfl, ?_⟩; have n0_ := yB BK112 hb; have n1_ := yB BK113 hb; have n2_ := Aside0.mk (blk_below (g := gb114) (o := .cells #[.int .u32 ((x114000_1) % 4294967296), .int .i64 x5_1, .int .u32 ((x114001_1) % 4294967296), .int .u32 ((x114002_1) % 4294967296), .int .u32 ((x114003_1) % 4294967296)] 25 (0, 0)) zz2 hb); have n3_ := Aside0.mk (below_step zz10 hb); clear BK112; clear BK113; clear BK114; clear HB; have BK112 := n0_; have BK113 := n1_; have BK114 := n2_; have HB := n3_; clear n0_ n1_ n2_ n3_; (try clear hb); (try clear hb2); (try clear hk); (try clear hi); obtain ⟨hcz78_0, hcz78_1, hcz78_2, hcz78_3, hcz78_4, hfz78_0, hfz78_1, hfz78_2, hfz78_3, hfz78_4⟩ := yC5 BK112))
                refine bodyPost_ret (results_ct rfl _ _ gb112 25 #[.int .u32 0, .int .i64 0, .int .u32 0, .int .u32 0, .int .u32 0] (0, 0) _ rfl zz0 Tryd.underlying25 rfl (by kernel_rfl)) rfl ?_
                exact ⟨by first | rfl | (simp [errW_none, errW_some] <;> rfl) | (simp [*, errW_none, errW_some] <;> rfl), by repeat (first | (with_reducible first | exact HB.out | apply below_alloc | apply pw_below_drewN | apply below_drew1 | refine below_set ?_ GE112.out | refine below_set ?_ GE113.out | refine below_set ?_ GE114.out) | exact HB.out)⟩

end Go.Proofs.YtjkbgcdhhiakmaaDoor.Q04T
