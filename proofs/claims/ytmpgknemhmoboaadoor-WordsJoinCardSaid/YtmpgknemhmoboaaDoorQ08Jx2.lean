-- Laid by wip/pp.py for this seat.
import Derived.Test.YtmpgknemhmoboaaDoorQ08Jx0
import Derived.Test.YtmpgknemhmoboaaDoorX08c
import Derived.Test.YtmpgknemhmoboaaDoorX08w
namespace Go.Proofs.YtmpgknemhmoboaaDoor.Q08J
open Go.RowKit Go.Proofs.YtmpgknemhmoboaaDoorW.PrintWords Go.Proofs.YtmpgknemhmoboaaDoorW.PrintLast Go.Proofs.YtmpgknemhmoboaaDoorW.PrintMore
attribute [local go_sem] max2_int min2_int max_two min_two max_three min_three max_four min_four   -- for this text's walks alone
set_option linter.unusedVariables false
set_option linter.unusedSimpArgs false

open Go.Proofs.YtmpgknemhmoboaaDoor.Ext
/-! ### watershedlaw08_WordsJoin: function 4 -/
mutual
def watershedlaw08_WordsJoin.l0 : Nat → List ByteArray → Int → ByteArray → ByteArray → List ByteArray → Int → Option (Bool)
  | 0, _, _, _, _, _, _ => none
  | k + 1, x0, x1, x5, x6, x7, x8 => if x8 < (x0.length : Int) then (watershedlaw08_WordsJoin.j1 k x0 x1 x5 x6 x7 x8 (decide (x8 < 30))) else (watershedlaw08_WordsJoin.j1 k x0 x1 x5 x6 x7 x8 false)
def watershedlaw08_WordsJoin.j1 : Nat → List ByteArray → Int → ByteArray → ByteArray → List ByteArray → Int → Bool → Option (Bool)
  | 0, _, _, _, _, _, _, _ => none
  | k + 1, x0, x1, x5, x6, x7, x8, x22 => if x22 = true then (if 0 ≤ x8 then (if x8 < (x0.length : Int) then (if ((rdOf ByteArray.empty x0 x8).size : Int) > 500 then (some true) else (if (rdOf ByteArray.empty x0 x8).toList = ([] : List UInt8) then (watershedlaw08_WordsJoin.j2 k x0 x1 x5 x6 x7 x8 false true) else (if 0 < ((rdOf ByteArray.empty x0 x8).size : Int) then (watershedlaw08_WordsJoin.j2 k x0 x1 x5 x6 x7 x8 ((bt (rdOf ByteArray.empty x0 x8) 0) != 35) true) else (none)))) else (none)) else (none)) else ((words_Split.f x5).bind fun t115 => ((watershedref08_Same.f t115 x7).bind fun t118 => (if t118 = true then ((words_Lines.f x6).bind fun t119 => ((watershedref08_Same.f t119 x7).bind fun t122 => (if t122 = true then (if x5.size + 7 ≤ 9223372036854775807 then ((words_Split.f (x5 ++ (⟨#[32, 35, 32, 109, 111, 114, 101]⟩ : ByteArray))).bind fun t123 => ((watershedref08_Same.f t123 x7).bind fun t126 => (some t126))) else (none)) else (none)))) else (none))))
def watershedlaw08_WordsJoin.j2 : Nat → List ByteArray → Int → ByteArray → ByteArray → List ByteArray → Int → Bool → Bool → Option (Bool)
  | 0, _, _, _, _, _, _, _, _ => none
  | k + 1, x0, x1, x5, x6, x7, x8, x9, x10 => watershedlaw08_WordsJoin.l1 k x0 x1 x5 x6 x7 x8 x9 x10 0
def watershedlaw08_WordsJoin.l1 : Nat → List ByteArray → Int → ByteArray → ByteArray → List ByteArray → Int → Bool → Bool → Int → Option (Bool)
  | 0, _, _, _, _, _, _, _, _, _ => none
  | k + 1, x0, x1, x5, x6, x7, x8, x9, x10, x11 => if 0 ≤ x8 then (if x8 < (x0.length : Int) then (if x11 < ((rdOf ByteArray.empty x0 x8).size : Int) then (if x9 = true then (if 0 ≤ x11 then (if x10 = true then (watershedlaw08_WordsJoin.l1 k x0 x1 x5 x6 x7 x8 ((bt (rdOf ByteArray.empty x0 x8) x11) != 32) ((bt (rdOf ByteArray.empty x0 x8) x11) != 10) (wrap64 (x11 + 1))) else (watershedlaw08_WordsJoin.l1 k x0 x1 x5 x6 x7 x8 ((bt (rdOf ByteArray.empty x0 x8) x11) != 32) false (wrap64 (x11 + 1)))) else (none)) else (if x10 = true then (if 0 ≤ x11 then (watershedlaw08_WordsJoin.l1 k x0 x1 x5 x6 x7 x8 false ((bt (rdOf ByteArray.empty x0 x8) x11) != 10) (wrap64 (x11 + 1))) else (none)) else (watershedlaw08_WordsJoin.l1 k x0 x1 x5 x6 x7 x8 false false (wrap64 (x11 + 1))))) else (if x9 = true then (watershedlaw08_WordsJoin.j4 k x0 x1 x5 x6 x7 x8 (!x10)) else (watershedlaw08_WordsJoin.j4 k x0 x1 x5 x6 x7 x8 true))) else (none)) else (none)
def watershedlaw08_WordsJoin.j4 : Nat → List ByteArray → Int → ByteArray → ByteArray → List ByteArray → Int → Bool → Option (Bool)
  | 0, _, _, _, _, _, _, _ => none
  | k + 1, x0, x1, x5, x6, x7, x8, x78 => if x78 = true then (watershedlaw08_WordsJoin.l0 k x0 x1 x5 x6 x7 (wrap64 (x8 + 1))) else (if 0 ≤ x8 then (if x8 < (x0.length : Int) then (if x7.length < 8796093022208 then (watershedlaw08_WordsJoin.l2 k x0 x1 x5 x6 (x7 ++ [rdOf ByteArray.empty x0 x8]) x8 0) else (none)) else (none)) else (none))
def watershedlaw08_WordsJoin.l2 : Nat → List ByteArray → Int → ByteArray → ByteArray → List ByteArray → Int → Int → Option (Bool)
  | 0, _, _, _, _, _, _, _ => none
  | k + 1, x0, x1, x5, x6, x7, x8, x12 => if x12 ≤ (wrap64 (Int.tmod (IntKind.u64.wrap (x1)) 3)) then (if x5.size + 1 ≤ 9223372036854775807 then (watershedlaw08_WordsJoin.l2 k x0 x1 (x5 ++ (⟨#[32]⟩ : ByteArray)) x6 x7 x8 (wrap64 (x12 + 1))) else (none)) else (if 0 ≤ x8 then (if x8 < (x0.length : Int) then (if x5.size + (rdOf ByteArray.empty x0 x8).size ≤ 9223372036854775807 then (if x6.size + (rdOf ByteArray.empty x0 x8).size ≤ 9223372036854775807 then (if (x6 ++ (rdOf ByteArray.empty x0 x8)).size + 1 ≤ 9223372036854775807 then (watershedlaw08_WordsJoin.l0 k x0 x1 (x5 ++ (rdOf ByteArray.empty x0 x8)) ((x6 ++ (rdOf ByteArray.empty x0 x8)) ++ (⟨#[10]⟩ : ByteArray)) x7 (wrap64 (x8 + 1))) else (none)) else (none)) else (none)) else (none)) else (none))
end
def watershedlaw08_WordsJoin.f (k : Nat) (l0 : List ByteArray) (a1 : Int) : Option (Bool) := (watershedlaw08_works.f).bind fun t101 => (if t101 = true then (watershedlaw08_WordsJoin.l0 k l0 a1 (⟨#[]⟩ : ByteArray) (⟨#[]⟩ : ByteArray) ([] : List ByteArray) 0) else (none))
theorem watershedlaw08_WordsJoin.mono_l : ∀ k, (∀ y0 y1 y2 y3 y4 y5, LeO (watershedlaw08_WordsJoin.l0 k y0 y1 y2 y3 y4 y5) (watershedlaw08_WordsJoin.l0 (k + 1) y0 y1 y2 y3 y4 y5)) ∧ (∀ y0 y1 y2 y3 y4 y5 y6, LeO (watershedlaw08_WordsJoin.j1 k y0 y1 y2 y3 y4 y5 y6) (watershedlaw08_WordsJoin.j1 (k + 1) y0 y1 y2 y3 y4 y5 y6)) ∧ (∀ y0 y1 y2 y3 y4 y5 y6 y7, LeO (watershedlaw08_WordsJoin.j2 k y0 y1 y2 y3 y4 y5 y6 y7) (watershedlaw08_WordsJoin.j2 (k + 1) y0 y1 y2 y3 y4 y5 y6 y7)) ∧ (∀ y0 y1 y2 y3 y4 y5 y6 y7 y8, LeO (watershedlaw08_WordsJoin.l1 k y0 y1 y2 y3 y4 y5 y6 y7 y8) (watershedlaw08_WordsJoin.l1 (k + 1) y0 y1 y2 y3 y4 y5 y6 y7 y8)) ∧ (∀ y0 y1 y2 y3 y4 y5 y6, LeO (watershedlaw08_WordsJoin.j4 k y0 y1 y2 y3 y4 y5 y6) (watershedlaw08_WordsJoin.j4 (k + 1) y0 y1 y2 y3 y4 y5 y6)) ∧ (∀ y0 y1 y2 y3 y4 y5 y6, LeO (watershedlaw08_WordsJoin.l2 k y0 y1 y2 y3 y4 y5 y6) (watershedlaw08_WordsJoin.l2 (k + 1) y0 y1 y2 y3 y4 y5 y6))
  | 0 => ⟨fun _ _ _ _ _ _ r h => by simp [watershedlaw08_WordsJoin.l0] at h, fun _ _ _ _ _ _ _ r h => by simp [watershedlaw08_WordsJoin.j1] at h, fun _ _ _ _ _ _ _ _ r h => by simp [watershedlaw08_WordsJoin.j2] at h, fun _ _ _ _ _ _ _ _ _ r h => by simp [watershedlaw08_WordsJoin.l1] at h, fun _ _ _ _ _ _ _ r h => by simp [watershedlaw08_WordsJoin.j4] at h, fun _ _ _ _ _ _ _ r h => by simp [watershedlaw08_WordsJoin.l2] at h⟩
  | k + 1 => by
    obtain ⟨ih0, ih1, ih2, ih3, ih4, ih5⟩ := watershedlaw08_WordsJoin.mono_l k
    refine ⟨?_, ?_, ?_, ?_, ?_, ?_⟩
    · intro y0 y1 y2 y3 y4 y5
      unfold watershedlaw08_WordsJoin.l0
      repeat' first
      | (with_reducible exact ih0 _ _ _ _ _ _)
      | (with_reducible exact ih1 _ _ _ _ _ _ _)
      | (with_reducible exact ih2 _ _ _ _ _ _ _ _)
      | (with_reducible exact ih3 _ _ _ _ _ _ _ _ _)
      | (with_reducible exact ih4 _ _ _ _ _ _ _)
      | (with_reducible exact ih5 _ _ _ _ _ _ _)
      | (with_reducible exact LeO.refl _)
      | (with_reducible exact LeO.none _)
      | (with_reducible refine LeO.ite ?_ ?_)
      | (with_reducible refine LeO.bind ?_ (fun _ => ?_))
      | exact ih0 _ _ _ _ _ _
      | exact ih1 _ _ _ _ _ _ _
      | exact ih2 _ _ _ _ _ _ _ _
      | exact ih3 _ _ _ _ _ _ _ _ _
      | exact ih4 _ _ _ _ _ _ _
      | exact ih5 _ _ _ _ _ _ _
      | exact LeO.none _
      | refine LeO.ite ?_ ?_
      | refine LeO.bind ?_ (fun _ => ?_)
    · intro y0 y1 y2 y3 y4 y5 y6
      unfold watershedlaw08_WordsJoin.j1
      repeat' first
      | (with_reducible exact ih0 _ _ _ _ _ _)
      | (with_reducible exact ih1 _ _ _ _ _ _ _)
      | (with_reducible exact ih2 _ _ _ _ _ _ _ _)
      | (with_reducible exact ih3 _ _ _ _ _ _ _ _ _)
      | (with_reducible exact ih4 _ _ _ _ _ _ _)
      | (with_reducible exact ih5 _ _ _ _ _ _ _)
      | (with_reducible exact LeO.refl _)
      | (with_reducible exact LeO.none _)
      | (with_reducible refine LeO.ite ?_ ?_)
      | (with_reducible refine LeO.bind ?_ (fun _ => ?_))
      | exact ih0 _ _ _ _ _ _
      | exact ih1 _ _ _ _ _ _ _
      | exact ih2 _ _ _ _ _ _ _ _
      | exact ih3 _ _ _ _ _ _ _ _ _
      | exact ih4 _ _ _ _ _ _ _
      | exact ih5 _ _ _ _ _ _ _
      | exact LeO.none _
      | refine LeO.ite ?_ ?_
      | refine LeO.bind ?_ (fun _ => ?_)
    · intro y0 y1 y2 y3 y4 y5 y6 y7
      unfold watershedlaw08_WordsJoin.j2
      repeat' first
      | (with_reducible exact ih0 _ _ _ _ _ _)
      | (with_reducible exact ih1 _ _ _ _ _ _ _)
      | (with_reducible exact ih2 _ _ _ _ _ _ _ _)
      | (with_reducible exact ih3 _ _ _ _ _ _ _ _ _)
      | (with_reducible exact ih4 _ _ _ _ _ _ _)
      | (with_reducible exact ih5 _ _ _ _ _ _ _)
      | (with_reducible exact LeO.refl _)
      | (with_reducible exact LeO.none _)
      | (with_reducible refine LeO.ite ?_ ?_)
      | (with_reducible refine LeO.bind ?_ (fun _ => ?_))
      | exact ih0 _ _ _ _ _ _
      | exact ih1 _ _ _ _ _ _ _
      | exact ih2 _ _ _ _ _ _ _ _
      | exact ih3 _ _ _ _ _ _ _ _ _
      | exact ih4 _ _ _ _ _ _ _
      | exact ih5 _ _ _ _ _ _ _
      | exact LeO.none _
      | refine LeO.ite ?_ ?_
      | refine LeO.bind ?_ (fun _ => ?_)
    · intro y0 y1 y2 y3 y4 y5 y6 y7 y8
      unfold watershedlaw08_WordsJoin.l1
      repeat' first
      | (with_reducible exact ih0 _ _ _ _ _ _)
      | (with_reducible exact ih1 _ _ _ _ _ _ _)
      | (with_reducible exact ih2 _ _ _ _ _ _ _ _)
      | (with_reducible exact ih3 _ _ _ _ _ _ _ _ _)
      | (with_reducible exact ih4 _ _ _ _ _ _ _)
      | (with_reducible exact ih5 _ _ _ _ _ _ _)
      | (with_reducible exact LeO.refl _)
      | (with_reducible exact LeO.none _)
      | (with_reducible refine LeO.ite ?_ ?_)
      | (with_reducible refine LeO.bind ?_ (fun _ => ?_))
      | exact ih0 _ _ _ _ _ _
      | exact ih1 _ _ _ _ _ _ _
      | exact ih2 _ _ _ _ _ _ _ _
      | exact ih3 _ _ _ _ _ _ _ _ _
      | exact ih4 _ _ _ _ _ _ _
      | exact ih5 _ _ _ _ _ _ _
      | exact LeO.none _
      | refine LeO.ite ?_ ?_
      | refine LeO.bind ?_ (fun _ => ?_)
    · intro y0 y1 y2 y3 y4 y5 y6
      unfold watershedlaw08_WordsJoin.j4
      repeat' first
      | (with_reducible exact ih0 _ _ _ _ _ _)
      | (with_reducible exact ih1 _ _ _ _ _ _ _)
      | (with_reducible exact ih2 _ _ _ _ _ _ _ _)
      | (with_reducible exact ih3 _ _ _ _ _ _ _ _ _)
      | (with_reducible exact ih4 _ _ _ _ _ _ _)
      | (with_reducible exact ih5 _ _ _ _ _ _ _)
      | (with_reducible exact LeO.refl _)
      | (with_reducible exact LeO.none _)
      | (with_reducible refine LeO.ite ?_ ?_)
      | (with_reducible refine LeO.bind ?_ (fun _ => ?_))
      | exact ih0 _ _ _ _ _ _
      | exact ih1 _ _ _ _ _ _ _
      | exact ih2 _ _ _ _ _ _ _ _
      | exact ih3 _ _ _ _ _ _ _ _ _
      | exact ih4 _ _ _ _ _ _ _
      | exact ih5 _ _ _ _ _ _ _
      | exact LeO.none _
      | refine LeO.ite ?_ ?_
      | refine LeO.bind ?_ (fun _ => ?_)
    · intro y0 y1 y2 y3 y4 y5 y6
      unfold watershedlaw08_WordsJoin.l2
      repeat' first
      | (with_reducible exact ih0 _ _ _ _ _ _)
      | (with_reducible exact ih1 _ _ _ _ _ _ _)
      | (with_reducible exact ih2 _ _ _ _ _ _ _ _)
      | (with_reducible exact ih3 _ _ _ _ _ _ _ _ _)
      | (with_reducible exact ih4 _ _ _ _ _ _ _)
      | (with_reducible exact ih5 _ _ _ _ _ _ _)
      | (with_reducible exact LeO.refl _)
      | (with_reducible exact LeO.none _)
      | (with_reducible refine LeO.ite ?_ ?_)
      | (with_reducible refine LeO.bind ?_ (fun _ => ?_))
      | exact ih0 _ _ _ _ _ _
      | exact ih1 _ _ _ _ _ _ _
      | exact ih2 _ _ _ _ _ _ _ _
      | exact ih3 _ _ _ _ _ _ _ _ _
      | exact ih4 _ _ _ _ _ _ _
      | exact ih5 _ _ _ _ _ _ _
      | exact LeO.none _
      | refine LeO.ite ?_ ?_
      | refine LeO.bind ?_ (fun _ => ?_)
theorem watershedlaw08_WordsJoin.mono : ∀ a0 a1 k, LeO (watershedlaw08_WordsJoin.f k a0 a1) (watershedlaw08_WordsJoin.f (k + 1) a0 a1) := by
  intro a0 a1 k
  obtain ⟨ih0, ih1, ih2, ih3, ih4, ih5⟩ := watershedlaw08_WordsJoin.mono_l k
  unfold watershedlaw08_WordsJoin.f
  repeat' first
      | (with_reducible exact ih0 _ _ _ _ _ _)
      | (with_reducible exact ih1 _ _ _ _ _ _ _)
      | (with_reducible exact ih2 _ _ _ _ _ _ _ _)
      | (with_reducible exact ih3 _ _ _ _ _ _ _ _ _)
      | (with_reducible exact ih4 _ _ _ _ _ _ _)
      | (with_reducible exact ih5 _ _ _ _ _ _ _)
      | (with_reducible exact LeO.refl _)
      | (with_reducible exact LeO.none _)
      | (with_reducible refine LeO.ite ?_ ?_)
      | (with_reducible refine LeO.bind ?_ (fun _ => ?_))
      | exact ih0 _ _ _ _ _ _
      | exact ih1 _ _ _ _ _ _ _
      | exact ih2 _ _ _ _ _ _ _ _
      | exact ih3 _ _ _ _ _ _ _ _ _
      | exact ih4 _ _ _ _ _ _ _
      | exact ih5 _ _ _ _ _ _ _
      | exact LeO.none _
      | refine LeO.ite ?_ ?_
      | refine LeO.bind ?_ (fun _ => ?_)
set_option maxHeartbeats 8000000 in
set_option maxRecDepth 100000 in
theorem watershedlaw08_WordsJoin.calls (k : Nat) (A0 : Option Addr) (c0 : Nat) (l0 : List ByteArray) (a1 : Int) (r : Bool) (w : World) (hr0 : Kd.C Kd.string w A0 l0.length l0) (hc0 : l0.length ≤ c0) (h : watershedlaw08_WordsJoin.f k l0 a1 = some r) (HV : Aside0 (VARS w) := by first | exact HV | exact ⟨Ext.vars_below HV.out (by repeat (first | (with_reducible first | exact HB.out | apply below_alloc | apply pw_below_drewN | apply below_drew1 | refine below_set ?_ (Aside0.out (by assumption))) | exact HB.out))⟩) :
    Calls Tryd.prog 4 #[.slice A0 l0.length c0, .int .i64 a1] w fun e w' => e = .returned (.bool r) ∧ Below w.heap.size w w' := by
  have HR0 := Aside0.mk hr0
  have HC0 := Aside0.mk hc0
  clear hr0 hc0
  have HB := Aside0.mk (Below.refl w.heap.size w)
  have H : ((watershedlaw08_works.f).bind fun t101 => (if t101 = true then (watershedlaw08_WordsJoin.l0 k l0 a1 (⟨#[]⟩ : ByteArray) (⟨#[]⟩ : ByteArray) ([] : List ByteArray) 0) else (none))) = some r := h
  clear h
  replace H := Option.bind_eq_some_iff.mp H
  obtain ⟨t101, A30, H⟩ := H
  replace H : (if t101 = true then (watershedlaw08_WordsJoin.l0 k l0 a1 (⟨#[]⟩ : ByteArray) (⟨#[]⟩ : ByteArray) ([] : List ByteArray) 0) else (none)) = some r := H
  have A3 := Aside0.mk A30
  clear A30
  by_cases c4 : t101 = true
  · subst c4
    have H1 : (watershedlaw08_WordsJoin.l0 k l0 a1 (⟨#[]⟩ : ByteArray) (⟨#[]⟩ : ByteArray) ([] : List ByteArray) 0) = some r := by rw [if_pos rfl] at H; exact H
    clear H
    have H := H1
    clear H1
    have H' := Aside0.mk H
    clear H
    go_enter Tryd.func4, Tryd.ntmps4
    go_wp2_with (first | ((with_reducible refine gate_callee (f := 13) rfl ?_); refine goesL_ (some 13) rfl rfl Tryd.func13 (by kernel_rfl) rfl #[] rfl (by (try simp only [List.map_toArray, List.map_cons, List.map_nil]); first | done | rfl | (simp only [List.length_drop, List.length_take]; rfl)) ?_; (with_reducible refine (watershedlaw08_works.calls  true _ A3.out).mono ?_); rintro e w5 ⟨rfl, hb⟩; refine ⟨_, rfl, ?_⟩; have n0_ := Aside0.mk (below_step zz2 hb); clear HB; have HB := n0_; clear n0_; (try clear hb); (try clear hb2); (try clear hk); (try clear hi)))
    go_loopg [5, 6, 7, 8] k (fun kq v5 v6 v7 v8 w' => ∃ (x5_1 : ByteArray) (x6_1 : ByteArray) (x7_1 : List ByteArray) (x8_1 : Int), v5 = .string x5_1 ∧ v6 = .string x6_1 ∧ v8 = .int .i64 x8_1 ∧ Aside0 (watershedlaw08_WordsJoin.l0 kq l0 a1 x5_1 x6_1 x7_1 x8_1 = some r) ∧ Aside0 (kq ≤ k) ∧ Aside0 (Kd.R Kd.string 9 w' w.heap.size (fun _ => True) v7 x7_1) ∧ Aside0 (Below w.heap.size w w'))
    case atStart => exact ⟨((⟨#[]⟩ : ByteArray)), ((⟨#[]⟩ : ByteArray)), (([] : List ByteArray)), (0), zz1, zz1, zz1, H', ⟨Nat.le_refl _⟩, ⟨by first | exact Kd.R_nil _ _ _ _ _ | exact Kd.N_nil _ _ _ _ _ | exact Kd.V_nil _ _ _ _ _ | exact Kd.Q_nil _ _ _ _ _ | exact Kd.S_nil _ _ _ _ _⟩, ⟨by repeat (first | (with_reducible first | exact HB.out | apply below_alloc | apply pw_below_drewN | apply below_drew1) | exact HB.out)⟩⟩
    case round =>
      clear H'
      (try clear c1); (try clear p2); (try clear c4)
      obtain ⟨x5_1, x6_1, x7_1, x8_1, rfl, rfl, rfl, HA, HK1, HO_7, HB⟩ := hrel
      cases gk with
      | zero => exact absurd HA.out (by simp [watershedlaw08_WordsJoin.l0])
      | succ k1 =>
        have H := HA.out
        clear HA
        simp only [watershedlaw08_WordsJoin.l0] at H
        have HC6 := Aside0.mk H
        clear H
        go_upto_region 6 with (fail)
        go_cut [22] (fun v22 wc => ∃ (kq : Nat) (x22_5 : Bool), v22 = .bool x22_5 ∧ Aside0 (watershedlaw08_WordsJoin.j1 kq l0 a1 x5_1 x6_1 x7_1 x8_1 x22_5 = some r) ∧ Aside0 (kq ≤ k1) ∧ Aside0 (Kd.R Kd.string 9 wc w.heap.size (fun _ => True) u7 x7_1) ∧ Aside0 (Below w.heap.size w wc))
        case first =>
          have H := HC6.out
          clear HC6
          by_cases c7 : x8_1 < (l0.length : Int)
          · rw [if_pos c7] at H
            have c7b0 : decide (x8_1 < (l0.length : Int)) = true := decide_eq_true c7
            clear c7
            (first | rw [c7b0] | (simp only [i64_w, i32_w]; rw [c7b0]) | skip)
            have H' := Aside0.mk H
            clear H
            go_wp2
            go_meet
            case rel => exact ⟨_, (decide (x8_1 < 30)), zz1, H', ⟨by have := HK1.out; first | omega | exact Nat.le_refl _⟩, ⟨by (with_reducible repeat (first | apply Kd.R_alloc | apply Kd.R_drewN | apply Kd.R_drew)); exact HO_7.out⟩, ⟨by repeat (first | (with_reducible first | exact HB.out | apply below_alloc | apply pw_below_drewN | apply below_drew1) | exact HB.out)⟩⟩
          · rw [if_neg c7] at H
            have c7b0 : decide (x8_1 < (l0.length : Int)) = false := decide_eq_false c7
            clear c7
            (first | rw [c7b0] | (simp only [i64_w, i32_w]; rw [c7b0]) | skip)
            have H' := Aside0.mk H
            clear H
            go_wp2
            go_meet
            case rel => exact ⟨_, (false), zz1, H', ⟨by have := HK1.out; first | omega | exact Nat.le_refl _⟩, ⟨by (with_reducible repeat (first | apply Kd.R_alloc | apply Kd.R_drewN | apply Kd.R_drew)); exact HO_7.out⟩, ⟨by repeat (first | (with_reducible first | exact HB.out | apply below_alloc | apply pw_below_drewN | apply below_drew1) | exact HB.out)⟩⟩
        case rest =>
          clear HC6
          (try clear c1); (try clear p2); (try clear c4); (try clear c7); (try clear c7b0); (try clear p2)
          obtain ⟨kq, x22_5, rfl, HA, HJ5, HO_7, HB⟩ := hcut
          cases kq with
          | zero => exact absurd HA.out (by simp [watershedlaw08_WordsJoin.j1])
          | succ kj5 =>
            have H := HA.out
            clear HA
            simp only [watershedlaw08_WordsJoin.j1] at H
            by_cases c8 : x22_5 = true
            · subst c8
              have H1 : (if 0 ≤ x8_1 then (if x8_1 < (l0.length : Int) then (if ((rdOf ByteArray.empty l0 x8_1).size : Int) > 500 then (some true) else (if (rdOf ByteArray.empty l0 x8_1).toList = ([] : List UInt8) then (watershedlaw08_WordsJoin.j2 kj5 l0 a1 x5_1 x6_1 x7_1 x8_1 false true) else (if 0 < ((rdOf ByteArray.empty l0 x8_1).size : Int) then (watershedlaw08_WordsJoin.j2 kj5 l0 a1 x5_1 x6_1 x7_1 x8_1 ((bt (rdOf ByteArray.empty l0 x8_1) 0) != 35) true) else (none)))) else (none)) else (none)) = some r := by rw [if_pos rfl] at H; exact H
              clear H
              have H := H1
              clear H1
              by_cases c9 : 0 ≤ x8_1
              · rw [if_pos c9] at H
                have c9b0 : decide (0 ≤ x8_1) = true := decide_eq_true c9
                clear c9
                by_cases c10 : x8_1 < (l0.length : Int)
                · rw [if_pos c10] at H
                  have c10b0 : decide (x8_1 < (l0.length : Int)) = true := decide_eq_true c10
                  clear c10
                  by_cases c11 : ((rdOf ByteArray.empty l0 x8_1).size : Int) > 500
                  · rw [if_pos c11] at H
                    have c11b0 : decide (500 < ((rdOf ByteArray.empty l0 x8_1).size : Int)) = true := decide_eq_true c11
                    have c11b1 : decide (500 < (rdOf ByteArray.empty l0 x8_1).size) = true := decide_eq_true (by omega)
                    clear c11
                    obtain rfl := Option.some.inj H
                    have p102 : 0 ≤ (x8_1 : Int) := of_decide_eq_true zz0
                    have q102 : x8_1 < (l0.length : Int) := of_decide_eq_true zz0
                    obtain ⟨ad102, e102, hx102_0⟩ := Kd.at_string HR0.out x8_1 p102 q102
                    cases e102
                    replace hx102_0 := (HB.out.cell (World.block_lt_of_cell? w _ hx102_0)).trans hx102_0
                    replace p102 := eq_true p102
                    replace q102 := eq_true q102
                    go_wp2
                    go_ret
                    exact ⟨by first | rfl | (simp [errW_none, errW_some] <;> rfl) | (simp [*, errW_none, errW_some] <;> rfl), by repeat (first | (with_reducible first | exact HB.out | apply below_alloc | apply pw_below_drewN | apply below_drew1) | exact HB.out)⟩
                  · rw [if_neg c11] at H
                    have c11b0 : decide (500 < ((rdOf ByteArray.empty l0 x8_1).size : Int)) = false := decide_eq_false c11
                    have c11b1 : decide (500 < (rdOf ByteArray.empty l0 x8_1).size) = false := decide_eq_false (by omega)
                    clear c11
                    have HC12 := Aside0.mk H
                    clear H
                    have p102 : 0 ≤ (x8_1 : Int) := of_decide_eq_true zz0
                    have q102 : x8_1 < (l0.length : Int) := of_decide_eq_true zz0
                    obtain ⟨ad102, e102, hx102_0⟩ := Kd.at_string HR0.out x8_1 p102 q102
                    cases e102
                    replace hx102_0 := (HB.out.cell (World.block_lt_of_cell? w _ hx102_0)).trans hx102_0
                    replace p102 := eq_true p102
                    replace q102 := eq_true q102
                    go_upto_region 10 with (fail)
                    go_cut [9, 10] (fun v9 v10 wc => ∃ (kq : Nat) (x9_11 : Bool) (x10_11 : Bool), v9 = .bool x9_11 ∧ v10 = .bool x10_11 ∧ Aside0 (watershedlaw08_WordsJoin.j2 kq l0 a1 x5_1 x6_1 x7_1 x8_1 x9_11 x10_11 = some r) ∧ Aside0 (kq ≤ kj5) ∧ Aside0 (Kd.R Kd.string 9 wc w.heap.size (fun _ => True) u7 x7_1) ∧ Aside0 (Below w.heap.size w wc))
                    case first =>
                      have H := HC12.out
                      clear HC12
                      by_cases c13 : (rdOf ByteArray.empty l0 x8_1).toList = ([] : List UInt8)
                      · rw [if_pos c13] at H
                        have c13b0 : ((rdOf ByteArray.empty l0 x8_1).toList == ([] : List UInt8)) = true := beq_iff_eq.mpr c13
                        have c13b1 : ((rdOf ByteArray.empty l0 x8_1).toList != ([] : List UInt8)) = false := bne_eq_false_iff_eq.mpr c13
                        clear c13
                        (first | rw [c13b0] | (simp only [i64_w, i32_w]; rw [c13b0]) | skip)
                        have H' := Aside0.mk H
                        clear H
                        have p103 : 0 ≤ (x8_1 : Int) := of_decide_eq_true zz0
                        have q103 : x8_1 < (l0.length : Int) := of_decide_eq_true zz0
                        obtain ⟨ad103, e103, hx103_0⟩ := Kd.at_string HR0.out x8_1 p103 q103
                        obtain rfl : ad102 = ad103 := (by injection e103)
                        replace hx103_0 := (HB.out.cell (World.block_lt_of_cell? w _ hx103_0)).trans hx103_0
                        replace p103 := eq_true p103
                        replace q103 := eq_true q103
                        go_wp2
                        go_meet
                        case rel => exact ⟨_, (false), (true), zz1, zz1, H', ⟨by have := HK1.out; have := HJ5.out; first | omega | exact Nat.le_refl _⟩, ⟨by (with_reducible repeat (first | apply Kd.R_alloc | apply Kd.R_drewN | apply Kd.R_drew)); exact HO_7.out⟩, ⟨by repeat (first | (with_reducible first | exact HB.out | apply below_alloc | apply pw_below_drewN | apply below_drew1) | exact HB.out)⟩⟩
                      · rw [if_neg c13] at H
                        have c13b0 : ((rdOf ByteArray.empty l0 x8_1).toList == ([] : List UInt8)) = false := beq_eq_false_iff_ne.mpr c13
                        have c13b1 : ((rdOf ByteArray.empty l0 x8_1).toList != ([] : List UInt8)) = true := bne_iff_ne.mpr c13
                        (first | rw [c13b0] | (simp only [i64_w, i32_w]; rw [c13b0]) | skip)
                        by_cases c14 : 0 < ((rdOf ByteArray.empty l0 x8_1).size : Int)
                        · rw [if_pos c14] at H
                          have c14b0 : decide (0 < ((rdOf ByteArray.empty l0 x8_1).size : Int)) = true := decide_eq_true c14
                          have c14b1 : decide (0 < (rdOf ByteArray.empty l0 x8_1).size) = true := decide_eq_true (by omega)
                          clear c14
                          have H' := Aside0.mk H
                          clear H
                          have p103 : 0 ≤ (x8_1 : Int) := of_decide_eq_true zz0
                          have q103 : x8_1 < (l0.length : Int) := of_decide_eq_true zz0
                          obtain ⟨ad103, e103, hx103_0⟩ := Kd.at_string HR0.out x8_1 p103 q103
                          obtain rfl : ad102 = ad103 := (by injection e103)
                          replace hx103_0 := (HB.out.cell (World.block_lt_of_cell? w _ hx103_0)).trans hx103_0
                          replace p103 := eq_true p103
                          replace q103 := eq_true q103
                          have p104 : 0 ≤ (x8_1 : Int) := of_decide_eq_true zz0
                          have q104 : x8_1 < (l0.length : Int) := of_decide_eq_true zz0
                          obtain ⟨ad104, e104, hx104_0⟩ := Kd.at_string HR0.out x8_1 p104 q104
                          obtain rfl : ad102 = ad104 := (by injection e104)
                          replace hx104_0 := (HB.out.cell (World.block_lt_of_cell? w _ hx104_0)).trans hx104_0
                          replace p104 := eq_true p104
                          replace q104 := eq_true q104
                          have p15 : 0 ≤ (0 : Int) := (by omega)
                          have q15 : 0 < (rdOf ByteArray.empty l0 x8_1).size := (by have : (0 : Int) < ((rdOf ByteArray.empty l0 x8_1).size : Int) := of_decide_eq_true zz0; omega)
                          have hx15 : ∀ h : 0 < (rdOf ByteArray.empty l0 x8_1).size, (((rdOf ByteArray.empty l0 x8_1)[0]'h).toNat : Int) = bt (rdOf ByteArray.empty l0 x8_1) 0 := bt_at (rdOf ByteArray.empty l0 x8_1) 0
                          clear p15
                          have qi15 : (0 < ((rdOf ByteArray.empty l0 x8_1).size : Int)) = True := eq_true (of_decide_eq_true zz0)
                          replace q15 := eq_true q15
                          go_wp2
                          go_meet
                          case rel => exact ⟨_, (((bt (rdOf ByteArray.empty l0 x8_1) 0) != 35)), (true), zz1, zz1, H', ⟨by have := HK1.out; have := HJ5.out; first | omega | exact Nat.le_refl _⟩, ⟨by (with_reducible repeat (first | apply Kd.R_alloc | apply Kd.R_drewN | apply Kd.R_drew)); exact HO_7.out⟩, ⟨by repeat (first | (with_reducible first | exact HB.out | apply below_alloc | apply pw_below_drewN | apply below_drew1) | exact HB.out)⟩⟩
                        · rw [if_neg c14] at H
                          exact absurd H (by simp)
                    case rest =>
                      clear HC12
                      (try clear c1); (try clear p1); (try clear q1); (try clear hx1); (try clear qi1); (try clear p2); (try clear c4); (try clear c7); (try clear c7b0); (try clear c8); (try clear c9); (try clear c9b0); (try clear c10); (try clear c10b0); (try clear p10); (try clear q10); (try clear hx10); (try clear c11); (try clear c11b0); (try clear c11b1); (try clear c13); (try clear c13b0); (try clear c13b1); (try clear c14); (try clear c14b0); (try clear c14b1); (try clear p15); (try clear q15); (try clear hx15); (try clear qi15); (try clear hx102_0); (try clear hx103_0); (try clear hx104_0); (try clear p102); (try clear p103); (try clear p104); (try clear p15); (try clear p2); (try clear q102); (try clear q103); (try clear q104); (try clear q15)
                      obtain ⟨kq, x9_11, x10_11, rfl, rfl, HA, HJ11, HO_7, HB⟩ := hcut
                      cases kq with
                      | zero => exact absurd HA.out (by simp [watershedlaw08_WordsJoin.j2])
                      | succ kj11 =>
                        have H := HA.out
                        clear HA
                        simp only [watershedlaw08_WordsJoin.j2] at H
                        have H' := Aside0.mk H
                        clear H
                        go_wp2
                        go_loopg [9, 10, 11] kj11 (fun kq v9 v10 v11 w' => ∃ (x9_4 : Bool) (x10_4 : Bool) (x11_4 : Int), v9 = .bool x9_4 ∧ v10 = .bool x10_4 ∧ v11 = .int .i64 x11_4 ∧ Aside0 (watershedlaw08_WordsJoin.l1 kq l0 a1 x5_1 x6_1 x7_1 x8_1 x9_4 x10_4 x11_4 = some r) ∧ Aside0 (kq ≤ kj11) ∧ Aside0 (Kd.R Kd.string 9 w' w.heap.size (fun _ => True) u7 x7_1) ∧ Aside0 (Below w.heap.size w w'))
                        case atStart => exact ⟨(x9_11), (x10_11), (0), zz1, zz1, zz1, H', ⟨Nat.le_refl _⟩, ⟨by (with_reducible repeat (first | apply Kd.R_alloc | apply Kd.R_drewN | apply Kd.R_drew)); exact HO_7.out⟩, ⟨by repeat (first | (with_reducible first | exact HB.out | apply below_alloc | apply pw_below_drewN | apply below_drew1) | exact HB.out)⟩⟩
                        case round =>
                          clear H'
                          (try clear c1); (try clear p1); (try clear q1); (try clear hx1); (try clear qi1); (try clear p2); (try clear c4); (try clear c7); (try clear c7b0); (try clear c8); (try clear c9); (try clear c9b0); (try clear c10); (try clear c10b0); (try clear p10); (try clear q10); (try clear hx10); (try clear c11); (try clear c11b0); (try clear c11b1); (try clear c13); (try clear c13b0); (try clear c13b1); (try clear c14); (try clear c14b0); (try clear c14b1); (try clear p15); (try clear q15); (try clear hx15); (try clear qi15); (try clear hx102_0); (try clear hx103_0); (try clear hx104_0); (try clear p1); (try clear p10); (try clear p102); (try clear p103); (try clear p104); (try clear p15); (try clear p2); (try clear q1); (try clear q10); (try clear q102); (try clear q103); (try clear q104); (try clear q15)
                          obtain ⟨x9_4, x10_4, x11_4, rfl, rfl, rfl, HA, HK4, HO_7, HB⟩ := hrel
                          cases gk with
                          | zero => exact absurd HA.out (by simp [watershedlaw08_WordsJoin.l1])
                          | succ k4 =>
                            have H := HA.out
                            clear HA
                            simp only [watershedlaw08_WordsJoin.l1] at H
                            by_cases c16 : 0 ≤ x8_1
                            · rw [if_pos c16] at H
                              have c16b0 : decide (0 ≤ x8_1) = true := decide_eq_true c16
                              clear c16
                              by_cases c17 : x8_1 < (l0.length : Int)
                              · rw [if_pos c17] at H
                                have c17b0 : decide (x8_1 < (l0.length : Int)) = true := decide_eq_true c17
                                clear c17
                                by_cases c18 : x11_4 < ((rdOf ByteArray.empty l0 x8_1).size : Int)
                                · rw [if_pos c18] at H
                                  have c18b0 : decide (x11_4 < ((rdOf ByteArray.empty l0 x8_1).size : Int)) = true := decide_eq_true c18
                                  clear c18
                                  by_cases c19 : x9_4 = true
                                  · subst c19
                                    have H1 : (if 0 ≤ x11_4 then (if x10_4 = true then (watershedlaw08_WordsJoin.l1 k4 l0 a1 x5_1 x6_1 x7_1 x8_1 ((bt (rdOf ByteArray.empty l0 x8_1) x11_4) != 32) ((bt (rdOf ByteArray.empty l0 x8_1) x11_4) != 10) (wrap64 (x11_4 + 1))) else (watershedlaw08_WordsJoin.l1 k4 l0 a1 x5_1 x6_1 x7_1 x8_1 ((bt (rdOf ByteArray.empty l0 x8_1) x11_4) != 32) false (wrap64 (x11_4 + 1)))) else (none)) = some r := by rw [if_pos rfl] at H; exact H
                                    clear H
                                    have H := H1
                                    clear H1
                                    by_cases c20 : 0 ≤ x11_4
                                    · rw [if_pos c20] at H
                                      have c20b0 : decide (0 ≤ x11_4) = true := decide_eq_true c20
                                      clear c20
                                      by_cases c22 : x10_4 = true
                                      · subst c22
                                        have H1 : (watershedlaw08_WordsJoin.l1 k4 l0 a1 x5_1 x6_1 x7_1 x8_1 ((bt (rdOf ByteArray.empty l0 x8_1) x11_4) != 32) ((bt (rdOf ByteArray.empty l0 x8_1) x11_4) != 10) (wrap64 (x11_4 + 1))) = some r := by rw [if_pos rfl] at H; exact H
                                        clear H
                                        have H := H1
                                        clear H1
                                        have H' := Aside0.mk H
                                        clear H
                                        have p105 : 0 ≤ (x8_1 : Int) := of_decide_eq_true zz0
                                        have q105 : x8_1 < (l0.length : Int) := of_decide_eq_true zz0
                                        obtain ⟨ad105, e105, hx105_0⟩ := Kd.at_string HR0.out x8_1 p105 q105
                                        obtain rfl : ad102 = ad105 := (by injection e105)
                                        replace hx105_0 := (HB.out.cell (World.block_lt_of_cell? w _ hx105_0)).trans hx105_0
                                        replace p105 := eq_true p105
                                        replace q105 := eq_true q105
                                        have p106 : 0 ≤ (x8_1 : Int) := of_decide_eq_true zz0
                                        have q106 : x8_1 < (l0.length : Int) := of_decide_eq_true zz0
                                        obtain ⟨ad106, e106, hx106_0⟩ := Kd.at_string HR0.out x8_1 p106 q106
                                        obtain rfl : ad102 = ad106 := (by injection e106)
                                        replace hx106_0 := (HB.out.cell (World.block_lt_of_cell? w _ hx106_0)).trans hx106_0
                                        replace p106 := eq_true p106
                                        replace q106 := eq_true q106
                                        have p21 : 0 ≤ (x11_4 : Int) := of_decide_eq_true zz0
                                        have q21 : x11_4 < ((rdOf ByteArray.empty l0 x8_1).size : Int) := of_decide_eq_true zz0
                                        have hx21 := bt_at (rdOf ByteArray.empty l0 x8_1) x11_4
                                        replace p21 := eq_true p21
                                        replace q21 := eq_true q21
                                        have p107 : 0 ≤ (x8_1 : Int) := of_decide_eq_true zz0
                                        have q107 : x8_1 < (l0.length : Int) := of_decide_eq_true zz0
                                        obtain ⟨ad107, e107, hx107_0⟩ := Kd.at_string HR0.out x8_1 p107 q107
                                        obtain rfl : ad102 = ad107 := (by injection e107)
                                        replace hx107_0 := (HB.out.cell (World.block_lt_of_cell? w _ hx107_0)).trans hx107_0
                                        replace p107 := eq_true p107
                                        replace q107 := eq_true q107
                                        have p23 : 0 ≤ (x11_4 : Int) := of_decide_eq_true zz0
                                        have q23 : x11_4 < ((rdOf ByteArray.empty l0 x8_1).size : Int) := of_decide_eq_true zz0
                                        have hx23 := bt_at (rdOf ByteArray.empty l0 x8_1) x11_4
                                        replace p23 := eq_true p23
                                        replace q23 := eq_true q23
                                        go_wp2
                                        go_roundg k4
                                        case measure => have := HK1.out; have := HJ5.out; have := HJ11.out; have := HK4.out; omega
                                        case rel => exact ⟨(((bt (rdOf ByteArray.empty l0 x8_1) x11_4) != 32)), (((bt (rdOf ByteArray.empty l0 x8_1) x11_4) != 10)), (wrap64 (x11_4 + 1)), zz1, zz1, zz1, H', ⟨by have := HK1.out; have := HJ5.out; have := HJ11.out; have := HK4.out; omega⟩, ⟨by (with_reducible repeat (first | apply Kd.R_alloc | apply Kd.R_drewN | apply Kd.R_drew)); exact HO_7.out⟩, ⟨by repeat (first | (with_reducible first | exact HB.out | apply below_alloc | apply pw_below_drewN | apply below_drew1) | exact HB.out)⟩⟩
                                      · replace c22 := Bool.eq_false_iff.mpr c22
                                        subst c22
                                        have H1 : (watershedlaw08_WordsJoin.l1 k4 l0 a1 x5_1 x6_1 x7_1 x8_1 ((bt (rdOf ByteArray.empty l0 x8_1) x11_4) != 32) false (wrap64 (x11_4 + 1))) = some r := by rw [if_neg (show ¬ (false = true) by decide)] at H; exact H
                                        clear H
                                        have H := H1
                                        clear H1
                                        have H' := Aside0.mk H
                                        clear H
                                        have p105 : 0 ≤ (x8_1 : Int) := of_decide_eq_true zz0
                                        have q105 : x8_1 < (l0.length : Int) := of_decide_eq_true zz0
                                        obtain ⟨ad105, e105, hx105_0⟩ := Kd.at_string HR0.out x8_1 p105 q105
                                        obtain rfl : ad102 = ad105 := (by injection e105)
                                        replace hx105_0 := (HB.out.cell (World.block_lt_of_cell? w _ hx105_0)).trans hx105_0
                                        replace p105 := eq_true p105
                                        replace q105 := eq_true q105
                                        have p106 : 0 ≤ (x8_1 : Int) := of_decide_eq_true zz0
                                        have q106 : x8_1 < (l0.length : Int) := of_decide_eq_true zz0
                                        obtain ⟨ad106, e106, hx106_0⟩ := Kd.at_string HR0.out x8_1 p106 q106
                                        obtain rfl : ad102 = ad106 := (by injection e106)
                                        replace hx106_0 := (HB.out.cell (World.block_lt_of_cell? w _ hx106_0)).trans hx106_0
                                        replace p106 := eq_true p106
                                        replace q106 := eq_true q106
                                        have p21 : 0 ≤ (x11_4 : Int) := of_decide_eq_true zz0
                                        have q21 : x11_4 < ((rdOf ByteArray.empty l0 x8_1).size : Int) := of_decide_eq_true zz0
                                        have hx21 := bt_at (rdOf ByteArray.empty l0 x8_1) x11_4
                                        replace p21 := eq_true p21
                                        replace q21 := eq_true q21
                                        go_wp2
                                        go_roundg k4
                                        case measure => have := HK1.out; have := HJ5.out; have := HJ11.out; have := HK4.out; omega
                                        case rel => exact ⟨(((bt (rdOf ByteArray.empty l0 x8_1) x11_4) != 32)), (false), (wrap64 (x11_4 + 1)), zz1, zz1, zz1, H', ⟨by have := HK1.out; have := HJ5.out; have := HJ11.out; have := HK4.out; omega⟩, ⟨by (with_reducible repeat (first | apply Kd.R_alloc | apply Kd.R_drewN | apply Kd.R_drew)); exact HO_7.out⟩, ⟨by repeat (first | (with_reducible first | exact HB.out | apply below_alloc | apply pw_below_drewN | apply below_drew1) | exact HB.out)⟩⟩
                                    · rw [if_neg c20] at H
                                      exact absurd H (by simp)
                                  · replace c19 := Bool.eq_false_iff.mpr c19
                                    subst c19
                                    have H1 : (if x10_4 = true then (if 0 ≤ x11_4 then (watershedlaw08_WordsJoin.l1 k4 l0 a1 x5_1 x6_1 x7_1 x8_1 false ((bt (rdOf ByteArray.empty l0 x8_1) x11_4) != 10) (wrap64 (x11_4 + 1))) else (none)) else (watershedlaw08_WordsJoin.l1 k4 l0 a1 x5_1 x6_1 x7_1 x8_1 false false (wrap64 (x11_4 + 1)))) = some r := by rw [if_neg (show ¬ (false = true) by decide)] at H; exact H
                                    clear H
                                    have H := H1
                                    clear H1
                                    by_cases c24 : x10_4 = true
                                    · subst c24
                                      have H1 : (if 0 ≤ x11_4 then (watershedlaw08_WordsJoin.l1 k4 l0 a1 x5_1 x6_1 x7_1 x8_1 false ((bt (rdOf ByteArray.empty l0 x8_1) x11_4) != 10) (wrap64 (x11_4 + 1))) else (none)) = some r := by rw [if_pos rfl] at H; exact H
                                      clear H
                                      have H := H1
                                      clear H1
                                      by_cases c25 : 0 ≤ x11_4
                                      · rw [if_pos c25] at H
                                        have c25b0 : decide (0 ≤ x11_4) = true := decide_eq_true c25
                                        clear c25
                                        have H' := Aside0.mk H
                                        clear H
                                        have p105 : 0 ≤ (x8_1 : Int) := of_decide_eq_true zz0
                                        have q105 : x8_1 < (l0.length : Int) := of_decide_eq_true zz0
                                        obtain ⟨ad105, e105, hx105_0⟩ := Kd.at_string HR0.out x8_1 p105 q105
                                        obtain rfl : ad102 = ad105 := (by injection e105)
                                        replace hx105_0 := (HB.out.cell (World.block_lt_of_cell? w _ hx105_0)).trans hx105_0
                                        replace p105 := eq_true p105
                                        replace q105 := eq_true q105
                                        have p108 : 0 ≤ (x8_1 : Int) := of_decide_eq_true zz0
                                        have q108 : x8_1 < (l0.length : Int) := of_decide_eq_true zz0
                                        obtain ⟨ad108, e108, hx108_0⟩ := Kd.at_string HR0.out x8_1 p108 q108
                                        obtain rfl : ad102 = ad108 := (by injection e108)
                                        replace hx108_0 := (HB.out.cell (World.block_lt_of_cell? w _ hx108_0)).trans hx108_0
                                        replace p108 := eq_true p108
                                        replace q108 := eq_true q108
                                        have p26 : 0 ≤ (x11_4 : Int) := of_decide_eq_true zz0
                                        have q26 : x11_4 < ((rdOf ByteArray.empty l0 x8_1).size : Int) := of_decide_eq_true zz0
                                        have hx26 := bt_at (rdOf ByteArray.empty l0 x8_1) x11_4
                                        replace p26 := eq_true p26
                                        replace q26 := eq_true q26
                                        go_wp2
                                        go_roundg k4
                                        case measure => have := HK1.out; have := HJ5.out; have := HJ11.out; have := HK4.out; omega
                                        case rel => exact ⟨(false), (((bt (rdOf ByteArray.empty l0 x8_1) x11_4) != 10)), (wrap64 (x11_4 + 1)), zz1, zz1, zz1, H', ⟨by have := HK1.out; have := HJ5.out; have := HJ11.out; have := HK4.out; omega⟩, ⟨by (with_reducible repeat (first | apply Kd.R_alloc | apply Kd.R_drewN | apply Kd.R_drew)); exact HO_7.out⟩, ⟨by repeat (first | (with_reducible first | exact HB.out | apply below_alloc | apply pw_below_drewN | apply below_drew1) | exact HB.out)⟩⟩
                                      · rw [if_neg c25] at H
                                        exact absurd H (by simp)
                                    · replace c24 := Bool.eq_false_iff.mpr c24
                                      subst c24
                                      have H1 : (watershedlaw08_WordsJoin.l1 k4 l0 a1 x5_1 x6_1 x7_1 x8_1 false false (wrap64 (x11_4 + 1))) = some r := by rw [if_neg (show ¬ (false = true) by decide)] at H; exact H
                                      clear H
                                      have H := H1
                                      clear H1
                                      have H' := Aside0.mk H
                                      clear H
                                      have p105 : 0 ≤ (x8_1 : Int) := of_decide_eq_true zz0
                                      have q105 : x8_1 < (l0.length : Int) := of_decide_eq_true zz0
                                      obtain ⟨ad105, e105, hx105_0⟩ := Kd.at_string HR0.out x8_1 p105 q105
                                      obtain rfl : ad102 = ad105 := (by injection e105)
                                      replace hx105_0 := (HB.out.cell (World.block_lt_of_cell? w _ hx105_0)).trans hx105_0
                                      replace p105 := eq_true p105
                                      replace q105 := eq_true q105
                                      go_wp2
                                      go_roundg k4
                                      case measure => have := HK1.out; have := HJ5.out; have := HJ11.out; have := HK4.out; omega
                                      case rel => exact ⟨(false), (false), (wrap64 (x11_4 + 1)), zz1, zz1, zz1, H', ⟨by have := HK1.out; have := HJ5.out; have := HJ11.out; have := HK4.out; omega⟩, ⟨by (with_reducible repeat (first | apply Kd.R_alloc | apply Kd.R_drewN | apply Kd.R_drew)); exact HO_7.out⟩, ⟨by repeat (first | (with_reducible first | exact HB.out | apply below_alloc | apply pw_below_drewN | apply below_drew1) | exact HB.out)⟩⟩
                                · rw [if_neg c18] at H
                                  have c18b0 : decide (x11_4 < ((rdOf ByteArray.empty l0 x8_1).size : Int)) = false := decide_eq_false c18
                                  clear c18
                                  have HC27 := Aside0.mk H
                                  clear H
                                  have p105 : 0 ≤ (x8_1 : Int) := of_decide_eq_true zz0
                                  have q105 : x8_1 < (l0.length : Int) := of_decide_eq_true zz0
                                  obtain ⟨ad105, e105, hx105_0⟩ := Kd.at_string HR0.out x8_1 p105 q105
                                  obtain rfl : ad102 = ad105 := (by injection e105)
                                  replace hx105_0 := (HB.out.cell (World.block_lt_of_cell? w _ hx105_0)).trans hx105_0
                                  replace p105 := eq_true p105
                                  replace q105 := eq_true q105
                                  go_upto_region 16 with (fail)
                                  go_cut [78] (fun v78 wc => ∃ (kq : Nat) (x78_26 : Bool), v78 = .bool x78_26 ∧ Aside0 (watershedlaw08_WordsJoin.j4 kq l0 a1 x5_1 x6_1 x7_1 x8_1 x78_26 = some r) ∧ Aside0 (kq ≤ k4) ∧ Aside0 (Kd.R Kd.string 9 wc w.heap.size (fun _ => True) u7 x7_1) ∧ Aside0 (Below w.heap.size w wc))
                                  case first =>
                                    have H := HC27.out
                                    clear HC27
                                    by_cases c28 : x9_4 = true
                                    · subst c28
                                      have H1 : (watershedlaw08_WordsJoin.j4 k4 l0 a1 x5_1 x6_1 x7_1 x8_1 (!x10_4)) = some r := by rw [if_pos rfl] at H; exact H
                                      clear H
                                      have H := H1
                                      clear H1
                                      have H' := Aside0.mk H
                                      clear H
                                      go_wp2
                                      go_meet
                                      case rel => exact ⟨_, (!x10_4), zz1, H', ⟨by have := HK1.out; have := HJ5.out; have := HJ11.out; have := HK4.out; first | omega | exact Nat.le_refl _⟩, ⟨by (with_reducible repeat (first | apply Kd.R_alloc | apply Kd.R_drewN | apply Kd.R_drew)); exact HO_7.out⟩, ⟨by repeat (first | (with_reducible first | exact HB.out | apply below_alloc | apply pw_below_drewN | apply below_drew1) | exact HB.out)⟩⟩
                                    · replace c28 := Bool.eq_false_iff.mpr c28
                                      subst c28
                                      have H1 : (watershedlaw08_WordsJoin.j4 k4 l0 a1 x5_1 x6_1 x7_1 x8_1 true) = some r := by rw [if_neg (show ¬ (false = true) by decide)] at H; exact H
                                      clear H
                                      have H := H1
                                      clear H1
                                      have H' := Aside0.mk H
                                      clear H
                                      go_wp2
                                      go_meet
                                      case rel => exact ⟨_, (true), zz1, H', ⟨by have := HK1.out; have := HJ5.out; have := HJ11.out; have := HK4.out; first | omega | exact Nat.le_refl _⟩, ⟨by (with_reducible repeat (first | apply Kd.R_alloc | apply Kd.R_drewN | apply Kd.R_drew)); exact HO_7.out⟩, ⟨by repeat (first | (with_reducible first | exact HB.out | apply below_alloc | apply pw_below_drewN | apply below_drew1) | exact HB.out)⟩⟩
                                  case rest =>
                                    clear HC27
                                    (try clear c1); (try clear p1); (try clear q1); (try clear hx1); (try clear qi1); (try clear c2); (try clear p2); (try clear q2); (try clear hx2); (try clear c4); (try clear p6); (try clear c7); (try clear c7b0); (try clear c8); (try clear c9); (try clear c9b0); (try clear c10); (try clear c10b0); (try clear p10); (try clear q10); (try clear hx10); (try clear c11); (try clear c11b0); (try clear c11b1); (try clear c13); (try clear c13b0); (try clear c13b1); (try clear c14); (try clear c14b0); (try clear c14b1); (try clear p15); (try clear q15); (try clear hx15); (try clear qi15); (try clear c16); (try clear c16b0); (try clear c17); (try clear c17b0); (try clear c18); (try clear c18b0); (try clear c19); (try clear c20); (try clear c20b0); (try clear p21); (try clear q21); (try clear hx21); (try clear c22); (try clear p23); (try clear q23); (try clear hx23); (try clear c24); (try clear c25); (try clear c25b0); (try clear p26); (try clear q26); (try clear hx26); (try clear c28); (try clear hx102_0); (try clear hx103_0); (try clear hx104_0); (try clear hx105_0); (try clear hx106_0); (try clear hx107_0); (try clear hx108_0); (try clear p1); (try clear p10); (try clear p102); (try clear p103); (try clear p104); (try clear p105); (try clear p106); (try clear p107); (try clear p108); (try clear p15); (try clear p2); (try clear p21); (try clear p23); (try clear p26); (try clear q1); (try clear q10); (try clear q102); (try clear q103); (try clear q104); (try clear q105); (try clear q106); (try clear q107); (try clear q108); (try clear q15); (try clear q21); (try clear q23); (try clear q26)
                                    obtain ⟨kq, x78_26, rfl, HA, HJ26, HO_7, HB⟩ := hcut
                                    cases kq with
                                    | zero => exact absurd HA.out (by simp [watershedlaw08_WordsJoin.j4])
                                    | succ kj26 =>
                                      have H := HA.out
                                      clear HA
                                      simp only [watershedlaw08_WordsJoin.j4] at H
                                      by_cases c29 : x78_26 = true
                                      · subst c29
                                        have H1 : (watershedlaw08_WordsJoin.l0 kj26 l0 a1 x5_1 x6_1 x7_1 (wrap64 (x8_1 + 1))) = some r := by rw [if_pos rfl] at H; exact H
                                        clear H
                                        have H := H1
                                        clear H1
                                        have H' := Aside0.mk H
                                        clear H
                                        go_wp2
                                        go_roundg kj26
                                        case measure => have := HK1.out; have := HJ5.out; have := HJ11.out; have := HK4.out; have := HJ26.out; omega
                                        case rel => exact ⟨(x5_1), (x6_1), (x7_1), (wrap64 (x8_1 + 1)), zz1, zz1, zz1, H', ⟨by have := HK1.out; have := HJ5.out; have := HJ11.out; have := HK4.out; have := HJ26.out; omega⟩, ⟨by (with_reducible repeat (first | apply Kd.R_alloc | apply Kd.R_drewN | apply Kd.R_drew)); exact HO_7.out⟩, ⟨by repeat (first | (with_reducible first | exact HB.out | apply below_alloc | apply pw_below_drewN | apply below_drew1) | exact HB.out)⟩⟩
                                      · replace c29 := Bool.eq_false_iff.mpr c29
                                        subst c29
                                        have H1 : (if 0 ≤ x8_1 then (if x8_1 < (l0.length : Int) then (if x7_1.length < 8796093022208 then (watershedlaw08_WordsJoin.l2 kj26 l0 a1 x5_1 x6_1 (x7_1 ++ [rdOf ByteArray.empty l0 x8_1]) x8_1 0) else (none)) else (none)) else (none)) = some r := by rw [if_neg (show ¬ (false = true) by decide)] at H; exact H
                                        clear H
                                        have H := H1
                                        clear H1
                                        by_cases c30 : 0 ≤ x8_1
                                        · rw [if_pos c30] at H
                                          have c30b0 : decide (0 ≤ x8_1) = true := decide_eq_true c30
                                          clear c30
                                          by_cases c31 : x8_1 < (l0.length : Int)
                                          · rw [if_pos c31] at H
                                            have c31b0 : decide (x8_1 < (l0.length : Int)) = true := decide_eq_true c31
                                            clear c31
                                            by_cases c32 : x7_1.length < 8796093022208
                                            · rw [if_pos c32] at H
                                              have LMc32 := Aside0.mk c32
                                              clear c32
                                              obtain ⟨y110, hy110⟩ : ∃ y_ : List ByteArray, y_ = (x7_1 ++ [rdOf ByteArray.empty l0 x8_1]) := ⟨_, rfl⟩
                                              replace H : (watershedlaw08_WordsJoin.l2 kj26 l0 a1 x5_1 x6_1 y110 x8_1 0) = some r := by first | (rw [hy110]; with_reducible exact H) | (have H2_ := (Option.bind_some _ _).symm.trans H; rw [hy110]; with_reducible exact H2_) | (have H2_ := (Option.bind_some _ _).symm.trans H; with_reducible exact H2_) | with_reducible exact H | (rw [hy110]; exact H) | exact H
                                              have Ny110 := Aside0.mk hy110
                                              clear hy110
                                              have H' := Aside0.mk H
                                              clear H
                                              have p109 : 0 ≤ (x8_1 : Int) := of_decide_eq_true zz0
                                              have q109 : x8_1 < (l0.length : Int) := of_decide_eq_true zz0
                                              obtain ⟨ad109, e109, hx109_0⟩ := Kd.at_string HR0.out x8_1 p109 q109
                                              obtain rfl : ad102 = ad109 := (by injection e109)
                                              replace hx109_0 := (HB.out.cell (World.block_lt_of_cell? w _ hx109_0)).trans hx109_0
                                              replace p109 := eq_true p109
                                              replace q109 := eq_true q109
                                              go_wp2_with (first | ((with_reducible refine gate_builtin (b := .append) (xs := #[.tmp 79, .tmp 84]) rfl ?_); at_builtin; refine Kd.R_append Kd.string (w0 := w) w.heap.size rfl (.tmp 79) (.tmp 84) 23 9 (.string ⟨#[]⟩) 16 rfl Tryd.underlying23 info9 rfl (by decide) (by omega) u7 x7_1 (rdOf ByteArray.empty l0 x8_1) [.string (rdOf ByteArray.empty l0 x8_1)] (fun _ => True) (fun _ => False) rfl rfl ?aP (fun _ hk => hk.elim) ?aF ?aO ?aB ?aS ?aL ?_; (case aP => exact rfl); (case aB => exact zz2); (case aF => exact (fun _ _ => trivial)); (case aO => exact zz3); (case aS => exact (below_size zz2)); (case aL => have := LMc32.out; omega); intro v111 w33 ho hb hg hat; rw [← Ny110.out] at ho; have n0_ := Aside0.mk (hb); have n1_ := Aside0.mk (ho); clear HB; clear HO_7; have HB := n0_; have HO112 := n1_; clear n0_ n1_; clear ho hb hg hat))
                                              go_loopg [5, 12] kj26 (fun kq v5 v12 w' => ∃ (x5_6 : ByteArray) (x12_6 : Int), v5 = .string x5_6 ∧ v12 = .int .i64 x12_6 ∧ Aside0 (watershedlaw08_WordsJoin.l2 kq l0 a1 x5_6 x6_1 y110 x8_1 x12_6 = some r) ∧ Aside0 (kq ≤ kj26) ∧ Aside0 (Kd.R Kd.string 9 w' w.heap.size (fun _ => True) v111 y110) ∧ Aside0 (Below w.heap.size w w'))
                                              case atStart => exact ⟨(x5_1), (0), zz1, zz1, H', ⟨Nat.le_refl _⟩, ⟨by (with_reducible repeat (first | apply Kd.R_alloc | apply Kd.R_drewN | apply Kd.R_drew)); exact HO112.out⟩, ⟨by repeat (first | (with_reducible first | exact HB.out | apply below_alloc | apply pw_below_drewN | apply below_drew1) | exact HB.out)⟩⟩
                                              case round =>
                                                clear H'
                                                (try clear c1); (try clear p1); (try clear q1); (try clear hx1); (try clear qi1); (try clear c2); (try clear p2); (try clear q2); (try clear hx2); (try clear c3); (try clear c4); (try clear p6); (try clear c7); (try clear c7b0); (try clear c8); (try clear c9); (try clear c9b0); (try clear c10); (try clear c10b0); (try clear p10); (try clear q10); (try clear hx10); (try clear c11); (try clear c11b0); (try clear c11b1); (try clear c13); (try clear c13b0); (try clear c13b1); (try clear c14); (try clear c14b0); (try clear c14b1); (try clear p15); (try clear q15); (try clear hx15); (try clear qi15); (try clear c16); (try clear c16b0); (try clear c17); (try clear c17b0); (try clear c18); (try clear c18b0); (try clear c19); (try clear c20); (try clear c20b0); (try clear p21); (try clear q21); (try clear hx21); (try clear c22); (try clear p23); (try clear q23); (try clear hx23); (try clear c24); (try clear c25); (try clear c25b0); (try clear p26); (try clear q26); (try clear hx26); (try clear c28); (try clear c29); (try clear c30); (try clear c30b0); (try clear c31); (try clear c31b0); (try clear c32); (try clear hx102_0); (try clear hx103_0); (try clear hx104_0); (try clear hx105_0); (try clear hx106_0); (try clear hx107_0); (try clear hx108_0); (try clear hx109_0); (try clear p1); (try clear p10); (try clear p102); (try clear p103); (try clear p104); (try clear p105); (try clear p106); (try clear p107); (try clear p108); (try clear p109); (try clear p15); (try clear p2); (try clear p21); (try clear p23); (try clear p26); (try clear p6); (try clear q1); (try clear q10); (try clear q102); (try clear q103); (try clear q104); (try clear q105); (try clear q106); (try clear q107); (try clear q108); (try clear q109); (try clear q15); (try clear q2); (try clear q21); (try clear q23); (try clear q26)
                                                obtain ⟨x5_6, x12_6, rfl, rfl, HA, HK6, HO_7, HB⟩ := hrel
                                                cases gk with
                                                | zero => exact absurd HA.out (by simp [watershedlaw08_WordsJoin.l2])
                                                | succ k6 =>
                                                  have H := HA.out
                                                  clear HA
                                                  simp only [watershedlaw08_WordsJoin.l2] at H
                                                  by_cases c34 : x12_6 ≤ (wrap64 (Int.tmod (IntKind.u64.wrap (a1)) 3))
                                                  · rw [if_pos c34] at H
                                                    have c34b0 : decide (x12_6 ≤ (wrap64 (Int.tmod (IntKind.u64.wrap (a1)) 3))) = true := decide_eq_true c34
                                                    clear c34
                                                    by_cases c35 : x5_6.size + 1 ≤ 9223372036854775807
                                                    · rw [if_pos c35] at H
                                                      have c35b0 := eq_true c35
                                                      have c35b1 : decide (x5_6.size + 1 ≤ 9223372036854775807) = true := decide_eq_true c35
                                                      try have c35b2 : (9223372036854775807 < x5_6.size + 1) = False := eq_false (Nat.not_lt.2 c35)
                                                      have H' := Aside0.mk H
                                                      clear H
                                                      go_wp2
                                                      go_roundg k6
                                                      case measure => have := HK1.out; have := HJ5.out; have := HJ11.out; have := HK4.out; have := HJ26.out; have := HK6.out; omega
                                                      case rel => exact ⟨(x5_6 ++ (⟨#[32]⟩ : ByteArray)), (wrap64 (x12_6 + 1)), zz1, zz1, H', ⟨by have := HK1.out; have := HJ5.out; have := HJ11.out; have := HK4.out; have := HJ26.out; have := HK6.out; omega⟩, ⟨by (with_reducible repeat (first | apply Kd.R_alloc | apply Kd.R_drewN | apply Kd.R_drew)); exact HO_7.out⟩, ⟨by repeat (first | (with_reducible first | exact HB.out | apply below_alloc | apply pw_below_drewN | apply below_drew1) | exact HB.out)⟩⟩
                                                    · rw [if_neg c35] at H
                                                      exact absurd H (by simp)
                                                  · rw [if_neg c34] at H
                                                    have c34b0 : decide (x12_6 ≤ (wrap64 (Int.tmod (IntKind.u64.wrap (a1)) 3))) = false := decide_eq_false c34
                                                    clear c34
                                                    by_cases c36 : 0 ≤ x8_1
                                                    · rw [if_pos c36] at H
                                                      have c36b0 : decide (0 ≤ x8_1) = true := decide_eq_true c36
                                                      clear c36
                                                      by_cases c37 : x8_1 < (l0.length : Int)
                                                      · rw [if_pos c37] at H
                                                        have c37b0 : decide (x8_1 < (l0.length : Int)) = true := decide_eq_true c37
                                                        clear c37
                                                        by_cases c38 : x5_6.size + (rdOf ByteArray.empty l0 x8_1).size ≤ 9223372036854775807
                                                        · rw [if_pos c38] at H
                                                          have c38b0 := eq_true c38
                                                          have c38b1 : decide (x5_6.size + (rdOf ByteArray.empty l0 x8_1).size ≤ 9223372036854775807) = true := decide_eq_true c38
                                                          try have c38b2 : (9223372036854775807 < x5_6.size + (rdOf ByteArray.empty l0 x8_1).size) = False := eq_false (Nat.not_lt.2 c38)
                                                          by_cases c39 : x6_1.size + (rdOf ByteArray.empty l0 x8_1).size ≤ 9223372036854775807
                                                          · rw [if_pos c39] at H
                                                            have c39b0 := eq_true c39
                                                            have c39b1 : decide (x6_1.size + (rdOf ByteArray.empty l0 x8_1).size ≤ 9223372036854775807) = true := decide_eq_true c39
                                                            try have c39b2 : (9223372036854775807 < x6_1.size + (rdOf ByteArray.empty l0 x8_1).size) = False := eq_false (Nat.not_lt.2 c39)
                                                            by_cases c40 : (x6_1 ++ (rdOf ByteArray.empty l0 x8_1)).size + 1 ≤ 9223372036854775807
                                                            · rw [if_pos c40] at H
                                                              have c40b0 := eq_true c40
                                                              have c40b1 : decide ((x6_1 ++ (rdOf ByteArray.empty l0 x8_1)).size + 1 ≤ 9223372036854775807) = true := decide_eq_true c40
                                                              try have c40b2 : (9223372036854775807 < (x6_1 ++ (rdOf ByteArray.empty l0 x8_1)).size + 1) = False := eq_false (Nat.not_lt.2 c40)
                                                              try have c40b3 : (9223372036854775807 < x6_1.size + (rdOf ByteArray.empty l0 x8_1).size + 1) = False := eq_false (by have h_ := c40; simp only [ByteArray.size_append] at h_; omega)
                                                              have H' := Aside0.mk H
                                                              clear H
                                                              have p113 : 0 ≤ (x8_1 : Int) := of_decide_eq_true zz0
                                                              have q113 : x8_1 < (l0.length : Int) := of_decide_eq_true zz0
                                                              obtain ⟨ad113, e113, hx113_0⟩ := Kd.at_string HR0.out x8_1 p113 q113
                                                              obtain rfl : ad102 = ad113 := (by injection e113)
                                                              replace hx113_0 := (HB.out.cell (World.block_lt_of_cell? w _ hx113_0)).trans hx113_0
                                                              replace p113 := eq_true p113
                                                              replace q113 := eq_true q113
                                                              have p114 : 0 ≤ (x8_1 : Int) := of_decide_eq_true zz0
                                                              have q114 : x8_1 < (l0.length : Int) := of_decide_eq_true zz0
                                                              obtain ⟨ad114, e114, hx114_0⟩ := Kd.at_string HR0.out x8_1 p114 q114
                                                              obtain rfl : ad102 = ad114 := (by injection e114)
                                                              replace hx114_0 := (HB.out.cell (World.block_lt_of_cell? w _ hx114_0)).trans hx114_0
                                                              replace p114 := eq_true p114
                                                              replace q114 := eq_true q114
                                                              go_wp2
                                                              go_roundg k6
                                                              case measure => have := HK1.out; have := HJ5.out; have := HJ11.out; have := HK4.out; have := HJ26.out; have := HK6.out; omega
                                                              case rel => exact ⟨(x5_6 ++ (rdOf ByteArray.empty l0 x8_1)), ((x6_1 ++ (rdOf ByteArray.empty l0 x8_1)) ++ (⟨#[10]⟩ : ByteArray)), (y110), (wrap64 (x8_1 + 1)), zz1, zz1, zz1, H', ⟨by have := HK1.out; have := HJ5.out; have := HJ11.out; have := HK4.out; have := HJ26.out; have := HK6.out; omega⟩, ⟨by (with_reducible repeat (first | apply Kd.R_alloc | apply Kd.R_drewN | apply Kd.R_drew)); exact HO_7.out⟩, ⟨by repeat (first | (with_reducible first | exact HB.out | apply below_alloc | apply pw_below_drewN | apply below_drew1) | exact HB.out)⟩⟩
                                                            · rw [if_neg c40] at H
                                                              exact absurd H (by simp)
                                                          · rw [if_neg c39] at H
                                                            exact absurd H (by simp)
                                                        · rw [if_neg c38] at H
                                                          exact absurd H (by simp)
                                                      · rw [if_neg c37] at H
                                                        exact absurd H (by simp)
                                                    · rw [if_neg c36] at H
                                                      exact absurd H (by simp)
                                            · rw [if_neg c32] at H
                                              exact absurd H (by simp)
                                          · rw [if_neg c31] at H
                                            exact absurd H (by simp)
                                        · rw [if_neg c30] at H
                                          exact absurd H (by simp)
                              · rw [if_neg c17] at H
                                exact absurd H (by simp)
                            · rw [if_neg c16] at H
                              exact absurd H (by simp)
                · rw [if_neg c10] at H
                  exact absurd H (by simp)
              · rw [if_neg c9] at H
                exact absurd H (by simp)
            · replace c8 := Bool.eq_false_iff.mpr c8
              subst c8
              have H1 : ((words_Split.f x5_1).bind fun t115 => ((watershedref08_Same.f t115 x7_1).bind fun t118 => (if t118 = true then ((words_Lines.f x6_1).bind fun t119 => ((watershedref08_Same.f t119 x7_1).bind fun t122 => (if t122 = true then (if x5_1.size + 7 ≤ 9223372036854775807 then ((words_Split.f (x5_1 ++ (⟨#[32, 35, 32, 109, 111, 114, 101]⟩ : ByteArray))).bind fun t123 => ((watershedref08_Same.f t123 x7_1).bind fun t126 => (some t126))) else (none)) else (none)))) else (none)))) = some r := by rw [if_neg (show ¬ (false = true) by decide)] at H; exact H
              clear H
              have H := H1
              clear H1
              replace H := Option.bind_eq_some_iff.mp H
              obtain ⟨t115, A410, H⟩ := H
              replace H : ((watershedref08_Same.f t115 x7_1).bind fun t118 => (if t118 = true then ((words_Lines.f x6_1).bind fun t119 => ((watershedref08_Same.f t119 x7_1).bind fun t122 => (if t122 = true then (if x5_1.size + 7 ≤ 9223372036854775807 then ((words_Split.f (x5_1 ++ (⟨#[32, 35, 32, 109, 111, 114, 101]⟩ : ByteArray))).bind fun t123 => ((watershedref08_Same.f t123 x7_1).bind fun t126 => (some t126))) else (none)) else (none)))) else (none))) = some r := H
              have A41 := Aside0.mk A410
              clear A410
              replace H := Option.bind_eq_some_iff.mp H
              obtain ⟨t118, A420, H⟩ := H
              replace H : (if t118 = true then ((words_Lines.f x6_1).bind fun t119 => ((watershedref08_Same.f t119 x7_1).bind fun t122 => (if t122 = true then (if x5_1.size + 7 ≤ 9223372036854775807 then ((words_Split.f (x5_1 ++ (⟨#[32, 35, 32, 109, 111, 114, 101]⟩ : ByteArray))).bind fun t123 => ((watershedref08_Same.f t123 x7_1).bind fun t126 => (some t126))) else (none)) else (none)))) else (none)) = some r := H
              have A42 := Aside0.mk A420
              clear A420
              by_cases c43 : t118 = true
              · subst c43
                have H1 : ((words_Lines.f x6_1).bind fun t119 => ((watershedref08_Same.f t119 x7_1).bind fun t122 => (if t122 = true then (if x5_1.size + 7 ≤ 9223372036854775807 then ((words_Split.f (x5_1 ++ (⟨#[32, 35, 32, 109, 111, 114, 101]⟩ : ByteArray))).bind fun t123 => ((watershedref08_Same.f t123 x7_1).bind fun t126 => (some t126))) else (none)) else (none)))) = some r := by rw [if_pos rfl] at H; exact H
                clear H
                have H := H1
                clear H1
                replace H := Option.bind_eq_some_iff.mp H
                obtain ⟨t119, A440, H⟩ := H
                replace H : ((watershedref08_Same.f t119 x7_1).bind fun t122 => (if t122 = true then (if x5_1.size + 7 ≤ 9223372036854775807 then ((words_Split.f (x5_1 ++ (⟨#[32, 35, 32, 109, 111, 114, 101]⟩ : ByteArray))).bind fun t123 => ((watershedref08_Same.f t123 x7_1).bind fun t126 => (some t126))) else (none)) else (none))) = some r := H
                have A44 := Aside0.mk A440
                clear A440
                replace H := Option.bind_eq_some_iff.mp H
                obtain ⟨t122, A450, H⟩ := H
                replace H : (if t122 = true then (if x5_1.size + 7 ≤ 9223372036854775807 then ((words_Split.f (x5_1 ++ (⟨#[32, 35, 32, 109, 111, 114, 101]⟩ : ByteArray))).bind fun t123 => ((watershedref08_Same.f t123 x7_1).bind fun t126 => (some t126))) else (none)) else (none)) = some r := H
                have A45 := Aside0.mk A450
                clear A450
                by_cases c46 : t122 = true
                · subst c46
                  have H1 : (if x5_1.size + 7 ≤ 9223372036854775807 then ((words_Split.f (x5_1 ++ (⟨#[32, 35, 32, 109, 111, 114, 101]⟩ : ByteArray))).bind fun t123 => ((watershedref08_Same.f t123 x7_1).bind fun t126 => (some t126))) else (none)) = some r := by rw [if_pos rfl] at H; exact H
                  clear H
                  have H := H1
                  clear H1
                  by_cases c47 : x5_1.size + 7 ≤ 9223372036854775807
                  · rw [if_pos c47] at H
                    have c47b0 := eq_true c47
                    have c47b1 : decide (x5_1.size + 7 ≤ 9223372036854775807) = true := decide_eq_true c47
                    try have c47b2 : (9223372036854775807 < x5_1.size + 7) = False := eq_false (Nat.not_lt.2 c47)
                    replace H := Option.bind_eq_some_iff.mp H
                    obtain ⟨t123, A480, H⟩ := H
                    replace H : ((watershedref08_Same.f t123 x7_1).bind fun t126 => (some t126)) = some r := H
                    have A48 := Aside0.mk A480
                    clear A480
                    replace H := Option.bind_eq_some_iff.mp H
                    obtain ⟨t126, A490, H⟩ := H
                    replace H : (some t126) = some r := H
                    have A49 := Aside0.mk A490
                    clear A490
                    obtain rfl := Option.some.inj H
                    go_wp2_with (first | ((with_reducible refine gate_callee (f := 9) rfl ?_); refine goesL_ (some 110) rfl rfl Tryd.func9 (by kernel_rfl) rfl #[.string x5_1] rfl (by (try simp only [List.map_toArray, List.map_cons, List.map_nil]); first | done | rfl | (simp only [List.length_drop, List.length_take]; rfl)) ?_; (with_reducible refine (words_Split.calls x5_1 t115 _ A41.out).mono ?_); rintro e w50 ⟨v116, rfl, ho0, hb⟩; refine ⟨_, rfl, ?_⟩; have n0_ := Aside0.mk (Kd.R_elder' zz3 (Kd.R_base ho0) hb); have n1_ := Aside0.mk (Kd.R_lower (Kd.R_new' ho0 (Kd.R_lt zz3)) (below_size zz2)); have n2_ := Aside0.mk (below_step zz2 hb); clear HO_7; clear HB; have HO_7 := n0_; have HO117 := n1_; have HB := n2_; clear n0_ n1_ n2_; (try clear hb); (try clear hb2); (try clear hk); (try clear hi); (try clear ho0); obtain ⟨Ao51, co51, eo51⟩ := Kd.R_slice HO117.out; subst eo51; obtain ⟨Ao52, co52, eo52⟩ := Kd.R_slice HO_7.out; subst eo52) | ((with_reducible refine gate_callee (f := 6) rfl ?_); refine goesL_ (some 112) rfl rfl Tryd.func6 (by kernel_rfl) rfl #[.slice Ao51 t115.length co51, .slice Ao52 x7_1.length co52] rfl (by (try simp only [List.map_toArray, List.map_cons, List.map_nil]); first | done | rfl | (simp only [List.length_drop, List.length_take]; rfl)) ?_; (with_reducible refine (watershedref08_Same.calls _ _ t115 _ _ x7_1 true _ ?side1 ?side2 ?side3 ?side4 A42.out).mono ?_); (case side1 => repeat (first | exact (Kd.R_reads' HO117.out).2.2 | (with_reducible refine Kd.C_alloc ?_ _) | (with_reducible refine Kd.C_drewN ?_ _) | (with_reducible refine Kd.C_drew ?_))); (case side2 => exact (Kd.R_reads' HO117.out).2.1); (case side3 => repeat (first | exact (Kd.R_reads' HO_7.out).2.2 | (with_reducible refine Kd.C_alloc ?_ _) | (with_reducible refine Kd.C_drewN ?_ _) | (with_reducible refine Kd.C_drew ?_))); (case side4 => exact (Kd.R_reads' HO_7.out).2.1); rintro e w' ⟨rfl, ⟨nd, rfl⟩⟩; refine ⟨_, rfl, ?_⟩) | (go_at_call 7; (with_reducible refine (words_Lines.calls x6_1 t119 _ A44.out).mono ?_); rintro e w53 ⟨v120, rfl, ho0, hb⟩; have n0_ := Aside0.mk (Kd.R_elder' zz3 (Kd.R_base ho0) hb); have n1_ := Aside0.mk (Kd.R_elder' (by (with_reducible repeat (first | apply Kd.R_alloc | apply Kd.R_drewN | apply Kd.R_drew)); exact HO117.out) (Kd.R_base ho0) hb); have n2_ := Aside0.mk (Kd.R_lower (Kd.R_new' (Kd.R_new' ho0 (Kd.R_lt zz3)) (Kd.R_lt (by (with_reducible repeat (first | apply Kd.R_alloc | apply Kd.R_drewN | apply Kd.R_drew)); exact HO117.out))) (below_size zz2)); have n3_ := Aside0.mk (below_step zz2 hb); clear HO_7; clear HO117; clear HB; have HO_7 := n0_; have HO117 := n1_; have HO121 := n2_; have HB := n3_; clear n0_ n1_ n2_ n3_; (try clear hb); (try clear hb2); (try clear hk); (try clear hi); (try clear ho0); obtain ⟨Ao54, co54, eo54⟩ := Kd.R_slice HO121.out; subst eo54) | (go_at_call 6; (with_reducible refine (watershedref08_Same.calls _ _ t119 _ _ x7_1 true _ ?side1 ?side2 ?side3 ?side4 A45.out).mono ?_); (case side1 => repeat (first | exact (Kd.R_reads' HO121.out).2.2 | (with_reducible refine Kd.C_alloc ?_ _) | (with_reducible refine Kd.C_drewN ?_ _) | (with_reducible refine Kd.C_drew ?_))); (case side2 => exact (Kd.R_reads' HO121.out).2.1); (case side3 => repeat (first | exact (Kd.R_reads' HO_7.out).2.2 | (with_reducible refine Kd.C_alloc ?_ _) | (with_reducible refine Kd.C_drewN ?_ _) | (with_reducible refine Kd.C_drew ?_))); (case side4 => exact (Kd.R_reads' HO_7.out).2.1); rintro e w' ⟨rfl, ⟨nd, rfl⟩⟩) | (go_at_call 9; (with_reducible refine (words_Split.calls (x5_1 ++ (⟨#[32, 35, 32, 109, 111, 114, 101]⟩ : ByteArray)) t123 _ A48.out).mono ?_); rintro e w55 ⟨v124, rfl, ho0, hb⟩; have n0_ := Aside0.mk (Kd.R_elder' zz3 (Kd.R_base ho0) hb); have n1_ := Aside0.mk (Kd.R_elder' (by (with_reducible repeat (first | apply Kd.R_alloc | apply Kd.R_drewN | apply Kd.R_drew)); exact HO117.out) (Kd.R_base ho0) hb); have n2_ := Aside0.mk (Kd.R_elder' (by (with_reducible repeat (first | apply Kd.R_alloc | apply Kd.R_drewN | apply Kd.R_drew)); exact HO121.out) (Kd.R_base ho0) hb); have n3_ := Aside0.mk (Kd.R_lower (Kd.R_new' (Kd.R_new' (Kd.R_new' ho0 (Kd.R_lt zz3)) (Kd.R_lt (by (with_reducible repeat (first | apply Kd.R_alloc | apply Kd.R_drewN | apply Kd.R_drew)); exact HO117.out))) (Kd.R_lt (by (with_reducible repeat (first | apply Kd.R_alloc | apply Kd.R_drewN | apply Kd.R_drew)); exact HO121.out))) (below_size zz2)); have n4_ := Aside0.mk (below_step zz2 hb); clear HO_7; clear HO117; clear HO121; clear HB; have HO_7 := n0_; have HO117 := n1_; have HO121 := n2_; have HO125 := n3_; have HB := n4_; clear n0_ n1_ n2_ n3_ n4_; (try clear hb); (try clear hb2); (try clear hk); (try clear hi); (try clear ho0); obtain ⟨Ao56, co56, eo56⟩ := Kd.R_slice HO125.out; subst eo56) | (go_at_call 6; (with_reducible refine (watershedref08_Same.calls _ _ t123 _ _ x7_1 t126 _ ?side1 ?side2 ?side3 ?side4 A49.out).mono ?_); (case side1 => repeat (first | exact (Kd.R_reads' HO125.out).2.2 | (with_reducible refine Kd.C_alloc ?_ _) | (with_reducible refine Kd.C_drewN ?_ _) | (with_reducible refine Kd.C_drew ?_))); (case side2 => exact (Kd.R_reads' HO125.out).2.1); (case side3 => repeat (first | exact (Kd.R_reads' HO_7.out).2.2 | (with_reducible refine Kd.C_alloc ?_ _) | (with_reducible refine Kd.C_drewN ?_ _) | (with_reducible refine Kd.C_drew ?_))); (case side4 => exact (Kd.R_reads' HO_7.out).2.1); rintro e w' ⟨rfl, ⟨nd, rfl⟩⟩))
                    go_ret
                    exact ⟨by first | rfl | (simp [errW_none, errW_some] <;> rfl) | (simp [*, errW_none, errW_some] <;> rfl), by repeat (first | (with_reducible first | exact HB.out | apply below_alloc | apply pw_below_drewN | apply below_drew1) | exact HB.out)⟩
                  · rw [if_neg c47] at H
                    exact absurd H (by simp)
                · replace c46 := Bool.eq_false_iff.mpr c46
                  subst c46
                  have H1 : (none) = some r := by rw [if_neg (show ¬ (false = true) by decide)] at H; exact H
                  clear H
                  have H := H1
                  clear H1
                  exact absurd H (by simp)
              · replace c43 := Bool.eq_false_iff.mpr c43
                subst c43
                have H1 : (none) = some r := by rw [if_neg (show ¬ (false = true) by decide)] at H; exact H
                clear H
                have H := H1
                clear H1
                exact absurd H (by simp)
  · replace c4 := Bool.eq_false_iff.mpr c4
    subst c4
    have H1 : (none) = some r := by rw [if_neg (show ¬ (false = true) by decide)] at H; exact H
    clear H
    have H := H1
    clear H1
    exact absurd H (by simp)

end Go.Proofs.YtmpgknemhmoboaaDoor.Q08J
