-- Laid by wip/pp.py for this seat.
import Derived.Test.YtmpgknemhmoboaaDoorQ08wx0
import Derived.Test.YtmpgknemhmoboaaDoorQ08wx1
import Derived.Test.YtmpgknemhmoboaaDoorX08c
import Derived.Test.YtmpgknemhmoboaaDoorX08m
import Derived.Test.YtmpgknemhmoboaaDoorX08n
import Derived.Test.YtmpgknemhmoboaaDoorX08o
namespace Go.Proofs.YtmpgknemhmoboaaDoor.Q08w
open Go.RowKit Go.Proofs.YtmpgknemhmoboaaDoorW.PrintWords Go.Proofs.YtmpgknemhmoboaaDoorW.PrintLast Go.Proofs.YtmpgknemhmoboaaDoorW.PrintMore
attribute [local go_sem] max2_int min2_int max_two min_two max_three min_three max_four min_four   -- for this text's walks alone
set_option linter.unusedVariables false
set_option linter.unusedSimpArgs false

open Go.Proofs.YtmpgknemhmoboaaDoor.Ext
/-! ### watershedlaw08_works: function 13 -/
def watershedlaw08_works.f (k : Nat)  : Option (Bool) := (words_Int.f k (⟨#[55]⟩ : ByteArray) 0 9).bind fun bt111 => ((words_Int.f k (⟨#[48, 55]⟩ : ByteArray) 0 9).bind fun bt113 => ((words_Int.f k (⟨#[49, 48]⟩ : ByteArray) 0 9).bind fun bt115 => ((words_Option.f (([(⟨#[97]⟩ : ByteArray), (⟨#[107, 61, 118]⟩ : ByteArray)] : List ByteArray)) (⟨#[107]⟩ : ByteArray)).bind fun bt120 => ((words_Split.f (⟨#[97, 32, 32, 98, 32, 35, 99]⟩ : ByteArray)).bind fun t122 => ((watershedref08_Same.f t122 (([(⟨#[97]⟩ : ByteArray), (⟨#[98]⟩ : ByteArray)] : List ByteArray))).bind fun t128 => (if t128 = true then ((words_Lines.f (⟨#[97, 10, 10, 98, 10]⟩ : ByteArray)).bind fun t129 => ((watershedref08_Same.f t129 (([(⟨#[97]⟩ : ByteArray), (⟨#[]⟩ : ByteArray), (⟨#[98]⟩ : ByteArray)] : List ByteArray))).bind fun t135 => (if t135 = true then (if bt111.1 = 7 then (if bt111.2 = 0 then (if bt113.2 = 6 then (if bt115.2 = 1 then (if bt120.1.toList = ([118] : List UInt8) then (if bt120.2 = true then ((words_Name.f (⟨#[97, 49]⟩ : ByteArray)).bind fun t136 => (if t136 = true then ((words_Name.f (⟨#[49, 97]⟩ : ByteArray)).bind fun t137 => (if t137 = true then (none) else ((words_Number.f (-5)).bind fun t138 => (some (t138.toList == ([45, 53] : List UInt8)))))) else (none))) else (none)) else (none)) else (none)) else (none)) else (none)) else (none)) else (none)))) else (none)))))))
theorem watershedlaw08_works.mono : ∀ k, LeO (watershedlaw08_works.f k ) (watershedlaw08_works.f (k + 1) ) := by
  intro  k
  unfold watershedlaw08_works.f
  repeat' first
      | (with_reducible exact words_Int.mono _ _ _ _)
      | (with_reducible exact LeO.refl _)
      | (with_reducible exact LeO.none _)
      | (with_reducible refine LeO.ite ?_ ?_)
      | (with_reducible refine LeO.bind ?_ (fun _ => ?_))
      | exact words_Int.mono _ _ _ _
      | exact LeO.none _
      | refine LeO.ite ?_ ?_
      | refine LeO.bind ?_ (fun _ => ?_)
set_option maxHeartbeats 8000000 in
set_option maxRecDepth 100000 in
theorem watershedlaw08_works.calls (k : Nat)  (r : Bool) (w : World) (h : watershedlaw08_works.f k  = some r) (HV : Aside0 (VARS w) := by first | exact HV | exact ⟨Ext.vars_below HV.out (by repeat (first | (with_reducible first | exact HB.out | apply below_alloc | apply pw_below_drewN | apply below_drew1 | refine below_set ?_ (Aside0.out (by assumption))) | exact HB.out))⟩) :
    Calls Tryd.prog 13 #[] w fun e w' => e = .returned (.bool r) ∧ Below w.heap.size w w' := by
  have HB := Aside0.mk (Below.refl w.heap.size w)
  have H : ((words_Int.f k (⟨#[55]⟩ : ByteArray) 0 9).bind fun bt111 => ((words_Int.f k (⟨#[48, 55]⟩ : ByteArray) 0 9).bind fun bt113 => ((words_Int.f k (⟨#[49, 48]⟩ : ByteArray) 0 9).bind fun bt115 => ((words_Option.f (([(⟨#[97]⟩ : ByteArray), (⟨#[107, 61, 118]⟩ : ByteArray)] : List ByteArray)) (⟨#[107]⟩ : ByteArray)).bind fun bt120 => ((words_Split.f (⟨#[97, 32, 32, 98, 32, 35, 99]⟩ : ByteArray)).bind fun t122 => ((watershedref08_Same.f t122 (([(⟨#[97]⟩ : ByteArray), (⟨#[98]⟩ : ByteArray)] : List ByteArray))).bind fun t128 => (if t128 = true then ((words_Lines.f (⟨#[97, 10, 10, 98, 10]⟩ : ByteArray)).bind fun t129 => ((watershedref08_Same.f t129 (([(⟨#[97]⟩ : ByteArray), (⟨#[]⟩ : ByteArray), (⟨#[98]⟩ : ByteArray)] : List ByteArray))).bind fun t135 => (if t135 = true then (if bt111.1 = 7 then (if bt111.2 = 0 then (if bt113.2 = 6 then (if bt115.2 = 1 then (if bt120.1.toList = ([118] : List UInt8) then (if bt120.2 = true then ((words_Name.f (⟨#[97, 49]⟩ : ByteArray)).bind fun t136 => (if t136 = true then ((words_Name.f (⟨#[49, 97]⟩ : ByteArray)).bind fun t137 => (if t137 = true then (none) else ((words_Number.f (-5)).bind fun t138 => (some (t138.toList == ([45, 53] : List UInt8)))))) else (none))) else (none)) else (none)) else (none)) else (none)) else (none)) else (none)) else (none)))) else (none)))))))) = some r := h
  clear h
  replace H := Option.bind_eq_some_iff.mp H
  obtain ⟨⟨t111, t112⟩, A10, H⟩ := H
  replace H : ((words_Int.f k (⟨#[48, 55]⟩ : ByteArray) 0 9).bind fun bt113 => ((words_Int.f k (⟨#[49, 48]⟩ : ByteArray) 0 9).bind fun bt115 => ((words_Option.f (([(⟨#[97]⟩ : ByteArray), (⟨#[107, 61, 118]⟩ : ByteArray)] : List ByteArray)) (⟨#[107]⟩ : ByteArray)).bind fun bt120 => ((words_Split.f (⟨#[97, 32, 32, 98, 32, 35, 99]⟩ : ByteArray)).bind fun t122 => ((watershedref08_Same.f t122 (([(⟨#[97]⟩ : ByteArray), (⟨#[98]⟩ : ByteArray)] : List ByteArray))).bind fun t128 => (if t128 = true then ((words_Lines.f (⟨#[97, 10, 10, 98, 10]⟩ : ByteArray)).bind fun t129 => ((watershedref08_Same.f t129 (([(⟨#[97]⟩ : ByteArray), (⟨#[]⟩ : ByteArray), (⟨#[98]⟩ : ByteArray)] : List ByteArray))).bind fun t135 => (if t135 = true then (if t111 = 7 then (if t112 = 0 then (if bt113.2 = 6 then (if bt115.2 = 1 then (if bt120.1.toList = ([118] : List UInt8) then (if bt120.2 = true then ((words_Name.f (⟨#[97, 49]⟩ : ByteArray)).bind fun t136 => (if t136 = true then ((words_Name.f (⟨#[49, 97]⟩ : ByteArray)).bind fun t137 => (if t137 = true then (none) else ((words_Number.f (-5)).bind fun t138 => (some (t138.toList == ([45, 53] : List UInt8)))))) else (none))) else (none)) else (none)) else (none)) else (none)) else (none)) else (none)) else (none)))) else (none))))))) = some r := H
  have A1 := Aside0.mk A10
  clear A10
  replace H := Option.bind_eq_some_iff.mp H
  obtain ⟨⟨t113, t114⟩, A20, H⟩ := H
  replace H : ((words_Int.f k (⟨#[49, 48]⟩ : ByteArray) 0 9).bind fun bt115 => ((words_Option.f (([(⟨#[97]⟩ : ByteArray), (⟨#[107, 61, 118]⟩ : ByteArray)] : List ByteArray)) (⟨#[107]⟩ : ByteArray)).bind fun bt120 => ((words_Split.f (⟨#[97, 32, 32, 98, 32, 35, 99]⟩ : ByteArray)).bind fun t122 => ((watershedref08_Same.f t122 (([(⟨#[97]⟩ : ByteArray), (⟨#[98]⟩ : ByteArray)] : List ByteArray))).bind fun t128 => (if t128 = true then ((words_Lines.f (⟨#[97, 10, 10, 98, 10]⟩ : ByteArray)).bind fun t129 => ((watershedref08_Same.f t129 (([(⟨#[97]⟩ : ByteArray), (⟨#[]⟩ : ByteArray), (⟨#[98]⟩ : ByteArray)] : List ByteArray))).bind fun t135 => (if t135 = true then (if t111 = 7 then (if t112 = 0 then (if t114 = 6 then (if bt115.2 = 1 then (if bt120.1.toList = ([118] : List UInt8) then (if bt120.2 = true then ((words_Name.f (⟨#[97, 49]⟩ : ByteArray)).bind fun t136 => (if t136 = true then ((words_Name.f (⟨#[49, 97]⟩ : ByteArray)).bind fun t137 => (if t137 = true then (none) else ((words_Number.f (-5)).bind fun t138 => (some (t138.toList == ([45, 53] : List UInt8)))))) else (none))) else (none)) else (none)) else (none)) else (none)) else (none)) else (none)) else (none)))) else (none)))))) = some r := H
  have A2 := Aside0.mk A20
  clear A20
  replace H := Option.bind_eq_some_iff.mp H
  obtain ⟨⟨t115, t116⟩, A30, H⟩ := H
  replace H : ((words_Option.f (([(⟨#[97]⟩ : ByteArray), (⟨#[107, 61, 118]⟩ : ByteArray)] : List ByteArray)) (⟨#[107]⟩ : ByteArray)).bind fun bt120 => ((words_Split.f (⟨#[97, 32, 32, 98, 32, 35, 99]⟩ : ByteArray)).bind fun t122 => ((watershedref08_Same.f t122 (([(⟨#[97]⟩ : ByteArray), (⟨#[98]⟩ : ByteArray)] : List ByteArray))).bind fun t128 => (if t128 = true then ((words_Lines.f (⟨#[97, 10, 10, 98, 10]⟩ : ByteArray)).bind fun t129 => ((watershedref08_Same.f t129 (([(⟨#[97]⟩ : ByteArray), (⟨#[]⟩ : ByteArray), (⟨#[98]⟩ : ByteArray)] : List ByteArray))).bind fun t135 => (if t135 = true then (if t111 = 7 then (if t112 = 0 then (if t114 = 6 then (if t116 = 1 then (if bt120.1.toList = ([118] : List UInt8) then (if bt120.2 = true then ((words_Name.f (⟨#[97, 49]⟩ : ByteArray)).bind fun t136 => (if t136 = true then ((words_Name.f (⟨#[49, 97]⟩ : ByteArray)).bind fun t137 => (if t137 = true then (none) else ((words_Number.f (-5)).bind fun t138 => (some (t138.toList == ([45, 53] : List UInt8)))))) else (none))) else (none)) else (none)) else (none)) else (none)) else (none)) else (none)) else (none)))) else (none))))) = some r := H
  have A3 := Aside0.mk A30
  clear A30
  obtain ⟨y117, hy117⟩ : ∃ y_ : List ByteArray, y_ = (([(⟨#[97]⟩ : ByteArray), (⟨#[107, 61, 118]⟩ : ByteArray)] : List ByteArray)) := ⟨_, rfl⟩
  replace H : ((words_Option.f y117 (⟨#[107]⟩ : ByteArray)).bind fun bt120 => ((words_Split.f (⟨#[97, 32, 32, 98, 32, 35, 99]⟩ : ByteArray)).bind fun t122 => ((watershedref08_Same.f t122 (([(⟨#[97]⟩ : ByteArray), (⟨#[98]⟩ : ByteArray)] : List ByteArray))).bind fun t128 => (if t128 = true then ((words_Lines.f (⟨#[97, 10, 10, 98, 10]⟩ : ByteArray)).bind fun t129 => ((watershedref08_Same.f t129 (([(⟨#[97]⟩ : ByteArray), (⟨#[]⟩ : ByteArray), (⟨#[98]⟩ : ByteArray)] : List ByteArray))).bind fun t135 => (if t135 = true then (if t111 = 7 then (if t112 = 0 then (if t114 = 6 then (if t116 = 1 then (if bt120.1.toList = ([118] : List UInt8) then (if bt120.2 = true then ((words_Name.f (⟨#[97, 49]⟩ : ByteArray)).bind fun t136 => (if t136 = true then ((words_Name.f (⟨#[49, 97]⟩ : ByteArray)).bind fun t137 => (if t137 = true then (none) else ((words_Number.f (-5)).bind fun t138 => (some (t138.toList == ([45, 53] : List UInt8)))))) else (none))) else (none)) else (none)) else (none)) else (none)) else (none)) else (none)) else (none)))) else (none))))) = some r := by first | (rw [hy117]; with_reducible exact H) | (have H2_ := (Option.bind_some _ _).symm.trans H; rw [hy117]; with_reducible exact H2_) | (have H2_ := (Option.bind_some _ _).symm.trans H; with_reducible exact H2_) | with_reducible exact H | (rw [hy117]; exact H) | exact H
  have Ny117 := Aside0.mk hy117
  clear hy117
  replace H := Option.bind_eq_some_iff.mp H
  obtain ⟨⟨t120, t121⟩, A40, H⟩ := H
  replace H : ((words_Split.f (⟨#[97, 32, 32, 98, 32, 35, 99]⟩ : ByteArray)).bind fun t122 => ((watershedref08_Same.f t122 (([(⟨#[97]⟩ : ByteArray), (⟨#[98]⟩ : ByteArray)] : List ByteArray))).bind fun t128 => (if t128 = true then ((words_Lines.f (⟨#[97, 10, 10, 98, 10]⟩ : ByteArray)).bind fun t129 => ((watershedref08_Same.f t129 (([(⟨#[97]⟩ : ByteArray), (⟨#[]⟩ : ByteArray), (⟨#[98]⟩ : ByteArray)] : List ByteArray))).bind fun t135 => (if t135 = true then (if t111 = 7 then (if t112 = 0 then (if t114 = 6 then (if t116 = 1 then (if t120.toList = ([118] : List UInt8) then (if t121 = true then ((words_Name.f (⟨#[97, 49]⟩ : ByteArray)).bind fun t136 => (if t136 = true then ((words_Name.f (⟨#[49, 97]⟩ : ByteArray)).bind fun t137 => (if t137 = true then (none) else ((words_Number.f (-5)).bind fun t138 => (some (t138.toList == ([45, 53] : List UInt8)))))) else (none))) else (none)) else (none)) else (none)) else (none)) else (none)) else (none)) else (none)))) else (none)))) = some r := H
  have A4 := Aside0.mk A40
  clear A40
  replace H := Option.bind_eq_some_iff.mp H
  obtain ⟨t122, A50, H⟩ := H
  replace H : ((watershedref08_Same.f t122 (([(⟨#[97]⟩ : ByteArray), (⟨#[98]⟩ : ByteArray)] : List ByteArray))).bind fun t128 => (if t128 = true then ((words_Lines.f (⟨#[97, 10, 10, 98, 10]⟩ : ByteArray)).bind fun t129 => ((watershedref08_Same.f t129 (([(⟨#[97]⟩ : ByteArray), (⟨#[]⟩ : ByteArray), (⟨#[98]⟩ : ByteArray)] : List ByteArray))).bind fun t135 => (if t135 = true then (if t111 = 7 then (if t112 = 0 then (if t114 = 6 then (if t116 = 1 then (if t120.toList = ([118] : List UInt8) then (if t121 = true then ((words_Name.f (⟨#[97, 49]⟩ : ByteArray)).bind fun t136 => (if t136 = true then ((words_Name.f (⟨#[49, 97]⟩ : ByteArray)).bind fun t137 => (if t137 = true then (none) else ((words_Number.f (-5)).bind fun t138 => (some (t138.toList == ([45, 53] : List UInt8)))))) else (none))) else (none)) else (none)) else (none)) else (none)) else (none)) else (none)) else (none)))) else (none))) = some r := H
  have A5 := Aside0.mk A50
  clear A50
  obtain ⟨y125, hy125⟩ : ∃ y_ : List ByteArray, y_ = (([(⟨#[97]⟩ : ByteArray), (⟨#[98]⟩ : ByteArray)] : List ByteArray)) := ⟨_, rfl⟩
  replace H : ((watershedref08_Same.f t122 y125).bind fun t128 => (if t128 = true then ((words_Lines.f (⟨#[97, 10, 10, 98, 10]⟩ : ByteArray)).bind fun t129 => ((watershedref08_Same.f t129 (([(⟨#[97]⟩ : ByteArray), (⟨#[]⟩ : ByteArray), (⟨#[98]⟩ : ByteArray)] : List ByteArray))).bind fun t135 => (if t135 = true then (if t111 = 7 then (if t112 = 0 then (if t114 = 6 then (if t116 = 1 then (if t120.toList = ([118] : List UInt8) then (if t121 = true then ((words_Name.f (⟨#[97, 49]⟩ : ByteArray)).bind fun t136 => (if t136 = true then ((words_Name.f (⟨#[49, 97]⟩ : ByteArray)).bind fun t137 => (if t137 = true then (none) else ((words_Number.f (-5)).bind fun t138 => (some (t138.toList == ([45, 53] : List UInt8)))))) else (none))) else (none)) else (none)) else (none)) else (none)) else (none)) else (none)) else (none)))) else (none))) = some r := by first | (rw [hy125]; with_reducible exact H) | (have H2_ := (Option.bind_some _ _).symm.trans H; rw [hy125]; with_reducible exact H2_) | (have H2_ := (Option.bind_some _ _).symm.trans H; with_reducible exact H2_) | with_reducible exact H | (rw [hy125]; exact H) | exact H
  have Ny125 := Aside0.mk hy125
  clear hy125
  replace H := Option.bind_eq_some_iff.mp H
  obtain ⟨t128, A60, H⟩ := H
  replace H : (if t128 = true then ((words_Lines.f (⟨#[97, 10, 10, 98, 10]⟩ : ByteArray)).bind fun t129 => ((watershedref08_Same.f t129 (([(⟨#[97]⟩ : ByteArray), (⟨#[]⟩ : ByteArray), (⟨#[98]⟩ : ByteArray)] : List ByteArray))).bind fun t135 => (if t135 = true then (if t111 = 7 then (if t112 = 0 then (if t114 = 6 then (if t116 = 1 then (if t120.toList = ([118] : List UInt8) then (if t121 = true then ((words_Name.f (⟨#[97, 49]⟩ : ByteArray)).bind fun t136 => (if t136 = true then ((words_Name.f (⟨#[49, 97]⟩ : ByteArray)).bind fun t137 => (if t137 = true then (none) else ((words_Number.f (-5)).bind fun t138 => (some (t138.toList == ([45, 53] : List UInt8)))))) else (none))) else (none)) else (none)) else (none)) else (none)) else (none)) else (none)) else (none)))) else (none)) = some r := H
  have A6 := Aside0.mk A60
  clear A60
  by_cases c7 : t128 = true
  · subst c7
    have H1 : ((words_Lines.f (⟨#[97, 10, 10, 98, 10]⟩ : ByteArray)).bind fun t129 => ((watershedref08_Same.f t129 (([(⟨#[97]⟩ : ByteArray), (⟨#[]⟩ : ByteArray), (⟨#[98]⟩ : ByteArray)] : List ByteArray))).bind fun t135 => (if t135 = true then (if t111 = 7 then (if t112 = 0 then (if t114 = 6 then (if t116 = 1 then (if t120.toList = ([118] : List UInt8) then (if t121 = true then ((words_Name.f (⟨#[97, 49]⟩ : ByteArray)).bind fun t136 => (if t136 = true then ((words_Name.f (⟨#[49, 97]⟩ : ByteArray)).bind fun t137 => (if t137 = true then (none) else ((words_Number.f (-5)).bind fun t138 => (some (t138.toList == ([45, 53] : List UInt8)))))) else (none))) else (none)) else (none)) else (none)) else (none)) else (none)) else (none)) else (none)))) = some r := by rw [if_pos rfl] at H; exact H
    clear H
    have H := H1
    clear H1
    replace H := Option.bind_eq_some_iff.mp H
    obtain ⟨t129, A80, H⟩ := H
    replace H : ((watershedref08_Same.f t129 (([(⟨#[97]⟩ : ByteArray), (⟨#[]⟩ : ByteArray), (⟨#[98]⟩ : ByteArray)] : List ByteArray))).bind fun t135 => (if t135 = true then (if t111 = 7 then (if t112 = 0 then (if t114 = 6 then (if t116 = 1 then (if t120.toList = ([118] : List UInt8) then (if t121 = true then ((words_Name.f (⟨#[97, 49]⟩ : ByteArray)).bind fun t136 => (if t136 = true then ((words_Name.f (⟨#[49, 97]⟩ : ByteArray)).bind fun t137 => (if t137 = true then (none) else ((words_Number.f (-5)).bind fun t138 => (some (t138.toList == ([45, 53] : List UInt8)))))) else (none))) else (none)) else (none)) else (none)) else (none)) else (none)) else (none)) else (none))) = some r := H
    have A8 := Aside0.mk A80
    clear A80
    obtain ⟨y132, hy132⟩ : ∃ y_ : List ByteArray, y_ = (([(⟨#[97]⟩ : ByteArray), (⟨#[]⟩ : ByteArray), (⟨#[98]⟩ : ByteArray)] : List ByteArray)) := ⟨_, rfl⟩
    replace H : ((watershedref08_Same.f t129 y132).bind fun t135 => (if t135 = true then (if t111 = 7 then (if t112 = 0 then (if t114 = 6 then (if t116 = 1 then (if t120.toList = ([118] : List UInt8) then (if t121 = true then ((words_Name.f (⟨#[97, 49]⟩ : ByteArray)).bind fun t136 => (if t136 = true then ((words_Name.f (⟨#[49, 97]⟩ : ByteArray)).bind fun t137 => (if t137 = true then (none) else ((words_Number.f (-5)).bind fun t138 => (some (t138.toList == ([45, 53] : List UInt8)))))) else (none))) else (none)) else (none)) else (none)) else (none)) else (none)) else (none)) else (none))) = some r := by first | (rw [hy132]; with_reducible exact H) | (have H2_ := (Option.bind_some _ _).symm.trans H; rw [hy132]; with_reducible exact H2_) | (have H2_ := (Option.bind_some _ _).symm.trans H; with_reducible exact H2_) | with_reducible exact H | (rw [hy132]; exact H) | exact H
    have Ny132 := Aside0.mk hy132
    clear hy132
    replace H := Option.bind_eq_some_iff.mp H
    obtain ⟨t135, A90, H⟩ := H
    replace H : (if t135 = true then (if t111 = 7 then (if t112 = 0 then (if t114 = 6 then (if t116 = 1 then (if t120.toList = ([118] : List UInt8) then (if t121 = true then ((words_Name.f (⟨#[97, 49]⟩ : ByteArray)).bind fun t136 => (if t136 = true then ((words_Name.f (⟨#[49, 97]⟩ : ByteArray)).bind fun t137 => (if t137 = true then (none) else ((words_Number.f (-5)).bind fun t138 => (some (t138.toList == ([45, 53] : List UInt8)))))) else (none))) else (none)) else (none)) else (none)) else (none)) else (none)) else (none)) else (none)) = some r := H
    have A9 := Aside0.mk A90
    clear A90
    by_cases c10 : t135 = true
    · subst c10
      have H1 : (if t111 = 7 then (if t112 = 0 then (if t114 = 6 then (if t116 = 1 then (if t120.toList = ([118] : List UInt8) then (if t121 = true then ((words_Name.f (⟨#[97, 49]⟩ : ByteArray)).bind fun t136 => (if t136 = true then ((words_Name.f (⟨#[49, 97]⟩ : ByteArray)).bind fun t137 => (if t137 = true then (none) else ((words_Number.f (-5)).bind fun t138 => (some (t138.toList == ([45, 53] : List UInt8)))))) else (none))) else (none)) else (none)) else (none)) else (none)) else (none)) else (none)) = some r := by rw [if_pos rfl] at H; exact H
      clear H
      have H := H1
      clear H1
      by_cases c11 : t111 = 7
      · rw [if_pos c11] at H
        have c11b0 : (t111 == 7) = true := beq_iff_eq.mpr c11
        have c11b1 : (t111 != 7) = false := bne_eq_false_iff_eq.mpr c11
        clear c11
        by_cases c12 : t112 = 0
        · rw [if_pos c12] at H
          have c12b0 : (t112 == 0) = true := beq_iff_eq.mpr c12
          have c12b1 : (t112 != 0) = false := bne_eq_false_iff_eq.mpr c12
          clear c12
          by_cases c13 : t114 = 6
          · rw [if_pos c13] at H
            have c13b0 : (t114 == 6) = true := beq_iff_eq.mpr c13
            have c13b1 : (t114 != 6) = false := bne_eq_false_iff_eq.mpr c13
            clear c13
            by_cases c14 : t116 = 1
            · rw [if_pos c14] at H
              have c14b0 : (t116 == 1) = true := beq_iff_eq.mpr c14
              have c14b1 : (t116 != 1) = false := bne_eq_false_iff_eq.mpr c14
              clear c14
              by_cases c15 : t120.toList = ([118] : List UInt8)
              · rw [if_pos c15] at H
                have c15b0 : (t120.toList == ([118] : List UInt8)) = true := beq_iff_eq.mpr c15
                have c15b1 : (t120.toList != ([118] : List UInt8)) = false := bne_eq_false_iff_eq.mpr c15
                clear c15
                by_cases c16 : t121 = true
                · subst c16
                  have H1 : ((words_Name.f (⟨#[97, 49]⟩ : ByteArray)).bind fun t136 => (if t136 = true then ((words_Name.f (⟨#[49, 97]⟩ : ByteArray)).bind fun t137 => (if t137 = true then (none) else ((words_Number.f (-5)).bind fun t138 => (some (t138.toList == ([45, 53] : List UInt8)))))) else (none))) = some r := by rw [if_pos rfl] at H; exact H
                  clear H
                  have H := H1
                  clear H1
                  replace H := Option.bind_eq_some_iff.mp H
                  obtain ⟨t136, A170, H⟩ := H
                  replace H : (if t136 = true then ((words_Name.f (⟨#[49, 97]⟩ : ByteArray)).bind fun t137 => (if t137 = true then (none) else ((words_Number.f (-5)).bind fun t138 => (some (t138.toList == ([45, 53] : List UInt8)))))) else (none)) = some r := H
                  have A17 := Aside0.mk A170
                  clear A170
                  by_cases c18 : t136 = true
                  · subst c18
                    have H1 : ((words_Name.f (⟨#[49, 97]⟩ : ByteArray)).bind fun t137 => (if t137 = true then (none) else ((words_Number.f (-5)).bind fun t138 => (some (t138.toList == ([45, 53] : List UInt8)))))) = some r := by rw [if_pos rfl] at H; exact H
                    clear H
                    have H := H1
                    clear H1
                    replace H := Option.bind_eq_some_iff.mp H
                    obtain ⟨t137, A190, H⟩ := H
                    replace H : (if t137 = true then (none) else ((words_Number.f (-5)).bind fun t138 => (some (t138.toList == ([45, 53] : List UInt8))))) = some r := H
                    have A19 := Aside0.mk A190
                    clear A190
                    by_cases c20 : t137 = true
                    · subst c20
                      have H1 : (none) = some r := by rw [if_pos rfl] at H; exact H
                      clear H
                      have H := H1
                      clear H1
                      exact absurd H (by simp)
                    · replace c20 := Bool.eq_false_iff.mpr c20
                      subst c20
                      have H1 : ((words_Number.f (-5)).bind fun t138 => (some (t138.toList == ([45, 53] : List UInt8)))) = some r := by rw [if_neg (show ¬ (false = true) by decide)] at H; exact H
                      clear H
                      have H := H1
                      clear H1
                      replace H := Option.bind_eq_some_iff.mp H
                      obtain ⟨t138, A210, H⟩ := H
                      replace H : (some (t138.toList == ([45, 53] : List UInt8))) = some r := H
                      have A21 := Aside0.mk A210
                      clear A210
                      obtain rfl := Option.some.inj H
                      go_enter Tryd.func13, Tryd.ntmps13
                      go_wp2_with (first | ((with_reducible refine gate_callee (f := 21) rfl ?_); refine goesL_ (some 10) rfl rfl Tryd.func21 (by kernel_rfl) rfl #[.string (⟨#[55]⟩ : ByteArray), .int .i64 0, .int .i64 9] rfl zz0 ?_; (with_reducible refine (words_Int.calls k (⟨#[55]⟩ : ByteArray) 0 9 t111 t112 _ A1.out).mono ?_); rintro e w' ⟨rfl, ⟨nd, rfl⟩⟩; refine ⟨_, rfl, ?_⟩) | ((with_reducible refine gate_callee (f := 21) rfl ?_); refine goesL_ (some 14) rfl rfl Tryd.func21 (by kernel_rfl) rfl #[.string (⟨#[48, 55]⟩ : ByteArray), .int .i64 0, .int .i64 9] rfl zz0 ?_; (with_reducible refine (words_Int.calls k (⟨#[48, 55]⟩ : ByteArray) 0 9 t113 t114 _ A2.out).mono ?_); rintro e w' ⟨rfl, ⟨nd, rfl⟩⟩; refine ⟨_, rfl, ?_⟩) | ((with_reducible refine gate_callee (f := 21) rfl ?_); refine goesL_ (some 18) rfl rfl Tryd.func21 (by kernel_rfl) rfl #[.string (⟨#[49, 48]⟩ : ByteArray), .int .i64 0, .int .i64 9] rfl zz0 ?_; (with_reducible refine (words_Int.calls k (⟨#[49, 48]⟩ : ByteArray) 0 9 t115 t116 _ A3.out).mono ?_); rintro e w' ⟨rfl, ⟨nd, rfl⟩⟩; refine ⟨_, rfl, ?_⟩) | ((with_reducible refine gate_dst (N := 22) rfl ?_); (try (refine gate_guard (by rfl) ?_; dsimp only)); refine Kd.R_lit Kd.string _ 9 ?hg (N := 22) ?hd (xs := ([(⟨#[97]⟩ : ByteArray), (⟨#[107, 61, 118]⟩ : ByteArray)] : List ByteArray)) (inner := [.string (⟨#[97]⟩ : ByteArray), .string (⟨#[107, 61, 118]⟩ : ByteArray)]) (ok := fun _ => True) (okp := fun _ => True) ?hr ?hp (fun _ hk => hk) trivial (Below.refl _ _) (Nat.le_refl _) (by simp) ?_; (case hd => rfl); (case hg => rfl); (case hr => first | (go_simp; done) | (go_simp; rfl)); (case hp => exact (Reps.one (show Kd.M Kd.string _ _ _ (⟨#[97]⟩ : ByteArray) [.string (⟨#[97]⟩ : ByteArray)] from rfl) (Reps.one (show Kd.M Kd.string _ _ _ (⟨#[107, 61, 118]⟩ : ByteArray) [.string (⟨#[107, 61, 118]⟩ : ByteArray)] from rfl) (Reps.none _ _)))); intro v118 w22 ho23 hb hg_ hnew_; clear hg_ hnew_; (first | rw [← Ny117.out] at ho23 | (simp only [Int.reduceToNat] at ho23; rw [← Ny117.out] at ho23)); have n0_ := Aside0.mk (Kd.R_lower ho23 (below_size zz1)); have n1_ := Aside0.mk (below_step zz1 hb); clear HB; have HO119 := n0_; have HB := n1_; clear n0_ n1_; clear hb ho23; obtain ⟨Ao24, co24, eo24⟩ := Kd.R_slice HO119.out; subst eo24) | ((with_reducible refine gate_callee (f := 22) rfl ?_); refine goesL_ (some 23) rfl rfl Tryd.func22 (by kernel_rfl) rfl #[.slice Ao24 y117.length co24, .string (⟨#[107]⟩ : ByteArray)] rfl zz0 ?_; (with_reducible refine (words_Option.calls _ _ y117 (⟨#[107]⟩ : ByteArray) t120 true _ ?side1 ?side2 A4.out).mono ?_); (case side1 => repeat (first | exact (Kd.R_reads' HO119.out).2.2 | (with_reducible refine Kd.C_alloc ?_ _) | (with_reducible refine Kd.C_drewN ?_ _) | (with_reducible refine Kd.C_drew ?_))); (case side2 => exact (Kd.R_reads' HO119.out).2.1); rintro e w' ⟨rfl, ⟨nd, rfl⟩⟩; refine ⟨_, rfl, ?_⟩) | ((with_reducible refine gate_callee (f := 9) rfl ?_); refine goesL_ (some 26) rfl rfl Tryd.func9 (by kernel_rfl) rfl #[.string (⟨#[97, 32, 32, 98, 32, 35, 99]⟩ : ByteArray)] rfl zz0 ?_; (with_reducible refine (words_Split.calls (⟨#[97, 32, 32, 98, 32, 35, 99]⟩ : ByteArray) t122 _ A5.out).mono ?_); rintro e w25 ⟨v123, rfl, ho0, hb⟩; refine ⟨_, rfl, ?_⟩; have n0_ := Aside0.mk (Kd.R_elder' zz2 (Kd.R_base ho0) hb); have n1_ := Aside0.mk (Kd.R_lower (Kd.R_new' ho0 (Kd.R_lt zz2)) (below_size zz1)); have n2_ := Aside0.mk (below_step zz1 hb); clear HO119; clear HB; have HO119 := n0_; have HO124 := n1_; have HB := n2_; clear n0_ n1_ n2_; (try clear hb); (try clear hb2); (try clear hk); (try clear hi); (try clear ho0)) | ((with_reducible refine gate_dst (N := 27) rfl ?_); (try (refine gate_guard (by rfl) ?_; dsimp only)); refine Kd.R_lit Kd.string _ 9 ?hg (N := 27) ?hd (xs := ([(⟨#[97]⟩ : ByteArray), (⟨#[98]⟩ : ByteArray)] : List ByteArray)) (inner := [.string (⟨#[97]⟩ : ByteArray), .string (⟨#[98]⟩ : ByteArray)]) (ok := fun _ => True) (okp := fun _ => True) ?hr ?hp (fun _ hk => hk) trivial (Below.refl _ _) (Nat.le_refl _) (by simp) ?_; (case hd => rfl); (case hg => rfl); (case hr => first | (go_simp; done) | (go_simp; rfl)); (case hp => exact (Reps.one (show Kd.M Kd.string _ _ _ (⟨#[97]⟩ : ByteArray) [.string (⟨#[97]⟩ : ByteArray)] from rfl) (Reps.one (show Kd.M Kd.string _ _ _ (⟨#[98]⟩ : ByteArray) [.string (⟨#[98]⟩ : ByteArray)] from rfl) (Reps.none _ _)))); intro v126 w26 ho27 hb hg_ hnew_; clear hg_ hnew_; (first | rw [← Ny125.out] at ho27 | (simp only [Int.reduceToNat] at ho27; rw [← Ny125.out] at ho27)); have n0_ := Aside0.mk (Kd.R_elder' zz2 (Kd.R_base ho27) hb); have n1_ := Aside0.mk (Kd.R_elder' zz3 (Kd.R_base ho27) hb); have n2_ := Aside0.mk (Kd.R_lower (Kd.R_new' (Kd.R_new' ho27 (Kd.R_lt zz2)) (Kd.R_lt zz3)) (below_size zz1)); have n3_ := Aside0.mk (below_step zz1 hb); clear HO119; clear HO124; clear HB; have HO119 := n0_; have HO124 := n1_; have HO127 := n2_; have HB := n3_; clear n0_ n1_ n2_ n3_; clear hb ho27; obtain ⟨Ao28, co28, eo28⟩ := Kd.R_slice HO124.out; subst eo28; obtain ⟨Ao29, co29, eo29⟩ := Kd.R_slice HO127.out; subst eo29) | ((with_reducible refine gate_callee (f := 6) rfl ?_); refine goesL_ (some 28) rfl rfl Tryd.func6 (by kernel_rfl) rfl #[.slice Ao28 t122.length co28, .slice Ao29 y125.length co29] rfl zz0 ?_; (with_reducible refine (watershedref08_Same.calls _ _ t122 _ _ y125 true _ ?side1 ?side2 ?side3 ?side4 A6.out).mono ?_); (case side1 => repeat (first | exact (Kd.R_reads' HO124.out).2.2 | (with_reducible refine Kd.C_alloc ?_ _) | (with_reducible refine Kd.C_drewN ?_ _) | (with_reducible refine Kd.C_drew ?_))); (case side2 => exact (Kd.R_reads' HO124.out).2.1); (case side3 => repeat (first | exact (Kd.R_reads' HO127.out).2.2 | (with_reducible refine Kd.C_alloc ?_ _) | (with_reducible refine Kd.C_drewN ?_ _) | (with_reducible refine Kd.C_drew ?_))); (case side4 => exact (Kd.R_reads' HO127.out).2.1); rintro e w' ⟨rfl, ⟨nd, rfl⟩⟩; refine ⟨_, rfl, ?_⟩) | (go_at_call 7; (with_reducible refine (words_Lines.calls (⟨#[97, 10, 10, 98, 10]⟩ : ByteArray) t129 _ A8.out).mono ?_); rintro e w30 ⟨v130, rfl, ho0, hb⟩; have n0_ := Aside0.mk (Kd.R_elder' zz2 (Kd.R_base ho0) hb); have n1_ := Aside0.mk (Kd.R_elder' zz3 (Kd.R_base ho0) hb); have n2_ := Aside0.mk (Kd.R_elder' zz5 (Kd.R_base ho0) hb); have n3_ := Aside0.mk (Kd.R_lower (Kd.R_new' (Kd.R_new' (Kd.R_new' ho0 (Kd.R_lt zz2)) (Kd.R_lt zz3)) (Kd.R_lt zz5)) (below_size zz1)); have n4_ := Aside0.mk (below_step zz1 hb); clear HO119; clear HO124; clear HO127; clear HB; have HO119 := n0_; have HO124 := n1_; have HO127 := n2_; have HO131 := n3_; have HB := n4_; clear n0_ n1_ n2_ n3_ n4_; (try clear hb); (try clear hb2); (try clear hk); (try clear hi); (try clear ho0)) | ((with_reducible refine gate_dst (N := 31) rfl ?_); (try (refine gate_guard (by rfl) ?_; dsimp only)); refine Kd.R_lit Kd.string _ 9 ?hg (N := 31) ?hd (xs := ([(⟨#[97]⟩ : ByteArray), (⟨#[]⟩ : ByteArray), (⟨#[98]⟩ : ByteArray)] : List ByteArray)) (inner := [.string (⟨#[97]⟩ : ByteArray), .string (⟨#[]⟩ : ByteArray), .string (⟨#[98]⟩ : ByteArray)]) (ok := fun _ => True) (okp := fun _ => True) ?hr ?hp (fun _ hk => hk) trivial (Below.refl _ _) (Nat.le_refl _) (by simp) ?_; (case hd => rfl); (case hg => rfl); (case hr => first | (go_simp; done) | (go_simp; rfl)); (case hp => exact (Reps.one (show Kd.M Kd.string _ _ _ (⟨#[97]⟩ : ByteArray) [.string (⟨#[97]⟩ : ByteArray)] from rfl) (Reps.one (show Kd.M Kd.string _ _ _ (⟨#[]⟩ : ByteArray) [.string (⟨#[]⟩ : ByteArray)] from rfl) (Reps.one (show Kd.M Kd.string _ _ _ (⟨#[98]⟩ : ByteArray) [.string (⟨#[98]⟩ : ByteArray)] from rfl) (Reps.none _ _))))); intro v133 w31 ho32 hb hg_ hnew_; clear hg_ hnew_; (first | rw [← Ny132.out] at ho32 | (simp only [Int.reduceToNat] at ho32; rw [← Ny132.out] at ho32)); have n0_ := Aside0.mk (Kd.R_elder' zz2 (Kd.R_base ho32) hb); have n1_ := Aside0.mk (Kd.R_elder' zz3 (Kd.R_base ho32) hb); have n2_ := Aside0.mk (Kd.R_elder' zz5 (Kd.R_base ho32) hb); have n3_ := Aside0.mk (Kd.R_elder' zz7 (Kd.R_base ho32) hb); have n4_ := Aside0.mk (Kd.R_lower (Kd.R_new' (Kd.R_new' (Kd.R_new' (Kd.R_new' ho32 (Kd.R_lt zz2)) (Kd.R_lt zz3)) (Kd.R_lt zz5)) (Kd.R_lt zz7)) (below_size zz1)); have n5_ := Aside0.mk (below_step zz1 hb); clear HO119; clear HO124; clear HO127; clear HO131; clear HB; have HO119 := n0_; have HO124 := n1_; have HO127 := n2_; have HO131 := n3_; have HO134 := n4_; have HB := n5_; clear n0_ n1_ n2_ n3_ n4_ n5_; clear hb ho32; obtain ⟨Ao33, co33, eo33⟩ := Kd.R_slice HO131.out; subst eo33; obtain ⟨Ao34, co34, eo34⟩ := Kd.R_slice HO134.out; subst eo34) | (go_at_call 6; (with_reducible refine (watershedref08_Same.calls _ _ t129 _ _ y132 true _ ?side1 ?side2 ?side3 ?side4 A9.out).mono ?_); (case side1 => repeat (first | exact (Kd.R_reads' HO131.out).2.2 | (with_reducible refine Kd.C_alloc ?_ _) | (with_reducible refine Kd.C_drewN ?_ _) | (with_reducible refine Kd.C_drew ?_))); (case side2 => exact (Kd.R_reads' HO131.out).2.1); (case side3 => repeat (first | exact (Kd.R_reads' HO134.out).2.2 | (with_reducible refine Kd.C_alloc ?_ _) | (with_reducible refine Kd.C_drewN ?_ _) | (with_reducible refine Kd.C_drew ?_))); (case side4 => exact (Kd.R_reads' HO134.out).2.1); rintro e w' ⟨rfl, ⟨nd, rfl⟩⟩) | (go_at_call 11; (with_reducible refine (words_Name.calls (⟨#[97, 49]⟩ : ByteArray) true _ A17.out).mono ?_); rintro e w35 ⟨rfl, hb⟩; have n0_ := Aside0.mk (Kd.R_below zz2 hb); have n1_ := Aside0.mk (Kd.R_below zz3 hb); have n2_ := Aside0.mk (Kd.R_below zz5 hb); have n3_ := Aside0.mk (Kd.R_below zz7 hb); have n4_ := Aside0.mk (Kd.R_below (by (with_reducible repeat (first | apply Kd.R_alloc | apply Kd.R_drewN | apply Kd.R_drew)); exact HO134.out) hb); have n5_ := Aside0.mk (below_step zz1 hb); clear HO119; clear HO124; clear HO127; clear HO131; clear HO134; clear HB; have HO119 := n0_; have HO124 := n1_; have HO127 := n2_; have HO131 := n3_; have HO134 := n4_; have HB := n5_; clear n0_ n1_ n2_ n3_ n4_ n5_; (try clear hb); (try clear hb2); (try clear hk); (try clear hi)) | (go_at_call 11; (with_reducible refine (words_Name.calls (⟨#[49, 97]⟩ : ByteArray) false _ A19.out).mono ?_); rintro e w36 ⟨rfl, hb⟩; have n0_ := Aside0.mk (Kd.R_below zz2 hb); have n1_ := Aside0.mk (Kd.R_below zz3 hb); have n2_ := Aside0.mk (Kd.R_below zz5 hb); have n3_ := Aside0.mk (Kd.R_below zz7 hb); have n4_ := Aside0.mk (Kd.R_below (by (with_reducible repeat (first | apply Kd.R_alloc | apply Kd.R_drewN | apply Kd.R_drew)); exact HO134.out) hb); have n5_ := Aside0.mk (below_step zz1 hb); clear HO119; clear HO124; clear HO127; clear HO131; clear HO134; clear HB; have HO119 := n0_; have HO124 := n1_; have HO127 := n2_; have HO131 := n3_; have HO134 := n4_; have HB := n5_; clear n0_ n1_ n2_ n3_ n4_ n5_; (try clear hb); (try clear hb2); (try clear hk); (try clear hi)) | (go_at_call 15; (with_reducible refine (words_Number.calls (-5) t138 _ A21.out).mono ?_); rintro e w37 ⟨rfl, hb⟩; have n0_ := Aside0.mk (Kd.R_below zz2 hb); have n1_ := Aside0.mk (Kd.R_below zz3 hb); have n2_ := Aside0.mk (Kd.R_below zz5 hb); have n3_ := Aside0.mk (Kd.R_below zz7 hb); have n4_ := Aside0.mk (Kd.R_below (by (with_reducible repeat (first | apply Kd.R_alloc | apply Kd.R_drewN | apply Kd.R_drew)); exact HO134.out) hb); have n5_ := Aside0.mk (below_step zz1 hb); clear HO119; clear HO124; clear HO127; clear HO131; clear HO134; clear HB; have HO119 := n0_; have HO124 := n1_; have HO127 := n2_; have HO131 := n3_; have HO134 := n4_; have HB := n5_; clear n0_ n1_ n2_ n3_ n4_ n5_; (try clear hb); (try clear hb2); (try clear hk); (try clear hi)))
                      go_ret
                      exact ⟨by first | rfl | (simp [errW_none, errW_some] <;> rfl) | (simp [*, errW_none, errW_some] <;> rfl), by repeat (first | (with_reducible first | exact HB.out | apply below_alloc | apply pw_below_drewN | apply below_drew1) | exact HB.out)⟩
                  · replace c18 := Bool.eq_false_iff.mpr c18
                    subst c18
                    have H1 : (none) = some r := by rw [if_neg (show ¬ (false = true) by decide)] at H; exact H
                    clear H
                    have H := H1
                    clear H1
                    exact absurd H (by simp)
                · replace c16 := Bool.eq_false_iff.mpr c16
                  subst c16
                  have H1 : (none) = some r := by rw [if_neg (show ¬ (false = true) by decide)] at H; exact H
                  clear H
                  have H := H1
                  clear H1
                  exact absurd H (by simp)
              · rw [if_neg c15] at H
                exact absurd H (by simp)
            · rw [if_neg c14] at H
              exact absurd H (by simp)
          · rw [if_neg c13] at H
            exact absurd H (by simp)
        · rw [if_neg c12] at H
          exact absurd H (by simp)
      · rw [if_neg c11] at H
        exact absurd H (by simp)
    · replace c10 := Bool.eq_false_iff.mpr c10
      subst c10
      have H1 : (none) = some r := by rw [if_neg (show ¬ (false = true) by decide)] at H; exact H
      clear H
      have H := H1
      clear H1
      exact absurd H (by simp)
  · replace c7 := Bool.eq_false_iff.mpr c7
    subst c7
    have H1 : (none) = some r := by rw [if_neg (show ¬ (false = true) by decide)] at H; exact H
    clear H
    have H := H1
    clear H1
    exact absurd H (by simp)

end Go.Proofs.YtmpgknemhmoboaaDoor.Q08w
