import Derived.Test.YtogainbkidgkhaaP12F
import Derived.Test.YtogainbkidgkhaaX12a
import Derived.Test.YtogainbkidgkhaaQ12Px3
/- Plain: works() of chapter 12, and the law OperParts. -/
namespace Go.Proofs.Ytogainbkidgkhaa.P12P
set_option linter.unusedSimpArgs false
set_option linter.unusedVariables false
open Go.RowKit Go.Proofs.YtogainbkidgkhaaW.PrintWords Go.Proofs.YtogainbkidgkhaaW.PrintLast Go.Proofs.YtogainbkidgkhaaW.PrintMore Go.Proofs.Ytogainbkidgkhaa.Q12f F12 P12F
abbrev R := S25
theorem fold_w : Ext.oper_Fold.f 11 [(⟨1, 2⟩ : R), (⟨2, 5⟩ : R), (⟨1, 3⟩ : R)] = some ([⟨1, 5⟩, ⟨2, 5⟩], 0) := by
  rw [Fold_f 11 _ (by decide) (by decide +kernel), if_pos (by omega)]
  have hK : keysOf [(⟨1, 2⟩ : R), (⟨2, 5⟩ : R), (⟨1, 3⟩ : R)] = [1, 2] := keysOf_eq (by unfold SrtI; simp) (by intro x; simp; omega)
  unfold foldsF
  rw [hK]
  have h1 : foldV 11 (valsOf 1 [(⟨1, 2⟩ : R), (⟨2, 5⟩ : R), (⟨1, 3⟩ : R)]) = 5 := by decide +kernel
  have h2 : foldV 11 (valsOf 2 [(⟨1, 2⟩ : R), (⟨2, 5⟩ : R), (⟨1, 3⟩ : R)]) = 5 := by decide +kernel
  simp only [List.map_cons, List.map_nil, h1, h2]
theorem fold_w2 : Ext.oper_Fold.f 3 ([] : List R) = some ([], 70) := by
  rw [Fold_f 3 _ (by decide) (by decide +kernel), if_neg (by omega)]
theorem text_w : Q12P.data_Text.f 1000 [(⟨1, 5⟩ : R), (⟨2, 5⟩ : R)] = some ⟨#[49, 58, 53, 44, 50, 58, 53]⟩ := by decide +kernel
theorem one_f (nm : ByteArray) (kd c d a b : Int) (x : R) : Ext.oper_One.f nm kd c d a b x.f0 x.f1 = some (P12.oneF kd a b x) := by
  unfold Ext.oper_One.f
  exact P12.One_f 199995 nm kd c d a b x
theorem works_f : Q12P.watershedlaw12_works.f 1000 = some true := by
  unfold Q12P.watershedlaw12_works.f
  rw [fold_w, Option.bind_some, fold_w2, Option.bind_some]
  rw [show Ext.oper_One.f (⟨#[]⟩ : ByteArray) 3 0 0 2 1 7 3 = some (7, 7, true) from (one_f _ 3 0 0 2 1 ⟨7, 3⟩).trans (by decide +kernel), Option.bind_some]
  rw [show Ext.oper_One.f (⟨#[]⟩ : ByteArray) 4 0 0 5 1 0 (-4) = some (0, -4, true) from (one_f _ 4 0 0 5 1 ⟨0, -4⟩).trans (by decide +kernel), Option.bind_some]
  rw [show Ext.oper_One.f (⟨#[]⟩ : ByteArray) 4 0 0 5 1 0 4 = some (0, 0, false) from (one_f _ 4 0 0 5 1 ⟨0, 4⟩).trans (by decide +kernel), Option.bind_some]
  simp only [if_true]
  rw [text_w, Option.bind_some]
  decide +kernel
theorem each_f (nm : ByteArray) (kd c d a b : Int) (l : List R) (hl : l.length ≤ 100000) : Ext.oper_Each.f nm kd c d a b l = some (P12.eachF kd a b l) := by
  unfold Ext.oper_Each.f
  exact P12.Each_f 200000 nm kd c d a b l (by omega) (by omega)
theorem alike_f (l : List R) (hl : l.length ≤ 100000) : Ext.watershedref11_Alike.f l l = some true := by
  unfold Ext.watershedref11_Alike.f
  exact P12.Alike_f 200000 l (by omega) (by omega)
theorem own_f (l : List R) (hl : l.length ≤ 100000) : Ext.watershedlaw12_own.f l = some l := by
  unfold Ext.watershedlaw12_own.f
  exact P12.own_f l (by omega)
theorem to_f (nm : ByteArray) (kd c d a b : Int) : Ext.watershedlaw12_To.f nm kd c d a b = some (nm, kd, c, d, a, b) := by
  unfold Ext.watershedlaw12_To.f
  exact P12.To_f nm kd c d a b
theorem OperParts_f (nm : ByteArray) (kd c d a b : Int) (l m : List R) : Q12P.watershedlaw12_OperParts.f 1000 nm kd c d a b l m = some true := by
  unfold Q12P.watershedlaw12_OperParts.f
  rw [works_f, Option.bind_some, if_pos rfl]
  by_cases h1 : (l.length : Int) > 300
  · rw [if_pos h1]
    rw [show (1000 : Nat) = 999 + 1 from rfl, Q12P.watershedlaw12_OperParts.j0]
    rw [if_pos rfl]
  · rw [if_neg h1]
    by_cases h2 : (m.length : Int) > 300
    · rw [decide_eq_true h2]
      rw [show (1000 : Nat) = 999 + 1 from rfl, Q12P.watershedlaw12_OperParts.j0]
      rw [if_pos rfl]
    · rw [decide_eq_false h2]
      have e1 := P12.eachF_length kd a b l
      have e2 := P12.eachF_length kd a b m
      rw [show (1000 : Nat) = 999 + 1 from rfl, Q12P.watershedlaw12_OperParts.j0]
      rw [if_neg (by simp)]
      have g0 := own_f l (by omega)
      have g1 := own_f m (by omega)
      have g2 := each_f nm kd c d a b (l ++ m) (by simp; omega)
      have g3 := each_f nm kd c d a b l (by omega)
      have g4 := each_f nm kd c d a b m (by omega)
      have g5 := alike_f (P12.eachF kd a b (l ++ m)) (by rw [P12.eachF_append, List.length_append]; omega)
      simp only [to_f, Option.bind_some, g0, g1, g2, g3, g4]
      rw [if_pos (by omega), if_pos (by omega), ← P12.eachF_append, g5, Option.bind_some, if_pos rfl]
      congr 1
      rw [P12.eachF_append, List.length_append, Pl.w64 (by omega) (by omega)]
      exact decide_eq_true (by omega)
end Go.Proofs.Ytogainbkidgkhaa.P12P
