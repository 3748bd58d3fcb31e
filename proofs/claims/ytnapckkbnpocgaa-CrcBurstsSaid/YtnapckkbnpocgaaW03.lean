import Derived.Test.YtnapckkbnpocgaaC03b
import Derived.Lib.Strings
/- What is sealed is opened as it was; and the statements' own example of chapter 3 comes out as it must. -/
namespace Go.Proofs.Ytnapckkbnpocgaa.C03
set_option linter.unusedSimpArgs false
open Go.RowKit Go.Proofs.YtnapckkbnpocgaaW.PrintWords Go.Proofs.YtnapckkbnpocgaaW.PrintLast Go.Proofs.YtnapckkbnpocgaaW.PrintMore Go.Proofs.Ytnapckkbnpocgaa.M03 Go.Proofs.Ytnapckkbnpocgaa.Base

theorem ext_left (a b : ByteArray) : (a ++ b).extract 0 a.size = a := by
  apply ByteArray.ext
  simp [ByteArray.data_extract, ByteArray.data_append]
theorem ext_right (a b : ByteArray) : (a ++ b).extract a.size (a ++ b).size = b := by
  apply ByteArray.ext
  apply Array.toList_inj.1
  have ha : a.data.toList.length = a.size := by rw [Array.length_toList]; rfl
  have hb : b.data.toList.length = b.size := by rw [Array.length_toList]; rfl
  rw [Lib.extract_data, ByteArray.data_append, Array.toList_append, ← ha, List.drop_left, ByteArray.size_append, ha, Nat.add_sub_cancel_left, ← hb, List.take_length]
theorem sealed_size (s : ByteArray) : (sealed s).size = s.size + 4 := by
  unfold sealed
  rw [ByteArray.size_append, sumBytes_size]
  omega
theorem sealed_right (s : ByteArray) : (sealed s).extract 4 (sealed s).size = s := by
  have := ext_right (strOfNums (sumBytes (sumOf (bytesOf s)))) s
  rw [sumBytes_size] at this
  exact this
theorem sealed_left (s : ByteArray) : (sealed s).extract 0 4 = strOfNums (sumBytes (sumOf (bytesOf s))) := by
  have := ext_left (strOfNums (sumBytes (sumOf (bytesOf s)))) s
  rw [sumBytes_size] at this
  exact this
theorem opens_sealed (s : ByteArray) : opens (sealed s) = true := by
  unfold opens
  rw [sealed_right, sealed_left, decide_eq_true (by rw [sealed_size]; omega)]
  simp
theorem opened_sealed (s : ByteArray) : opened (sealed s) = s := by
  unfold opened
  rw [opens_sealed, if_pos rfl, sealed_right]

set_option maxHeartbeats 1000000 in
theorem works (w : World) : Calls Try.prog 26 #[] w fun en w' => en = .returned (.bool true) ∧ Below w.heap.size w w' := by
  have HB := Aside0.mk (Below.refl w.heap.size w)
  have h1 : ((sumOf (bytesOf ⟨#[49, 50, 51, 52, 53, 54, 55, 56, 57]⟩)).toNat : Int) = 3808858755 := by decide +kernel
  have h0 : ((sumOf (bytesOf ⟨#[]⟩)).toNat : Int) = 0 := by decide +kernel
  have h3 : opens ⟨#[97, 98, 99]⟩ = false := by decide +kernel
  have hz : (sealed ⟨#[97]⟩).size ≤ 140737488351232 := by rw [sealed_size]; decide
  have HZ := Aside0.mk hz
  have H3 := Aside0.mk h3
  have H0 := Aside0.mk h0
  have H1 := Aside0.mk h1
  clear hz h3 h0 h1
  go_enter Try.func26, Try.ntmps26
  go_wp2_with fail
  refine (crc_Seal _ _ (by decide)).mono ?_
  rintro e w1 ⟨rfl, hb⟩
  replace HB := Aside0.mk (below_step HB.out hb)
  clear hb
  go_wp2_with fail
  refine (crc_Open _ _ HZ.out).mono ?_
  rintro e w2 ⟨rfl, hb⟩
  rw [opens_sealed, opened_sealed]
  replace HB := Aside0.mk (below_step HB.out hb)
  clear hb
  go_wp2_with fail
  refine (crc_Open _ _ (by decide)).mono ?_
  rintro e w3 ⟨rfl, hb⟩
  rw [H3.out]
  replace HB := Aside0.mk (below_step HB.out hb)
  clear hb
  go_wp2_with fail
  refine (crc_Sum _ _ (by decide)).mono ?_
  rintro e w4 ⟨rfl, rfl⟩
  rw [H0.out]
  go_wp2_with fail
  refine (crc_Sum _ _ (by decide)).mono ?_
  rintro e w4 ⟨rfl, rfl⟩
  rw [H1.out]
  go_wp2
  go_ret
  exact ⟨by first | rfl | (simp; done), HB.out⟩
end Go.Proofs.Ytnapckkbnpocgaa.C03
