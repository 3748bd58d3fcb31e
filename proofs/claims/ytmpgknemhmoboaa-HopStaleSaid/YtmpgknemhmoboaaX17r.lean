import Derived.Test.YtmpgknemhmoboaaX17
import Derived.Test.YtmpgknemhmoboaaC02S
/- Contracts of the document's answer for frames, and of what a frame is, in the form that the printed texts call. -/
namespace Go.Proofs.Ytmpgknemhmoboaa.Ext
set_option linter.unusedSimpArgs false
open Go.RowKit Go.Proofs.YtmpgknemhmoboaaW.PrintWords Go.Proofs.YtmpgknemhmoboaaW.PrintLast Go.Proofs.YtmpgknemhmoboaaW.PrintMore Go.Proofs.Ytmpgknemhmoboaa.Base Go.Proofs.Ytmpgknemhmoboaa.M02 Go.Proofs.Ytmpgknemhmoboaa.C03 Go.Proofs.Ytmpgknemhmoboaa.Q17a

def hop_right.f (k fl ep n : Int) (s : ByteArray) : Option Bool := some (rightB k fl ep n s)
theorem hop_right.calls (a0_0 a0_1 a0_2 a0_3 : Int) (a0_4 : ByteArray) (r : Bool) (w : World) (h : hop_right.f a0_0 a0_1 a0_2 a0_3 a0_4 = some r) :
    Calls Try.prog 49 #[.agg #[.int .i64 a0_0, .int .i64 a0_1, .int .i64 a0_2, .int .i64 a0_3, .string a0_4]] w fun e w' => e = .returned (.bool r) ∧ Below w.heap.size w w' := by
  obtain rfl := Option.some.inj h
  exact hop_Frame_right.calls 1 _ _ _ _ _ _ w (right_f _ _ _ _ _)
theorem epoch_f (x : Int) : watershedref17_epoch.f x = some (decide (1 ≤ x ∧ x ≤ 1073741824)) := by
  unfold watershedref17_epoch.f
  by_cases h : x ≥ 1
  · rw [if_pos h]; simp [h]
  · rw [if_neg h, decide_eq_false (by omega)]
theorem refNum_f (v : Int) (h0 : 0 ≤ v) (h1 : v < 18446744073709551616) : watershedref02_Num.f v = some (nb v) := if_pos ⟨h0, h1⟩
theorem refWrite_j1 (k fl ep n : Int) (s : ByteArray) (hs : s.size ≤ 140737488351232) (m : Nat) (hr : rightB k fl ep n s = true) : watershedref17_Write.j1 (m + 1) false k fl ep n s = some (writeF k fl ep n s) := by
  have hg := right_range hr
  have z0 := nb_size k
  have z1 := nb_size fl
  have z2 := nb_size ep
  have z3 := nb_size n
  unfold writeF
  rw [hr, if_pos rfl, watershedref17_Write.j1, if_neg (by simp)]
  by_cases c : s.size > 6000
  · rw [if_pos c, if_pos (by omega)]
  · rw [if_neg c, if_neg (by omega)]
    have u0 : IntKind.u64.wrap k = k := (IntKind.wrap_u64 _).trans (by omega)
    have u1 : IntKind.u64.wrap fl = fl := (IntKind.wrap_u64 _).trans (by omega)
    have u2 : IntKind.u64.wrap ep = ep := (IntKind.wrap_u64 _).trans (by omega)
    have u3 : IntKind.u64.wrap n = n := (IntKind.wrap_u64 _).trans (by omega)
    rw [u0, u1, u2, u3, refNum_f k (by omega) (by omega), refNum_f fl (by omega) (by omega), refNum_f ep (by omega) (by omega), refNum_f n (by omega) (by omega)]
    simp only [Option.bind_some]
    rw [if_pos (by omega), if_pos (by simp only [ByteArray.size_append]; omega), if_pos (by simp only [ByteArray.size_append]; omega), if_pos (by simp only [ByteArray.size_append]; omega), watershedref03_Seal_f _ (by simp only [ByteArray.size_append]; omega)]
    rfl
theorem refWrite_bad (k fl ep n : Int) (s : ByteArray) (m : Nat) (hr : rightB k fl ep n s = false) : watershedref17_Write.j1 (m + 1) true k fl ep n s = some (writeF k fl ep n s) := by
  unfold writeF
  rw [hr, watershedref17_Write.j1, if_pos rfl]
  rfl
theorem refWrite_j0 (k fl ep n : Int) (s : ByteArray) (hs : s.size ≤ 140737488351232) (m : Nat) (b : Bool) (hb : b = decide (0 ≤ fl ∧ fl ≤ 1000 ∧ 1 ≤ ep ∧ ep ≤ 1073741824 ∧ 0 ≤ n ∧ n ≤ 1099511627776)) : watershedref17_Write.j0 (m + 2) b k fl ep n s = some (writeF k fl ep n s) := by
  rw [watershedref17_Write.j0]
  have e : (s.toList != ([] : List UInt8)) = !decide (bytesOf s = []) := by
    rw [bne]
    congr 1
    rw [Bool.eq_iff_iff, beq_iff_eq, decide_eq_true_eq]
    exact Pl.toList_nil
  by_cases c : 0 ≤ fl ∧ fl ≤ 1000 ∧ 1 ≤ ep ∧ ep ≤ 1073741824 ∧ 0 ≤ n ∧ n ≤ 1099511627776
  · rw [hb, decide_eq_true c, if_pos rfl]
    have hR : rightB k fl ep n s = (decide (k = 1 ∧ 1 ≤ n ∧ n ≤ 1099511627776) || decide (k = 2 ∧ 0 ≤ n ∧ n ≤ 1099511627776 ∧ bytesOf s = [])) := by
      unfold rightB
      rw [decide_eq_true (by omega), decide_eq_true (by omega)]
      rfl
    by_cases c1 : k = 1
    · rw [if_pos c1]
      by_cases c2 : n = 0
      · rw [if_pos c2]
        refine refWrite_bad _ _ _ _ _ _ ?_
        rw [hR]; simp [c1, c2]
      · rw [if_neg c2, if_neg (by omega)]
        refine refWrite_j1 _ _ _ _ _ hs _ ?_
        rw [hR]; simp [c1]; omega
    · rw [if_neg c1]
      by_cases c3 : k = 2
      · rw [if_pos c3, e]
        by_cases c4 : bytesOf s = []
        · rw [decide_eq_true c4]
          refine refWrite_j1 _ _ _ _ _ hs _ ?_
          rw [hR]; simp [c3, c4]; omega
        · rw [decide_eq_false c4]
          refine refWrite_bad _ _ _ _ _ _ ?_
          rw [hR]; simp [c3, c4]
      · rw [if_neg c3]
        refine refWrite_bad _ _ _ _ _ _ ?_
        rw [hR]; simp [c1, c3]
  · rw [hb, decide_eq_false c, if_neg (by simp)]
    refine refWrite_bad _ _ _ _ _ _ ?_
    unfold rightB
    simp
    omega
theorem refWrite_f (k fl ep n : Int) (s : ByteArray) (hs : s.size ≤ 140737488351232) (m : Nat) : watershedref17_Write.f (m + 2) k fl ep n s = some (writeF k fl ep n s) := by
  unfold watershedref17_Write.f
  by_cases h1 : fl ≥ 0
  · rw [if_pos h1]
    by_cases h2 : fl ≤ 1000
    · rw [if_pos h2, epoch_f, Option.bind_some]
      by_cases h3 : 1 ≤ ep ∧ ep ≤ 1073741824
      · rw [decide_eq_true h3, if_pos rfl]
        by_cases h4 : n ≥ 0
        · rw [if_pos h4]
          exact refWrite_j0 _ _ _ _ _ hs _ _ (decide_eq_decide.2 (by omega))
        · rw [if_neg h4]
          exact refWrite_j0 _ _ _ _ _ hs _ _ (decide_eq_false (by omega)).symm
      · rw [decide_eq_false h3, if_neg (by simp)]
        exact refWrite_j0 _ _ _ _ _ hs _ _ (decide_eq_false (by omega)).symm
    · rw [if_neg h2]
      exact refWrite_j0 _ _ _ _ _ hs _ _ (decide_eq_false (by omega)).symm
  · rw [if_neg h1]
    exact refWrite_j0 _ _ _ _ _ hs _ _ (decide_eq_false (by omega)).symm
def ref17_Write.f (k fl ep n : Int) (s : ByteArray) : Option (ByteArray × Int) := if s.size ≤ 140737488351232 then some (writeF k fl ep n s) else none
theorem ref17_Write.calls (a0_0 a0_1 a0_2 a0_3 : Int) (a0_4 : ByteArray) (r1 : ByteArray) (r2 : Int) (w : World) (h : ref17_Write.f a0_0 a0_1 a0_2 a0_3 a0_4 = some (r1, r2)) :
    Calls Try.prog 39 #[.agg #[.int .i64 a0_0, .int .i64 a0_1, .int .i64 a0_2, .int .i64 a0_3, .string a0_4]] w fun e w' => e = .returned (.tuple #[.string r1, .int .i64 r2]) ∧ Below w.heap.size w w' := by
  unfold ref17_Write.f at h
  split at h
  · rename_i hc
    exact watershedref17_Write.calls 2 _ _ _ _ _ _ _ w ((refWrite_f _ _ _ _ _ hc 0).trans h)
  · cases h
end Go.Proofs.Ytmpgknemhmoboaa.Ext
