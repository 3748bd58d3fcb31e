import Derived.Test.YtjkbgcdhhiakmaaX04w
/- Plain: the bytes that the document writes for a time. -/
namespace Go.Proofs.Ytjkbgcdhhiakmaa.P04
set_option linter.unusedSimpArgs false
open Go.RowKit Go.Proofs.YtjkbgcdhhiakmaaW.PrintWords Go.Proofs.YtjkbgcdhhiakmaaW.PrintLast Go.Proofs.YtjkbgcdhhiakmaaW.PrintMore Go.Proofs.Ytjkbgcdhhiakmaa.Q04b Go.Proofs.Ytjkbgcdhhiakmaa.Pl Go.Proofs.Ytjkbgcdhhiakmaa.Ext

theorem refNum_f (v : Int) (h0 : 0 ≤ v) (h1 : v < 18446744073709551616) : watershedref02_Num.f v = some (nb v) := if_pos ⟨h0, h1⟩
theorem refWrite_f (k : Nat) (e d a b c : Int) (he : 0 ≤ e) (ha : 0 ≤ a) (hb : 0 ≤ b) (hc : 0 ≤ c) : watershedref04_Write.f (k + 12) e d a b c = some (writeF e d a b c) := by
  unfold watershedref04_Write.f writeF
  rw [refCheck_f]
  by_cases h : chk e d a b c = 0
  · have hk := chk_ok h
    have we : IntKind.u64.wrap e = e := (IntKind.wrap_u64 _).trans (by omega)
    have wa : IntKind.u64.wrap a = a := (IntKind.wrap_u64 _).trans (by omega)
    have wb : IntKind.u64.wrap b = b := (IntKind.wrap_u64 _).trans (by omega)
    have wc : IntKind.u64.wrap c = c := (IntKind.wrap_u64 _).trans (by omega)
    have wz : ∀ n : Int, 0 ≤ n → n ≤ 3 → IntKind.u64.wrap n = n := fun n h0 h1 => (IntKind.wrap_u64 _).trans (by omega)
    have se := nb_size e
    have sa := nb_size a
    have sb := nb_size b
    have sc := nb_size c
    have ne := refNum_f e (by omega) (by omega)
    have na := refNum_f a (by omega) (by omega)
    have nb_ := refNum_f b (by omega) (by omega)
    have nc := refNum_f c (by omega) (by omega)
    have n0 := refNum_f 0 (by omega) (by omega)
    have n1 := refNum_f 1 (by omega) (by omega)
    have n2 := refNum_f 2 (by omega) (by omega)
    have n3 := refNum_f 3 (by omega) (by omega)
    have s0 := nb_size 0
    have s1 := nb_size 1
    have s2 := nb_size 2
    have s3 := nb_size 3
    have hd : d = 0 ∨ d = 1 ∨ d = 2 ∨ d = 3 := by omega
    rcases hd with rfl | rfl | rfl | rfl
    all_goals
      simp only [h, ne_eq, not_true_eq_false, if_false, if_true, Option.bind_some, we, wz 0 (by omega) (by omega), wz 1 (by omega) (by omega), wz 2 (by omega) (by omega), wz 3 (by omega) (by omega), n0, n1, n2, n3, ne]
      rw [if_pos (by omega)]
      simp [watershedref04_Write.l0, wa, wb, wc, na, nb_, nc, w11, w22, w33, w01, w12, w23]
    all_goals
      repeat' split
      all_goals first | rfl | omega | (exfalso; omega)
  · simp [h]
end Go.Proofs.Ytjkbgcdhhiakmaa.P04
