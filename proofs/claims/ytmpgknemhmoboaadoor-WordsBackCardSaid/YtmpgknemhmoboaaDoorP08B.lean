import Derived.Test.YtmpgknemhmoboaaDoorQ08Bx
import Derived.Test.YtmpgknemhmoboaaDoorP08w
/- Plain: the law WordsBack. -/
namespace Go.Proofs.YtmpgknemhmoboaaDoor.P08B
open Go.RowKit Go.Proofs.YtmpgknemhmoboaaDoorW.PrintWords Go.Proofs.YtmpgknemhmoboaaDoor.Q08B Go.Proofs.YtmpgknemhmoboaaDoor.Pl Go.Proofs.YtmpgknemhmoboaaDoor.M08 Go.Proofs.YtmpgknemhmoboaaDoor.Ext
theorem Signed_x (s : ByteArray) (hs : s.size ≤ 5000) : ∃ r, words_Signed.f s = some r ∧ Sg (bytesOf s) r := P08w.Signed_f s hs 10000 (by omega)
theorem WordsBack_pure (v : Int) (s : ByteArray) (h0 : -9223372036854775808 ≤ v) (h1 : v < 9223372036854775808) : watershedlaw08_WordsBack.f v s = some true := by
  unfold watershedlaw08_WordsBack.f
  rw [show watershedlaw08_works.f = some true from P08w.works_pure, Option.bind_some, if_pos rfl]
  by_cases h : (s.size : Int) > 5000
  · rw [if_pos h]
  · rw [if_neg h, words_Number_f v h0 h1, Option.bind_some]
    have hz : (strOfNums (txt v)).size ≤ 20 := by rw [strOfNums_sz]; exact txt_length h0 h1
    obtain ⟨r, r1, r2⟩ := Signed_x (strOfNums (txt v)) (by omega)
    rw [bytesOf_strOfNums _ (txt_range v)] at r2
    obtain rfl := Sg_fun r2 (Sg_txt h0 h1)
    obtain ⟨q, q1, q2⟩ := Signed_x s (by omega)
    rw [r1, q1]
    simp only [Option.bind_some, if_true]
    rcases q2 with ⟨m, m0, m1, m2, rfl⟩ | ⟨_, rfl⟩
    · rw [if_pos rfl, words_Number_f m m0 m1, Option.bind_some, if_pos (by rw [toList_bytes, bytesOf_strOfNums _ (txt_range m), m2])]
    · rfl
end Go.Proofs.YtmpgknemhmoboaaDoor.P08B
