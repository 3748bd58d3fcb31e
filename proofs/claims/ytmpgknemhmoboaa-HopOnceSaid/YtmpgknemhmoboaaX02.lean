import Derived.Test.YtmpgknemhmoboaaC02r
/- Contracts of package code and of the document's answer for it, in the form that the printed texts call: a number's bytes, the number at the front of bytes. -/
namespace Go.Proofs.Ytmpgknemhmoboaa.Ext
open Go.RowKit Go.Proofs.YtmpgknemhmoboaaW.PrintWords Go.Proofs.YtmpgknemhmoboaaW.PrintLast Go.Proofs.YtmpgknemhmoboaaW.PrintMore Go.Proofs.Ytmpgknemhmoboaa.M02

def code_Num.f (v : Int) : Option ByteArray := if 0 ≤ v ∧ v < 18446744073709551616 then some (strOfNums (leb 9 v)) else none
theorem code_Num_f (v : Int) (h0 : 0 ≤ v) (h1 : v < 18446744073709551616) : code_Num.f v = some (strOfNums (leb 9 v)) := if_pos ⟨h0, h1⟩
theorem code_Num.calls (a0 : Int) (r : ByteArray) (w : World) (h : code_Num.f a0 = some r) :
    Calls Try.prog 50 #[.int .u64 a0] w fun e w' => e = .returned (.string r) ∧ Below w.heap.size w w' := by
  unfold code_Num.f at h
  split at h
  · rename_i hc
    obtain rfl := Option.some.inj h
    exact C02.code_Num a0 w hc.1 hc.2
  · cases h
def watershedref02_Num.f (v : Int) : Option ByteArray := if 0 ≤ v ∧ v < 18446744073709551616 then some (strOfNums (leb 9 v)) else none
theorem watershedref02_Num_f (v : Int) (h0 : 0 ≤ v) (h1 : v < 18446744073709551616) : watershedref02_Num.f v = some (strOfNums (leb 9 v)) := if_pos ⟨h0, h1⟩
theorem watershedref02_Num.calls (a0 : Int) (r : ByteArray) (w : World) (h : watershedref02_Num.f a0 = some r) :
    Calls Try.prog 53 #[.int .u64 a0] w fun e w' => e = .returned (.string r) ∧ Below w.heap.size w w' := by
  unfold watershedref02_Num.f at h
  split at h
  · rename_i hc
    obtain rfl := Option.some.inj h
    exact C02.ref_Num a0 w hc.1 hc.2
  · cases h
def code_number.f (s : ByteArray) : Option (Int × Int × Int) := if s.size ≤ 9223372036854775807 then some (numL 0 0 (bytesOf s)) else none
theorem code_number_f (s : ByteArray) (h0 : s.size ≤ 9223372036854775807) : code_number.f s = some (numL 0 0 (bytesOf s)) := if_pos h0
theorem code_number.calls (a0 : ByteArray) (r1 r2 r3 : Int) (w : World) (h : code_number.f a0 = some (r1, r2, r3)) :
    Calls Try.prog 72 #[.string a0] w fun e w' => e = .returned (.tuple #[.int .u64 r1, .int .i64 r2, .int .i64 r3]) ∧ Below w.heap.size w w' := by
  unfold code_number.f at h
  split at h
  · rename_i hc
    have e := Option.some.inj h
    have := C02.code_number a0 w hc
    rw [e] at this
    exact this
  · cases h
end Go.Proofs.Ytmpgknemhmoboaa.Ext
