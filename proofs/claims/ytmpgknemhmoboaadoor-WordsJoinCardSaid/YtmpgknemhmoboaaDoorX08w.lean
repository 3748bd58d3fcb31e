import Derived.Test.YtmpgknemhmoboaaDoorQ08wx
/- The contracts of the printed group Q08w under names of their own (laid by wip/aliases.py). -/
namespace Go.Proofs.YtmpgknemhmoboaaDoor.Ext
open Go.RowKit Go.Proofs.YtmpgknemhmoboaaDoorW.PrintWords Go.Proofs.YtmpgknemhmoboaaDoorW.PrintLast Go.Proofs.YtmpgknemhmoboaaDoorW.PrintMore
set_option linter.unusedVariables false
def words_digit.f (a0 : Int) : Option (Bool) := Q08w.words_digit.f a0
theorem words_digit.calls (a0 : Int) (r : Bool) (w : World) (h : words_digit.f a0 = some r) :
    Calls Tryd.prog 20 #[.int .u8 a0] w fun e w' => e = .returned (.bool r) ∧ Drawn0 w w' :=
  Q08w.words_digit.calls a0 r w h
def stringslite_CutPrefix.f (a0 : ByteArray) (a1 : ByteArray) : Option (ByteArray × Bool) := Q08w.stringslite_CutPrefix.f a0 a1
theorem stringslite_CutPrefix.calls (a0 : ByteArray) (a1 : ByteArray) (r1 : ByteArray) (r2 : Bool) (w : World) (h : stringslite_CutPrefix.f a0 a1 = some (r1, r2)) :
    Calls Tryd.prog 28 #[.string a0, .string a1] w fun e w' => e = .returned (.tuple #[.string r1, .bool r2]) ∧ Drawn0 w w' :=
  Q08w.stringslite_CutPrefix.calls a0 a1 r1 r2 w h
def strings_CutPrefix.f (a0 : ByteArray) (a1 : ByteArray) : Option (ByteArray × Bool) := Q08w.strings_CutPrefix.f a0 a1
theorem strings_CutPrefix.calls (a0 : ByteArray) (a1 : ByteArray) (r1 : ByteArray) (r2 : Bool) (w : World) (h : strings_CutPrefix.f a0 a1 = some (r1, r2)) :
    Calls Tryd.prog 23 #[.string a0, .string a1] w fun e w' => e = .returned (.tuple #[.string r1, .bool r2]) ∧ Drawn0 w w' :=
  Q08w.strings_CutPrefix.calls a0 a1 r1 r2 w h
def words_natural.f (a0 : ByteArray) (a1 : Int) : Option (Int × Bool) := Q08w.words_natural.f 10000 a0 a1
theorem words_natural.calls (a0 : ByteArray) (a1 : Int) (r1 : Int) (r2 : Bool) (w : World) (h : words_natural.f a0 a1 = some (r1, r2)) :
    Calls Tryd.prog 24 #[.string a0, .int .u64 a1] w fun e w' => e = .returned (.tuple #[.int .u64 r1, .bool r2]) ∧ Drawn0 w w' :=
  Q08w.words_natural.calls 10000 a0 a1 r1 r2 w h
def words_Signed.f (a0 : ByteArray) : Option (Int × Int) := Q08w.words_Signed.f 10000 a0
theorem words_Signed.calls (a0 : ByteArray) (r1 : Int) (r2 : Int) (w : World) (h : words_Signed.f a0 = some (r1, r2)) :
    Calls Tryd.prog 14 #[.string a0] w fun e w' => e = .returned (.tuple #[.int .i64 r1, .int .i64 r2]) ∧ Drawn0 w w' :=
  Q08w.words_Signed.calls 10000 a0 r1 r2 w h
def words_Int.f (a0 : ByteArray) (a1 : Int) (a2 : Int) : Option (Int × Int) := Q08w.words_Int.f 10000 a0 a1 a2
theorem words_Int.calls (a0 : ByteArray) (a1 : Int) (a2 : Int) (r1 : Int) (r2 : Int) (w : World) (h : words_Int.f a0 a1 a2 = some (r1, r2)) :
    Calls Tryd.prog 21 #[.string a0, .int .i64 a1, .int .i64 a2] w fun e w' => e = .returned (.tuple #[.int .i64 r1, .int .i64 r2]) ∧ Drawn0 w w' :=
  Q08w.words_Int.calls 10000 a0 a1 a2 r1 r2 w h
def watershedlaw08_works.f  : Option (Bool) := Q08w.watershedlaw08_works.f 10000
theorem watershedlaw08_works.calls  (r : Bool) (w : World) (h : watershedlaw08_works.f  = some r) (HV : Aside0 (VARS w) := by first | exact HV | exact ⟨Ext.vars_below HV.out (by repeat (first | (with_reducible first | exact HB.out | apply below_alloc | apply pw_below_drewN | apply below_drew1 | refine below_set ?_ (Aside0.out (by assumption))) | exact HB.out))⟩) :
    Calls Tryd.prog 13 #[] w fun e w' => e = .returned (.bool r) ∧ Below w.heap.size w w' :=
  Q08w.watershedlaw08_works.calls 10000 r w h HV
end Go.Proofs.YtmpgknemhmoboaaDoor.Ext
