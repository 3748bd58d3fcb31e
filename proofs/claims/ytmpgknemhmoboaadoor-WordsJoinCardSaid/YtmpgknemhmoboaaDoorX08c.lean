import Derived.Test.YtmpgknemhmoboaaDoorQ08cx
/- The contracts of the printed group Q08c under names of their own (laid by wip/aliases.py). -/
namespace Go.Proofs.YtmpgknemhmoboaaDoor.Ext
open Go.RowKit Go.Proofs.YtmpgknemhmoboaaDoorW.PrintWords Go.Proofs.YtmpgknemhmoboaaDoorW.PrintLast Go.Proofs.YtmpgknemhmoboaaDoorW.PrintMore
set_option linter.unusedVariables false
def watershedref08_Same.f (l0 : List ByteArray) (l1 : List ByteArray) : Option (Bool) := Q08c.watershedref08_Same.f 200000 l0 l1
theorem watershedref08_Same.calls (A0 : Option Addr) (c0 : Nat) (l0 : List ByteArray) (A1 : Option Addr) (c1 : Nat) (l1 : List ByteArray) (r : Bool) (w : World) (hr0 : Kd.C Kd.string w A0 l0.length l0) (hc0 : l0.length ≤ c0) (hr1 : Kd.C Kd.string w A1 l1.length l1) (hc1 : l1.length ≤ c1) (h : watershedref08_Same.f l0 l1 = some r) :
    Calls Tryd.prog 6 #[.slice A0 l0.length c0, .slice A1 l1.length c1] w fun e w' => e = .returned (.bool r) ∧ Drawn0 w w' :=
  Q08c.watershedref08_Same.calls 200000 A0 c0 l0 A1 c1 l1 r w hr0 hc0 hr1 hc1 h
def stringslite_HasSuffix.f (a0 : ByteArray) (a1 : ByteArray) : Option (Bool) := Q08c.stringslite_HasSuffix.f a0 a1
theorem stringslite_HasSuffix.calls (a0 : ByteArray) (a1 : ByteArray) (r : Bool) (w : World) (h : stringslite_HasSuffix.f a0 a1 = some r) :
    Calls Tryd.prog 32 #[.string a0, .string a1] w fun e w' => e = .returned (.bool r) ∧ Drawn0 w w' :=
  Q08c.stringslite_HasSuffix.calls a0 a1 r w h
def stringslite_TrimSuffix.f (a0 : ByteArray) (a1 : ByteArray) : Option (ByteArray) := Q08c.stringslite_TrimSuffix.f a0 a1
theorem stringslite_TrimSuffix.calls (a0 : ByteArray) (a1 : ByteArray) (r : ByteArray) (w : World) (h : stringslite_TrimSuffix.f a0 a1 = some r) :
    Calls Tryd.prog 26 #[.string a0, .string a1] w fun e w' => e = .returned (.string r) ∧ Drawn0 w w' :=
  Q08c.stringslite_TrimSuffix.calls a0 a1 r w h
def strings_TrimSuffix.f (a0 : ByteArray) (a1 : ByteArray) : Option (ByteArray) := Q08c.strings_TrimSuffix.f a0 a1
theorem strings_TrimSuffix.calls (a0 : ByteArray) (a1 : ByteArray) (r : ByteArray) (w : World) (h : strings_TrimSuffix.f a0 a1 = some r) :
    Calls Tryd.prog 17 #[.string a0, .string a1] w fun e w' => e = .returned (.string r) ∧ Drawn0 w w' :=
  Q08c.strings_TrimSuffix.calls a0 a1 r w h
def words_Lines.f (a0 : ByteArray) : Option (List ByteArray) := Q08c.words_Lines.f a0
theorem words_Lines.calls (a0 : ByteArray) (r : List ByteArray) (w : World) (h : words_Lines.f a0 = some r) (HV : Aside0 (VARS w) := by first | exact HV | exact ⟨Ext.vars_below HV.out (by repeat (first | (with_reducible first | exact HB.out | apply below_alloc | apply pw_below_drewN | apply below_drew1 | refine below_set ?_ (Aside0.out (by assumption))) | exact HB.out))⟩) :
    Calls Tryd.prog 7 #[.string a0] w fun e w' => ∃ v0_ : Value, e = .returned (v0_) ∧ Kd.R Kd.string 9 w' w.heap.size (fun _ => True) v0_ r ∧ Below w.heap.size w w' :=
  Q08c.words_Lines.calls a0 r w h HV
def watershedref08_Lines.f (a0 : ByteArray) : Option (List ByteArray) := Q08c.watershedref08_Lines.f 200000 a0
theorem watershedref08_Lines.calls (a0 : ByteArray) (r : List ByteArray) (w : World) (h : watershedref08_Lines.f a0 = some r) :
    Calls Tryd.prog 8 #[.string a0] w fun e w' => ∃ v0_ : Value, e = .returned (v0_) ∧ Kd.R Kd.string 9 w' w.heap.size (fun _ => True) v0_ r ∧ Below w.heap.size w w' :=
  Q08c.watershedref08_Lines.calls 200000 a0 r w h
def stringslite_HasPrefix.f (a0 : ByteArray) (a1 : ByteArray) : Option (Bool) := Q08c.stringslite_HasPrefix.f a0 a1
theorem stringslite_HasPrefix.calls (a0 : ByteArray) (a1 : ByteArray) (r : Bool) (w : World) (h : stringslite_HasPrefix.f a0 a1 = some r) :
    Calls Tryd.prog 27 #[.string a0, .string a1] w fun e w' => e = .returned (.bool r) ∧ Drawn0 w w' :=
  Q08c.stringslite_HasPrefix.calls a0 a1 r w h
def strings_HasPrefix.f (a0 : ByteArray) (a1 : ByteArray) : Option (Bool) := Q08c.strings_HasPrefix.f a0 a1
theorem strings_HasPrefix.calls (a0 : ByteArray) (a1 : ByteArray) (r : Bool) (w : World) (h : strings_HasPrefix.f a0 a1 = some r) :
    Calls Tryd.prog 18 #[.string a0, .string a1] w fun e w' => e = .returned (.bool r) ∧ Drawn0 w w' :=
  Q08c.strings_HasPrefix.calls a0 a1 r w h
def words_Split.f (a0 : ByteArray) : Option (List ByteArray) := Q08c.words_Split.f 200000 a0
theorem words_Split.calls (a0 : ByteArray) (r : List ByteArray) (w : World) (h : words_Split.f a0 = some r) (HV : Aside0 (VARS w) := by first | exact HV | exact ⟨Ext.vars_below HV.out (by repeat (first | (with_reducible first | exact HB.out | apply below_alloc | apply pw_below_drewN | apply below_drew1 | refine below_set ?_ (Aside0.out (by assumption))) | exact HB.out))⟩) :
    Calls Tryd.prog 9 #[.string a0] w fun e w' => ∃ v0_ : Value, e = .returned (v0_) ∧ Kd.R Kd.string 9 w' w.heap.size (fun _ => True) v0_ r ∧ Below w.heap.size w w' :=
  Q08c.words_Split.calls 200000 a0 r w h HV
def watershedref08_Split.f (a0 : ByteArray) : Option (List ByteArray) := Q08c.watershedref08_Split.f 200000 a0
theorem watershedref08_Split.calls (a0 : ByteArray) (r : List ByteArray) (w : World) (h : watershedref08_Split.f a0 = some r) :
    Calls Tryd.prog 10 #[.string a0] w fun e w' => ∃ v0_ : Value, e = .returned (v0_) ∧ Kd.R Kd.string 9 w' w.heap.size (fun _ => True) v0_ r ∧ Below w.heap.size w w' :=
  Q08c.watershedref08_Split.calls 200000 a0 r w h
def watershedref08_Name.f (a0 : ByteArray) : Option (Bool) := Q08c.watershedref08_Name.f 200000 a0
theorem watershedref08_Name.calls (a0 : ByteArray) (r : Bool) (w : World) (h : watershedref08_Name.f a0 = some r) :
    Calls Tryd.prog 12 #[.string a0] w fun e w' => e = .returned (.bool r) ∧ Drawn0 w w' :=
  Q08c.watershedref08_Name.calls 200000 a0 r w h
def watershedlaw08_WordsCut.f (a0 : ByteArray) : Option (Bool) := Q08c.watershedlaw08_WordsCut.f 200000 a0
theorem watershedlaw08_WordsCut.calls (a0 : ByteArray) (r : Bool) (w : World) (h : watershedlaw08_WordsCut.f a0 = some r) (HV : Aside0 (VARS w) := by first | exact HV | exact ⟨Ext.vars_below HV.out (by repeat (first | (with_reducible first | exact HB.out | apply below_alloc | apply pw_below_drewN | apply below_drew1 | refine below_set ?_ (Aside0.out (by assumption))) | exact HB.out))⟩) :
    Calls Tryd.prog 3 #[.string a0] w fun e w' => e = .returned (.bool r) ∧ Below w.heap.size w w' :=
  Q08c.watershedlaw08_WordsCut.calls 200000 a0 r w h HV
end Go.Proofs.YtmpgknemhmoboaaDoor.Ext
