import Derived.Test.YtogainbkidgkhaaQ12fx
/- The contracts of the printed group Q12f under names of their own (laid by wip/aliases.py). -/
namespace Go.Proofs.Ytogainbkidgkhaa.Ext
open Go.RowKit Go.Proofs.YtogainbkidgkhaaW.PrintWords Go.Proofs.YtogainbkidgkhaaW.PrintLast Go.Proofs.YtogainbkidgkhaaW.PrintMore
open Go.Proofs.Ytogainbkidgkhaa.Q12f
set_option linter.unusedVariables false
def oper_fold.f (a0 : Int) (l1 : List Int) : Option (Int) := Q12f.oper_fold.f 200000 a0 l1
theorem oper_fold.calls (a0 : Int) (A1 : Option Addr) (c1 : Nat) (l1 : List Int) (r : Int) (w : World) (hr1 : Kd.C (Kd.int .i64) w A1 l1.length l1) (hc1 : l1.length ≤ c1) (h : oper_fold.f a0 l1 = some r) :
    Calls Try.prog 27 #[.int .i64 a0, .slice A1 l1.length c1] w fun e w' => e = .returned (.int .i64 r) ∧ Drawn0 w w' :=
  Q12f.oper_fold.calls 200000 a0 A1 c1 l1 r w hr1 hc1 h
def oper_Keeps.f (a0 : Int) : Option (Bool) := Q12f.oper_Keeps.f a0
theorem oper_Keeps.calls (a0 : Int) (r : Bool) (w : World) (h : oper_Keeps.f a0 = some r) :
    Calls Try.prog 11 #[.int .i64 a0] w fun e w' => e = .returned (.bool r) ∧ Drawn0 w w' :=
  Q12f.oper_Keeps.calls a0 r w h
def num_Floor.f (a0 : Int) (a1 : Int) : Option (Int × Int × Int) := Q12f.num_Floor.f a0 a1
theorem num_Floor.calls (a0 : Int) (a1 : Int) (r1 : Int) (r2 : Int) (r3 : Int) (w : World) (h : num_Floor.f a0 a1 = some (r1, r2, r3)) :
    Calls Try.prog 24 #[.int .i64 a0, .int .i64 a1] w fun e w' => e = .returned (.tuple #[.int .i64 r1, .int .i64 r2, .int .i64 r3]) ∧ Drawn0 w w' :=
  Q12f.num_Floor.calls a0 a1 r1 r2 r3 w h
def oper_One.f (a0_0 : ByteArray) (a0_1 : Int) (a0_2 : Int) (a0_3 : Int) (a0_4 : Int) (a0_5 : Int) (a1_0 : Int) (a1_1 : Int) : Option (Int × Int × Bool) := Q12f.oper_One.f 200000 a0_0 a0_1 a0_2 a0_3 a0_4 a0_5 a1_0 a1_1
theorem oper_One.calls (a0_0 : ByteArray) (a0_1 : Int) (a0_2 : Int) (a0_3 : Int) (a0_4 : Int) (a0_5 : Int) (a1_0 : Int) (a1_1 : Int) (r1 : Int) (r2 : Int) (r3 : Bool) (w : World) (h : oper_One.f a0_0 a0_1 a0_2 a0_3 a0_4 a0_5 a1_0 a1_1 = some (r1, r2, r3)) :
    Calls Try.prog 8 #[.agg #[.string a0_0, .int .i64 a0_1, .int .i64 a0_2, .int .i64 a0_3, .int .i64 a0_4, .int .i64 a0_5], .agg #[.int .i64 a1_0, .int .i64 a1_1]] w fun e w' => e = .returned (.tuple #[.agg #[.int .i64 r1, .int .i64 r2], .bool r3]) ∧ Below w.heap.size w w' :=
  Q12f.oper_One.calls 200000 a0_0 a0_1 a0_2 a0_3 a0_4 a0_5 a1_0 a1_1 r1 r2 r3 w h
def oper_Each.f (a0_0 : ByteArray) (a0_1 : Int) (a0_2 : Int) (a0_3 : Int) (a0_4 : Int) (a0_5 : Int) (l1 : List (S25)) : Option ((List (S25))) := Q12f.oper_Each.f 200000 a0_0 a0_1 a0_2 a0_3 a0_4 a0_5 l1
theorem oper_Each.calls (a0_0 : ByteArray) (a0_1 : Int) (a0_2 : Int) (a0_3 : Int) (a0_4 : Int) (a0_5 : Int) (A1 : Option Addr) (c1 : Nat) (l1 : List (S25)) (r : List (S25)) (w : World) (hr1 : Kd.C k25 w A1 l1.length l1) (hc1 : l1.length ≤ c1) (h : oper_Each.f a0_0 a0_1 a0_2 a0_3 a0_4 a0_5 l1 = some r) :
    Calls Try.prog 14 #[.agg #[.string a0_0, .int .i64 a0_1, .int .i64 a0_2, .int .i64 a0_3, .int .i64 a0_4, .int .i64 a0_5], .slice A1 l1.length c1] w fun e w' => ∃ v0_ : Value, e = .returned (v0_) ∧ Kd.R k25 25 w' w.heap.size (fun _ => True) v0_ r ∧ Below w.heap.size w w' :=
  Q12f.oper_Each.calls 200000 a0_0 a0_1 a0_2 a0_3 a0_4 a0_5 A1 c1 l1 r w hr1 hc1 h
def watershedref12_Keeps.f (a0 : Int) : Option (Bool) := Q12f.watershedref12_Keeps.f a0
theorem watershedref12_Keeps.calls (a0 : Int) (r : Bool) (w : World) (h : watershedref12_Keeps.f a0 = some r) :
    Calls Try.prog 12 #[.int .i64 a0] w fun e w' => e = .returned (.bool r) ∧ Drawn0 w w' :=
  Q12f.watershedref12_Keeps.calls a0 r w h
def watershedref01_Floor.f (a0 : Int) (a1 : Int) : Option (Int × Int × Int) := Q12f.watershedref01_Floor.f a0 a1
theorem watershedref01_Floor.calls (a0 : Int) (a1 : Int) (r1 : Int) (r2 : Int) (r3 : Int) (w : World) (h : watershedref01_Floor.f a0 a1 = some (r1, r2, r3)) :
    Calls Try.prog 25 #[.int .i64 a0, .int .i64 a1] w fun e w' => e = .returned (.tuple #[.int .i64 r1, .int .i64 r2, .int .i64 r3]) ∧ Drawn0 w w' :=
  Q12f.watershedref01_Floor.calls a0 a1 r1 r2 r3 w h
def watershedref12_One.f (a0_0 : ByteArray) (a0_1 : Int) (a0_2 : Int) (a0_3 : Int) (a0_4 : Int) (a0_5 : Int) (a1_0 : Int) (a1_1 : Int) : Option (Int × Int × Bool) := Q12f.watershedref12_One.f a0_0 a0_1 a0_2 a0_3 a0_4 a0_5 a1_0 a1_1
theorem watershedref12_One.calls (a0_0 : ByteArray) (a0_1 : Int) (a0_2 : Int) (a0_3 : Int) (a0_4 : Int) (a0_5 : Int) (a1_0 : Int) (a1_1 : Int) (r1 : Int) (r2 : Int) (r3 : Bool) (w : World) (h : watershedref12_One.f a0_0 a0_1 a0_2 a0_3 a0_4 a0_5 a1_0 a1_1 = some (r1, r2, r3)) :
    Calls Try.prog 10 #[.agg #[.string a0_0, .int .i64 a0_1, .int .i64 a0_2, .int .i64 a0_3, .int .i64 a0_4, .int .i64 a0_5], .agg #[.int .i64 a1_0, .int .i64 a1_1]] w fun e w' => e = .returned (.tuple #[.agg #[.int .i64 r1, .int .i64 r2], .bool r3]) ∧ Below w.heap.size w w' :=
  Q12f.watershedref12_One.calls a0_0 a0_1 a0_2 a0_3 a0_4 a0_5 a1_0 a1_1 r1 r2 r3 w h
def watershedref12_Each.f (a0_0 : ByteArray) (a0_1 : Int) (a0_2 : Int) (a0_3 : Int) (a0_4 : Int) (a0_5 : Int) (l1 : List (S25)) : Option ((List (S25))) := Q12f.watershedref12_Each.f 200000 a0_0 a0_1 a0_2 a0_3 a0_4 a0_5 l1
theorem watershedref12_Each.calls (a0_0 : ByteArray) (a0_1 : Int) (a0_2 : Int) (a0_3 : Int) (a0_4 : Int) (a0_5 : Int) (A1 : Option Addr) (c1 : Nat) (l1 : List (S25)) (r : List (S25)) (w : World) (hr1 : Kd.C k25 w A1 l1.length l1) (hc1 : l1.length ≤ c1) (h : watershedref12_Each.f a0_0 a0_1 a0_2 a0_3 a0_4 a0_5 l1 = some r) :
    Calls Try.prog 16 #[.agg #[.string a0_0, .int .i64 a0_1, .int .i64 a0_2, .int .i64 a0_3, .int .i64 a0_4, .int .i64 a0_5], .slice A1 l1.length c1] w fun e w' => ∃ v0_ : Value, e = .returned (v0_) ∧ Kd.R k25 25 w' w.heap.size (fun _ => True) v0_ r ∧ Below w.heap.size w w' :=
  Q12f.watershedref12_Each.calls 200000 a0_0 a0_1 a0_2 a0_3 a0_4 a0_5 A1 c1 l1 r w hr1 hc1 h
def watershedref11_less.f (a0_0 : Int) (a0_1 : Int) (a1_0 : Int) (a1_1 : Int) : Option (Bool) := Q12f.watershedref11_less.f a0_0 a0_1 a1_0 a1_1
theorem watershedref11_less.calls (a0_0 : Int) (a0_1 : Int) (a1_0 : Int) (a1_1 : Int) (r : Bool) (w : World) (h : watershedref11_less.f a0_0 a0_1 a1_0 a1_1 = some r) :
    Calls Try.prog 37 #[.agg #[.int .i64 a0_0, .int .i64 a0_1], .agg #[.int .i64 a1_0, .int .i64 a1_1]] w fun e w' => e = .returned (.bool r) ∧ Below w.heap.size w w' :=
  Q12f.watershedref11_less.calls a0_0 a0_1 a1_0 a1_1 r w h
def watershedref11_Order.f (l0 : List (S25)) : Option ((List (S25))) := Q12f.watershedref11_Order.f 200000 l0
theorem watershedref11_Order.calls (A0 : Option Addr) (c0 : Nat) (l0 : List (S25)) (r : List (S25)) (w : World) (hr0 : Kd.C k25 w A0 l0.length l0) (hc0 : l0.length ≤ c0) (h : watershedref11_Order.f l0 = some r) :
    Calls Try.prog 28 #[.slice A0 l0.length c0] w fun e w' => ∃ v0_ : Value, e = .returned (v0_) ∧ Kd.R k25 25 w' w.heap.size (fun _ => True) v0_ r ∧ Below w.heap.size w w' :=
  Q12f.watershedref11_Order.calls 200000 A0 c0 l0 r w hr0 hc0 h
def watershedref11_Alike.f (l0 : List (S25)) (l1 : List (S25)) : Option (Bool) := Q12f.watershedref11_Alike.f 200000 l0 l1
theorem watershedref11_Alike.calls (A0 : Option Addr) (c0 : Nat) (l0 : List (S25)) (A1 : Option Addr) (c1 : Nat) (l1 : List (S25)) (r : Bool) (w : World) (hr0 : Kd.C k25 w A0 l0.length l0) (hc0 : l0.length ≤ c0) (hr1 : Kd.C k25 w A1 l1.length l1) (hc1 : l1.length ≤ c1) (h : watershedref11_Alike.f l0 l1 = some r) :
    Calls Try.prog 13 #[.slice A0 l0.length c0, .slice A1 l1.length c1] w fun e w' => e = .returned (.bool r) ∧ Drawn0 w w' :=
  Q12f.watershedref11_Alike.calls 200000 A0 c0 l0 A1 c1 l1 r w hr0 hc0 hr1 hc1 h
def watershedlaw12_own.f (l0 : List (S25)) : Option ((List (S25))) := Q12f.watershedlaw12_own.f l0
theorem watershedlaw12_own.calls (A0 : Option Addr) (c0 : Nat) (l0 : List (S25)) (r : List (S25)) (w : World) (hr0 : Kd.C k25 w A0 l0.length l0) (hc0 : l0.length ≤ c0) (h : watershedlaw12_own.f l0 = some r) :
    Calls Try.prog 15 #[.slice A0 l0.length c0] w fun e w' => ∃ v0_ : Value, e = .returned (v0_) ∧ Kd.R k25 25 w' w.heap.size (fun _ => True) v0_ r ∧ Below w.heap.size w w' :=
  Q12f.watershedlaw12_own.calls A0 c0 l0 r w hr0 hc0 h
def watershedlaw12_To.f (a0_0 : ByteArray) (a0_1 : Int) (a0_2 : Int) (a0_3 : Int) (a0_4 : Int) (a0_5 : Int) : Option (ByteArray × Int × Int × Int × Int × Int) := Q12f.watershedlaw12_To.f a0_0 a0_1 a0_2 a0_3 a0_4 a0_5
theorem watershedlaw12_To.calls (a0_0 : ByteArray) (a0_1 : Int) (a0_2 : Int) (a0_3 : Int) (a0_4 : Int) (a0_5 : Int) (r1 : ByteArray) (r2 : Int) (r3 : Int) (r4 : Int) (r5 : Int) (r6 : Int) (w : World) (h : watershedlaw12_To.f a0_0 a0_1 a0_2 a0_3 a0_4 a0_5 = some (r1, r2, r3, r4, r5, r6)) :
    Calls Try.prog 9 #[.agg #[.string a0_0, .int .i64 a0_1, .int .i64 a0_2, .int .i64 a0_3, .int .i64 a0_4, .int .i64 a0_5]] w fun e w' => e = .returned (.agg #[.string r1, .int .i64 r2, .int .i64 r3, .int .i64 r4, .int .i64 r5, .int .i64 r6]) ∧ Below w.heap.size w w' :=
  Q12f.watershedlaw12_To.calls a0_0 a0_1 a0_2 a0_3 a0_4 a0_5 r1 r2 r3 r4 r5 r6 w h
end Go.Proofs.Ytogainbkidgkhaa.Ext
