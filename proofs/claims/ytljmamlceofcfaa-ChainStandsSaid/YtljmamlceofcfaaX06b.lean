import Derived.Test.YtljmamlceofcfaaQ06bx
/- The contracts of the printed group Q06b under names of their own (laid by wip/aliases.py). -/
namespace Go.Proofs.Ytljmamlceofcfaa.Ext
open Go.RowKit Go.Proofs.YtljmamlceofcfaaW.PrintWords Go.Proofs.YtljmamlceofcfaaW.PrintLast Go.Proofs.YtljmamlceofcfaaW.PrintMore
open Go.Proofs.Ytljmamlceofcfaa.Q06b
set_option linter.unusedVariables false
def watershedlaw06_Great.f (l0 : List (S26)) : Option (Bool) := Q06b.watershedlaw06_Great.f l0
theorem watershedlaw06_Great.calls (A0 : Option Addr) (c0 : Nat) (l0 : List (S26)) (r : Bool) (w : World) (hr0 : Kd.C k26 w A0 l0.length l0) (hc0 : l0.length ≤ c0) (h : watershedlaw06_Great.f l0 = some r) :
    Calls Try.prog 14 #[.slice A0 l0.length c0] w fun e w' => e = .returned (.bool r) ∧ Drawn0 w w' :=
  Q06b.watershedlaw06_Great.calls A0 c0 l0 r w hr0 hc0 h
def watershedlaw06_own.f (l0 : List (S26)) : Option ((List (S26))) := Q06b.watershedlaw06_own.f l0
theorem watershedlaw06_own.calls (A0 : Option Addr) (c0 : Nat) (l0 : List (S26)) (r : List (S26)) (w : World) (hr0 : Kd.C k26 w A0 l0.length l0) (hc0 : l0.length ≤ c0) (h : watershedlaw06_own.f l0 = some r) :
    Calls Try.prog 15 #[.slice A0 l0.length c0] w fun e w' => ∃ v0_ : Value, e = .returned (v0_) ∧ Kd.R k26 26 w' w.heap.size (fun _ => True) v0_ r ∧ Below w.heap.size w w' :=
  Q06b.watershedlaw06_own.calls A0 c0 l0 r w hr0 hc0 h
def watershedref06_Same.f (l0 : List (S26)) (l1 : List (S26)) : Option (Bool) := Q06b.watershedref06_Same.f 2000000 l0 l1
theorem watershedref06_Same.calls (A0 : Option Addr) (c0 : Nat) (l0 : List (S26)) (A1 : Option Addr) (c1 : Nat) (l1 : List (S26)) (r : Bool) (w : World) (hr0 : Kd.C k26 w A0 l0.length l0) (hc0 : l0.length ≤ c0) (hr1 : Kd.C k26 w A1 l1.length l1) (hc1 : l1.length ≤ c1) (h : watershedref06_Same.f l0 l1 = some r) :
    Calls Try.prog 18 #[.slice A0 l0.length c0, .slice A1 l1.length c1] w fun e w' => e = .returned (.bool r) ∧ Drawn0 w w' :=
  Q06b.watershedref06_Same.calls 2000000 A0 c0 l0 A1 c1 l1 r w hr0 hc0 hr1 hc1 h
def watershedref06_Holds.f (l0 : List (S26)) (a1_0 : Int) (a1_1 : Int) (a1_2 : Int) (a1_3 : Int) (a1_4 : Int) : Option (Bool) := Q06b.watershedref06_Holds.f 2000000 l0 a1_0 a1_1 a1_2 a1_3 a1_4
theorem watershedref06_Holds.calls (A0 : Option Addr) (c0 : Nat) (l0 : List (S26)) (a1_0 : Int) (a1_1 : Int) (a1_2 : Int) (a1_3 : Int) (a1_4 : Int) (r : Bool) (w : World) (hr0 : Kd.C k26 w A0 l0.length l0) (hc0 : l0.length ≤ c0) (h : watershedref06_Holds.f l0 a1_0 a1_1 a1_2 a1_3 a1_4 = some r) :
    Calls Try.prog 22 #[.slice A0 l0.length c0, .agg #[.int .u32 a1_0, .int .i64 a1_1, .int .u32 a1_2, .int .u32 a1_3, .int .u32 a1_4]] w fun e w' => e = .returned (.bool r) ∧ Below w.heap.size w w' :=
  Q06b.watershedref06_Holds.calls 2000000 A0 c0 l0 a1_0 a1_1 a1_2 a1_3 a1_4 r w hr0 hc0 h
def watershedref06_LE.f (l0 : List (S26)) (l1 : List (S26)) : Option (Bool) := Q06b.watershedref06_LE.f 2000000 l0 l1
theorem watershedref06_LE.calls (A0 : Option Addr) (c0 : Nat) (l0 : List (S26)) (A1 : Option Addr) (c1 : Nat) (l1 : List (S26)) (r : Bool) (w : World) (hr0 : Kd.C k26 w A0 l0.length l0) (hc0 : l0.length ≤ c0) (hr1 : Kd.C k26 w A1 l1.length l1) (hc1 : l1.length ≤ c1) (h : watershedref06_LE.f l0 l1 = some r) :
    Calls Try.prog 28 #[.slice A0 l0.length c0, .slice A1 l1.length c1] w fun e w' => e = .returned (.bool r) ∧ Below w.heap.size w w' :=
  Q06b.watershedref06_LE.calls 2000000 A0 c0 l0 A1 c1 l1 r w hr0 hc0 hr1 hc1 h
def watershedref04_order.f (a0 : Int) (a1 : Int) : Option (Int) := Q06b.watershedref04_order.f a0 a1
theorem watershedref04_order.calls (a0 : Int) (a1 : Int) (r : Int) (w : World) (h : watershedref04_order.f a0 a1 = some r) :
    Calls Try.prog 113 #[.int .u32 a0, .int .u32 a1] w fun e w' => e = .returned (.int .i64 r) ∧ Drawn0 w w' :=
  Q06b.watershedref04_order.calls a0 a1 r w h
def watershedref06_Check.f (l0 : List (S26)) : Option (Int) := Q06b.watershedref06_Check.f 2000000 l0
theorem watershedref06_Check.calls (A0 : Option Addr) (c0 : Nat) (l0 : List (S26)) (r : Int) (w : World) (hr0 : Kd.C k26 w A0 l0.length l0) (hc0 : l0.length ≤ c0) (h : watershedref06_Check.f l0 = some r) :
    Calls Try.prog 20 #[.slice A0 l0.length c0] w fun e w' => e = .returned (.int .i64 r) ∧ Below w.heap.size w w' :=
  Q06b.watershedref06_Check.calls 2000000 A0 c0 l0 r w hr0 hc0 h
def watershedref06_both.f (l0 : List (S26)) (l1 : List (S26)) : Option (Int) := Q06b.watershedref06_both.f 2000000 l0 l1
theorem watershedref06_both.calls (A0 : Option Addr) (c0 : Nat) (l0 : List (S26)) (A1 : Option Addr) (c1 : Nat) (l1 : List (S26)) (r : Int) (w : World) (hr0 : Kd.C k26 w A0 l0.length l0) (hc0 : l0.length ≤ c0) (hr1 : Kd.C k26 w A1 l1.length l1) (hc1 : l1.length ≤ c1) (h : watershedref06_both.f l0 l1 = some r) :
    Calls Try.prog 78 #[.slice A0 l0.length c0, .slice A1 l1.length c1] w fun e w' => e = .returned (.int .i64 r) ∧ Below w.heap.size w w' :=
  Q06b.watershedref06_both.calls 2000000 A0 c0 l0 A1 c1 l1 r w hr0 hc0 hr1 hc1 h
def stamp_there.f (a0 : Int) : Option (Bool) := Q06b.stamp_there.f a0
theorem stamp_there.calls (a0 : Int) (r : Bool) (w : World) (h : stamp_there.f a0 = some r) :
    Calls Try.prog 115 #[.int .i64 a0] w fun e w' => e = .returned (.bool r) ∧ Drawn0 w w' :=
  Q06b.stamp_there.calls a0 r w h
def api_Time_72.f (l0 : List (S26)) (l1 : List (S26)) : Option (Bool) := Q06b.api_Time_72.f 2000000 l0 l1
theorem api_Time_72.calls (A0 : Option Addr) (c0 : Nat) (l0 : List (S26)) (A1 : Option Addr) (c1 : Nat) (l1 : List (S26)) (r : Bool) (w : World) (hr0 : Kd.C k26 w A0 l0.length l0) (hc0 : l0.length ≤ c0) (hr1 : Kd.C k26 w A1 l1.length l1) (hc1 : l1.length ≤ c1) (h : api_Time_72.f l0 l1 = some r) :
    Calls Try.prog 72 #[.slice A0 l0.length c0, .slice A1 l1.length c1] w fun e w' => e = .returned (.bool r) ∧ Drawn0 w w' :=
  Q06b.api_Time_72.calls 2000000 A0 c0 l0 A1 c1 l1 r w hr0 hc0 hr1 hc1 h
def chain_Check.f (l0 : List (S26)) : Option (Int) := Q06b.chain_Check.f 2000000 l0
theorem chain_Check.calls (A0 : Option Addr) (c0 : Nat) (l0 : List (S26)) (r : Int) (w : World) (hr0 : Kd.C k26 w A0 l0.length l0) (hc0 : l0.length ≤ c0) (h : chain_Check.f l0 = some r) :
    Calls Try.prog 19 #[.slice A0 l0.length c0] w fun e w' => e = .returned (.int .i64 r) ∧ Below w.heap.size w w' :=
  Q06b.chain_Check.calls 2000000 A0 c0 l0 r w hr0 hc0 h
def chain_pair.f (l0 : List (S26)) (l1 : List (S26)) : Option (Int) := Q06b.chain_pair.f 2000000 l0 l1
theorem chain_pair.calls (A0 : Option Addr) (c0 : Nat) (l0 : List (S26)) (A1 : Option Addr) (c1 : Nat) (l1 : List (S26)) (r : Int) (w : World) (hr0 : Kd.C k26 w A0 l0.length l0) (hc0 : l0.length ≤ c0) (hr1 : Kd.C k26 w A1 l1.length l1) (hc1 : l1.length ≤ c1) (h : chain_pair.f l0 l1 = some r) :
    Calls Try.prog 76 #[.slice A0 l0.length c0, .slice A1 l1.length c1] w fun e w' => e = .returned (.int .i64 r) ∧ Below w.heap.size w w' :=
  Q06b.chain_pair.calls 2000000 A0 c0 l0 A1 c1 l1 r w hr0 hc0 hr1 hc1 h
end Go.Proofs.Ytljmamlceofcfaa.Ext
