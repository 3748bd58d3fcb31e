import Derived.Test.YtjkbgcdhhiakmaaDoorX04o
import Derived.Test.YtjkbgcdhhiakmaaDoorPQ04w
/- The functions of chapter 4 that works reaches, under their own names: what each gives. -/
namespace Go.Proofs.YtjkbgcdhhiakmaaDoor.P04x
open Go.RowKit Go.Proofs.YtjkbgcdhhiakmaaDoor.Ext Go.Proofs.YtjkbgcdhhiakmaaDoor.P04o
open Go.Proofs.YtjkbgcdhhiakmaaDoor.P04 (chk)
theorem works_x : watershedlaw04_works.f = some true := works_pure
theorem Compare_x (a0 a1 a2 a3 a4 b0 b1 b2 b3 b4 : Int) : stamp_Compare.f a0 a1 a2 a3 a4 b0 b1 b2 b3 b4 = some (cmpT a0 a1 a2 a3 a4 b0 b1 b2 b3 b4) := Compare_f 20 ..
theorem Enter_x (e d a b c : Int) : stamp_Enter.f e d a b c = some (enterF e d a b c) := Enter_f ..
theorem Leave_x (e d a b c : Int) : stamp_Leave.f e d a b c = some (leaveF e d a b c) := Leave_f ..
theorem Add_x (x y : Int) (hx : 0 ≤ x ∧ x < 4294967296) (hy : 0 ≤ y ∧ y < 4294967296) : num_Add.f x y = some (addF x y) := Add_f 35 x y hx hy
theorem Next_x (e d a b c : Int) (ha : 0 ≤ a) (hb : 0 ≤ b) (hc : 0 ≤ c) : stamp_Next.f e d a b c = some (nextF e d a b c) := Next_f 28 e d a b c ha hb hc
end Go.Proofs.YtjkbgcdhhiakmaaDoor.P04x
