import Derived.Test.YtmpgknemhmoboaaDoorSh
import Derived.Test.YtmpgknemhmoboaaDoorBase
import Derived.Test.YtmpgknemhmoboaaDoorPl
import Derived.Laws.RangeAny
/- Contracts of package words' texts and of the library, in the form that the printed texts call: strings.Split, words.Name. -/
namespace Go.Proofs.YtmpgknemhmoboaaDoor.Ext
open Go.RowKit Go.Proofs.YtmpgknemhmoboaaDoorW.PrintWords Go.Proofs.YtmpgknemhmoboaaDoorW.PrintLast Go.Proofs.YtmpgknemhmoboaaDoorW.PrintMore Go.Proofs.YtmpgknemhmoboaaDoor.Base
theorem vars_below {w w' : World} (h : VARS w) (hb : Below w.heap.size w w') : VARS w' := h.elim fun m hm => ⟨m, (hb.cell (World.block_lt_of_cell? w _ hm)).trans hm⟩
def strings_Split.f (s sep : ByteArray) : Option (List ByteArray) := if s.size ≤ 100000 ∧ 1 ≤ sep.size then some (Lib.splitB sep 0 (Lib.countB s sep) s) else none
theorem encs_string (xs : List ByteArray) : encs Value.string xs = xs.map Value.string := by
  induction xs with
  | nil => rfl
  | cons x xs ih => simp_all [encs]
theorem strings_Split.calls (a0 a1 : ByteArray) (r : List ByteArray) (w : World) (h : strings_Split.f a0 a1 = some r) (HV : Aside0 (VARS w) := by first | exact HV | exact ⟨Ext.vars_below HV.out (by repeat (first | (with_reducible first | exact HB.out | apply below_alloc | apply pw_below_drewN | apply below_drew1 | refine below_set ?_ (Aside0.out (by assumption))) | exact HB.out))⟩) :
    Calls Tryd.prog 16 #[.string a0, .string a1] w fun e w' => ∃ v0_ : Value, e = .returned (v0_) ∧ Kd.R Kd.string 9 w' w.heap.size (fun _ => True) v0_ r ∧ Below w.heap.size w w' := by
  unfold strings_Split.f at h
  split at h
  · rename_i hc
    obtain rfl := Option.some.inj h
    have hl := Lib.splitB_all a1 hc.2 0 _ a0 rfl
    have hle := Lib.countB_le a1 hc.2 a0.size a0 (Nat.le_refl _)
    refine (strings_Split a0 a1 w (by omega) HV.out hc.2).mono ?_
    rintro e w' ⟨rfl, rfl⟩
    refine ⟨_, rfl, ?_, below_alloc (Below.refl _ _) _⟩
    refine Kd.R_of_own ?_ (fun _ _ => trivial)
    rw [hl]
    have := World.ownsRow_lit (base := w.heap.size) (e := 9) (size := 1) w ((Lib.splitB a1 0 (Lib.countB a0 a1) a0).map Value.string).toArray (Lib.countB a0 a1 + 1) (Nat.le_refl _) (by simp only [maxLen]; omega) (by simp [hl])
    rw [encs_string]
    exact this
  · cases h
end Go.Proofs.YtmpgknemhmoboaaDoor.Ext
