import Derived.Test.YtmpgknemhmoboaaC03b
/- Contracts of package crc and of the document's answer for it, in the form that the printed texts call: texts sealed and opened. -/
namespace Go.Proofs.Ytmpgknemhmoboaa.Ext
open Go.RowKit Go.Proofs.YtmpgknemhmoboaaW.PrintWords Go.Proofs.YtmpgknemhmoboaaW.PrintLast Go.Proofs.YtmpgknemhmoboaaW.PrintMore Go.Proofs.Ytmpgknemhmoboaa.C03

def crc_Seal.f (s : ByteArray) : Option ByteArray := if s.size ≤ 140737488351232 then some (sealed s) else none
theorem crc_Seal_f (s : ByteArray) (h : s.size ≤ 140737488351232) : crc_Seal.f s = some (sealed s) := if_pos h
theorem crc_Seal.calls (a0 : ByteArray) (r : ByteArray) (w : World) (h : crc_Seal.f a0 = some r) :
    Calls Try.prog 51 #[.string a0] w fun e w' => e = .returned (.string r) ∧ Below w.heap.size w w' := by
  unfold crc_Seal.f at h
  split at h
  · rename_i hc
    obtain rfl := Option.some.inj h
    exact C03.crc_Seal a0 w hc
  · cases h
def crc_Open.f (s : ByteArray) : Option (ByteArray × Bool) := if s.size ≤ 140737488351232 then some (opened s, opens s) else none
theorem crc_Open_f (s : ByteArray) (h : s.size ≤ 140737488351232) : crc_Open.f s = some (opened s, opens s) := if_pos h
theorem crc_Open.calls (a0 : ByteArray) (r1 : ByteArray) (r2 : Bool) (w : World) (h : crc_Open.f a0 = some (r1, r2)) :
    Calls Try.prog 54 #[.string a0] w fun e w' => e = .returned (.tuple #[.string r1, .bool r2]) ∧ Below w.heap.size w w' := by
  unfold crc_Open.f at h
  split at h
  · rename_i hc
    obtain ⟨rfl, rfl⟩ := Prod.mk.inj (Option.some.inj h)
    exact C03.crc_Open a0 w hc
  · cases h
def watershedref03_Seal.f (s : ByteArray) : Option ByteArray := if s.size ≤ 140737488351232 then some (sealed s) else none
theorem watershedref03_Seal_f (s : ByteArray) (h : s.size ≤ 140737488351232) : watershedref03_Seal.f s = some (sealed s) := if_pos h
theorem watershedref03_Seal.calls (a0 : ByteArray) (r : ByteArray) (w : World) (h : watershedref03_Seal.f a0 = some r) :
    Calls Try.prog 52 #[.string a0] w fun e w' => e = .returned (.string r) ∧ Below w.heap.size w w' := by
  unfold watershedref03_Seal.f at h
  split at h
  · rename_i hc
    obtain rfl := Option.some.inj h
    exact C03.ref_Seal a0 w hc
  · cases h
def watershedref03_Open.f (s : ByteArray) : Option (ByteArray × Bool) := if s.size ≤ 140737488351232 then some (opened s, opens s) else none
theorem watershedref03_Open_f (s : ByteArray) (h : s.size ≤ 140737488351232) : watershedref03_Open.f s = some (opened s, opens s) := if_pos h
theorem watershedref03_Open.calls (a0 : ByteArray) (r1 : ByteArray) (r2 : Bool) (w : World) (h : watershedref03_Open.f a0 = some (r1, r2)) :
    Calls Try.prog 59 #[.string a0] w fun e w' => e = .returned (.tuple #[.string r1, .bool r2]) ∧ Below w.heap.size w w' := by
  unfold watershedref03_Open.f at h
  split at h
  · rename_i hc
    obtain ⟨rfl, rfl⟩ := Prod.mk.inj (Option.some.inj h)
    exact C03.ref_Open a0 w hc
  · cases h
end Go.Proofs.Ytmpgknemhmoboaa.Ext
