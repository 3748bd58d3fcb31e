import Derived.Test.YtmpgknemhmoboaaDoorC08
/- A contract of the document's answer for package words: what stands behind a name, in the form that the printed texts call. -/
namespace Go.Proofs.YtmpgknemhmoboaaDoor.Ext
open Go.RowKit Go.Proofs.YtmpgknemhmoboaaDoorW.PrintWords Go.Proofs.YtmpgknemhmoboaaDoorW.PrintLast Go.Proofs.YtmpgknemhmoboaaDoorW.PrintMore Go.Proofs.YtmpgknemhmoboaaDoor.C08

def words_Option.f (xs : List ByteArray) (n : ByteArray) : Option (ByteArray × Bool) := if xs.length ≤ 1000000 ∧ n.size ≤ 1000000 then some (opt (n ++ ⟨#[61]⟩) xs) else none
theorem words_Option_f (xs : List ByteArray) (n : ByteArray) (h0 : xs.length ≤ 1000000) (h1 : n.size ≤ 1000000) : words_Option.f xs n = some (opt (n ++ ⟨#[61]⟩) xs) := if_pos ⟨h0, h1⟩
theorem words_Option.calls (A0 : Option Addr) (c0 : Nat) (l0 : List ByteArray) (a1 : ByteArray) (r1 : ByteArray) (r2 : Bool) (w : World) (hr0 : Kd.C Kd.string w A0 l0.length l0) (hc0 : l0.length ≤ c0) (h : words_Option.f l0 a1 = some (r1, r2)) :
    Calls Tryd.prog 22 #[.slice A0 l0.length c0, .string a1] w fun e w' => e = .returned (.tuple #[.string r1, .bool r2]) ∧ Drawn0 w w' := by
  unfold words_Option.f at h
  split at h
  · rename_i hc
    have e := Option.some.inj h
    refine (words_Option l0 A0 c0 a1 w ⟨hc0, hr0, hc.1⟩ hc.2).mono ?_
    rintro en w' ⟨rfl, rfl⟩
    rw [e]
    exact ⟨rfl, Drawn0.refl _⟩
  · cases h
end Go.Proofs.YtmpgknemhmoboaaDoor.Ext
