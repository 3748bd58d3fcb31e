import Derived.Test.YtogainbkidgkhaaSh
import Derived.Test.YtogainbkidgkhaaX12m
/- The contract of strings.Join, in the form that the printed texts call. -/
namespace Go.Proofs.Ytogainbkidgkhaa.Ext
set_option linter.unusedVariables false
set_option linter.unusedSimpArgs false
open Go.RowKit Go.Proofs.YtogainbkidgkhaaW.PrintWords Go.Proofs.YtogainbkidgkhaaW.PrintLast Go.Proofs.YtogainbkidgkhaaW.PrintMore Go.Proofs.Ytogainbkidgkhaa.Base
theorem strs_read {w : World} {A : Option Addr} {xs : List ByteArray} (h : Kd.C Kd.string w A xs.length xs) (h0 : 0 < xs.length) : ∃ b o, A = some ⟨b, o, none⟩ ∧ ∀ (j : Nat) x, xs[j]? = some x → w.cell? ⟨b, o + j, none⟩ = some (.string x) := by
  obtain ⟨ad, hA, hc⟩ := h.2.2 h0
  have hx : ∀ (j : Nat) x, xs[j]? = some x → w.cell? (ad.add j) = some (.string x) := fun j x hj => by
    obtain ⟨c, hl, hk, hcell⟩ := hc j _ hj
    have hc1 : c = [.string x] := hk
    have := hcell 0 (.string x) (by rw [hc1]; rfl)
    rw [show j * (Kd.string).sz + 0 = j from by rw [show (Kd.string).sz = 1 from rfl]; omega] at this
    exact this
  have h1 := hx 0 _ (List.getElem?_eq_getElem h0)
  have h2 := cell_spot h1
  have h3 : ad.spot = none := by simpa [Addr.add] using h2
  refine ⟨ad.block, ad.off, by rw [hA]; cases ad; simp_all, fun j x hj => ?_⟩
  have := hx j x hj
  unfold Addr.add at this
  split at this
  · rename_i hj0
    subst hj0
    rw [Nat.add_zero]
    rw [← this]
    congr 1
    cases ad
    simp_all
  · exact this
def strings_Join.f (l : List ByteArray) (sep : ByteArray) : Option ByteArray :=
  if 0 < l.length ∧ l.length ≤ 100000 ∧ (Lib.join (l.map (·.data.toList)) sep.data.toList).length ≤ 100000000 then some ⟨(Lib.join (l.map (·.data.toList)) sep.data.toList).toArray⟩ else none
theorem strings_Join.calls (A0 : Option Addr) (c0 : Nat) (l0 : List ByteArray) (a1 : ByteArray) (r : ByteArray) (w : World) (hr0 : Kd.C Kd.string w A0 l0.length l0) (hc0 : l0.length ≤ c0) (h : strings_Join.f l0 a1 = some r) :
    Calls Try.prog 39 #[.slice A0 l0.length c0, .string a1] w fun e w' => e = .returned (.string r) ∧ Below w.heap.size w w' := by
  unfold strings_Join.f at h
  split at h
  · rename_i hc
    obtain rfl := Option.some.inj h
    obtain ⟨b, o, rfl, hcell⟩ := strs_read hr0 hc.1
    exact strings_Join b o c0 l0 a1 w hcell (World.block_lt_of_cell? _ _ (hcell 0 _ (List.getElem?_eq_getElem hc.1))) (by omega) hc0 (by omega)
  · cases h
end Go.Proofs.Ytogainbkidgkhaa.Ext
