import Derived.Test.YtogainbkidgkhaaSh2
import Derived.Test.YtogainbkidgkhaaPl
/- Contracts of slices.Min and slices.Max over int64, in the form that the printed texts call (by the library's own contracts, laid at this program). -/
namespace Go.Proofs.Ytogainbkidgkhaa.Ext
set_option linter.unusedVariables false
set_option linter.unusedSimpArgs false
open Go.RowKit Go.Proofs.YtogainbkidgkhaaW.PrintWords Go.Proofs.YtogainbkidgkhaaW.PrintLast Go.Proofs.YtogainbkidgkhaaW.PrintMore Go.Proofs.Ytogainbkidgkhaa.Base
theorem cell_spot {w : World} {a : Addr} {u : Value} (h : w.cell? a = some u) : a.spot = none := by
  unfold World.cell? at h
  cases hs : a.spot with
  | none => rfl
  | some s =>
    rw [hs] at h
    split at h
    · simp at h
    · cases h
theorem ints_read {w : World} {A : Option Addr} {xs : List Int} (h : Kd.C (Kd.int .i64) w A xs.length xs) (h0 : 0 < xs.length) : ∃ b o, A = some ⟨b, o, none⟩ ∧ ∀ j, j < xs.length → w.cell? ⟨b, o + j, none⟩ = some (.int .i64 (xs.getD j 0)) := by
  obtain ⟨ad, hA, hc⟩ := h.2.2 h0
  have hx : ∀ j, j < xs.length → w.cell? (ad.add j) = some (.int .i64 (xs.getD j 0)) := fun j hj => by
    obtain ⟨c, hl, hk, hcell⟩ := hc j _ (List.getElem?_eq_getElem hj)
    have hc1 : c = [.int .i64 xs[j]] := hk
    have := hcell 0 (.int .i64 xs[j]) (by rw [hc1]; rfl)
    rw [show j * (Kd.int .i64).sz + 0 = j from by rw [show (Kd.int .i64).sz = 1 from rfl]; omega] at this
    rw [this, List.getD_eq_getElem?_getD, List.getElem?_eq_getElem hj]
    rfl
  have h1 := hx 0 h0
  have h2 := cell_spot h1
  have h3 : ad.spot = none := by simpa [Addr.add] using h2
  refine ⟨ad.block, ad.off, by rw [hA]; cases ad; simp_all, fun j hj => ?_⟩
  have := hx j hj
  unfold Addr.add at this
  split at this
  · rename_i hj0
    subst hj0
    rw [Nat.add_zero]
    rw [← this]
    congr 1
    cases ad
    simp_all
  · exact this
def slices_Min.f (l : List Int) : Option Int := if 0 < l.length ∧ l.length ≤ 1000000 then some (Lib.minOf l) else none
def slices_Max.f (l : List Int) : Option Int := if 0 < l.length ∧ l.length ≤ 1000000 then some (Lib.maxOf l) else none
theorem slices_Min.calls (A0 : Option Addr) (c0 : Nat) (l0 : List Int) (r : Int) (w : World) (hr0 : Kd.C (Kd.int .i64) w A0 l0.length l0) (hc0 : l0.length ≤ c0) (h : slices_Min.f l0 = some r) :
    Calls Try.prog 35 #[.slice A0 l0.length c0] w fun e w' => e = .returned (.int .i64 r) ∧ Drawn0 w w' := by
  unfold slices_Min.f at h
  split at h
  · rename_i hc
    obtain rfl := Option.some.inj h
    obtain ⟨b, o, rfl, hcell⟩ := ints_read hr0 hc.1
    refine (AnyG.slices_Min_int Sh.min b o l0.length c0 l0 w hc.1 (Nat.le_refl _) (by omega) hcell).mono ?_
    rintro e w' ⟨rfl, rfl⟩
    rw [List.take_length]
    exact ⟨rfl, Drawn0.refl _⟩
  · cases h
theorem slices_Max.calls (A0 : Option Addr) (c0 : Nat) (l0 : List Int) (r : Int) (w : World) (hr0 : Kd.C (Kd.int .i64) w A0 l0.length l0) (hc0 : l0.length ≤ c0) (h : slices_Max.f l0 = some r) :
    Calls Try.prog 36 #[.slice A0 l0.length c0] w fun e w' => e = .returned (.int .i64 r) ∧ Drawn0 w w' := by
  unfold slices_Max.f at h
  split at h
  · rename_i hc
    obtain rfl := Option.some.inj h
    obtain ⟨b, o, rfl, hcell⟩ := ints_read hr0 hc.1
    refine (AnyG.slices_Max_int Sh.max b o l0.length c0 l0 w hc.1 (Nat.le_refl _) (by omega) hcell).mono ?_
    rintro e w' ⟨rfl, rfl⟩
    rw [List.take_length]
    exact ⟨rfl, Drawn0.refl _⟩
  · cases h
end Go.Proofs.Ytogainbkidgkhaa.Ext
