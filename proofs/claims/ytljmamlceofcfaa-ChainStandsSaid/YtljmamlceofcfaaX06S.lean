import Derived.Test.YtljmamlceofcfaaX06C
import Derived.Test.YtljmamlceofcfaaSh5
/- slices.SortFunc and slices.SortedFunc over times. -/
namespace Go.Proofs.Ytljmamlceofcfaa.V06
set_option linter.unusedSimpArgs false
set_option linter.unusedVariables false
open Go Go.Proofs Go.RowKit Go.Sort Go.Proofs.YtljmamlceofcfaaW.PrintWords Go.Proofs.YtljmamlceofcfaaW.PrintLast Go.Proofs.YtljmamlceofcfaaW.PrintMore Go.Proofs.Ytljmamlceofcfaa.Base Go.Proofs.Ytljmamlceofcfaa.Q06t
open M06 (sgc orZ cmpT cmpR ltR)
theorem swo : SWO (ltOf cmpR) where
  irrefl x := M06.th.irrefl x
  trans x y z h1 h2 := M06.th.ltrans x y z h1 h2
  ntrans x y z h1 h2 := by
    have h1 : ltR x y = false := h1
    have h2 : ltR y z = false := h2
    show ltR x z = false
    rw [M06.ltR_iff_f] at *
    omega
def srtT (zs : List R) : List R := Fr.srt ltR zs
theorem sort_recs {w : World} {base : Nat} {v : Value} {zs : List R} (h : w.ownsRow base TR 5 v zs.length (cs zs)) (hl : zs.length ≤ 1000000) :
    ∃ A c, v = .slice A zs.length c ∧ Calls Try.prog 108 #[.slice A zs.length c, .func (.func 69) #[] #[]] w fun e w' => e = .returned (.tuple #[]) ∧ w'.ownsRow base TR 5 (.slice A zs.length c) zs.length (cs (srtT zs)) ∧ RowKit.Below base w w' := by
  rcases h.2 with ⟨rfl, hn⟩ | ⟨g, cap, cur, rfl, hbase, hb, h1, h2, h3, h4⟩
  · obtain rfl : zs = [] := List.eq_nil_of_length_eq_zero hn
    refine ⟨none, 0, rfl, (AnyF.slices_SortFunc_none Sh.sortf none 0 _ w).mono ?_⟩
    rintro e w' ⟨rfl, rfl⟩
    exact ⟨rfl, by simpa [srtT, Fr.srt] using h, RowKit.Below.refl _ _⟩
  · have hcl := cs_length zs
    refine ⟨some ⟨g, 0, none⟩, cap, rfl, ?_⟩
    have hs := AnyQ.slices_SortFunc_total Sh.sortf 5 Try.isAgg26 Try.sizeOf26 encL (fun _ => rfl) (fun x v hv => by simp [encL] at hv; rcases hv with rfl | rfl | rfl | rfl | rfl <;> rfl) cmpR swo 69 #[] g 0 cap zs.toArray w (enters_of Try.func69 (by kernel_rfl) rfl)
      (fun m os dk _ x y => (compare_c x.f0 x.f1 x.f2.f0 x.f2.f1 x.f2.f2 y.f0 y.f1 y.f2.f0 y.f2.f1 y.f2.f2 _).mono fun e w' hh => hh) (by unfold HoldsK; rw [flat_cs]; exact holds_row hb (by rw [hcl]; exact h4)) (Array.getElem?_eq_some_iff.1 hb).1 (by simp; omega) (fun x y h1 h2 => M06.th.total x y h1 h2)
    refine hs.mono ?_
    rintro e w' ⟨rfl, n, os, rfl⟩
    have e1 : sortWorldK encL 5 w g 0 n (zs.toArray.toList.mergeSort fun x y => !(ltOf cmpR) y x).toArray os = grow (putRow id (Sort.ahead w n) g 0 (cs (srtT zs)).toArray) os := by
      unfold sortWorldK putRowK
      rw [flat_cs]
      rfl
    rw [e1]
    have hg := grownBy_sortedR (w := w) (g := g) (n := n) (os := os) (cs (srtT zs)).toArray
    have hlen : (srtT zs).length = zs.length := by unfold srtT Fr.srt; simp
    refine ⟨rfl, ownsRow_sortedR (by rw [cs_length, hlen]) hbase hb h1 h2 h3, ⟨hg.os, hg.tape, hg.output, hg.size, fun i hi => hg.block i (Nat.lt_of_lt_of_le hi (Nat.le_trans hbase (Nat.le_of_lt (Array.getElem?_eq_some_iff.1 hb).1))) (fun e => by cases e; omega)⟩⟩
set_option maxHeartbeats 2000000 in
theorem SortedFunc_c (Bs : Nat) (sv : Value) (zs : List R) (hl : zs.length ≤ 1000000) (w : World) (hBs : Bs < w.heap.size) (hc : w.cell? ⟨Bs, 0, none⟩ = some sv) (hI : Recs w.heap.size w sv zs) :
    Calls Try.prog 67 #[.func (.func fV) #[] #[.pointer (some ⟨Bs, 0, none⟩)], .func (.func 69) #[] #[]] w fun e w' => ∃ v, e = .returned v ∧ w'.ownsRow w.heap.size TR 5 v zs.length (cs (srtT zs)) ∧ RowKit.Below w.heap.size w w' := by
  have HC := Aside0.mk (Collect_c Bs sv zs hl w hBs hc hI)
  clear hc hI
  go_enter Try.func67, Try.ntmps67
  go_wp2_with fail
  refine HC.out.mono ?_
  rintro e w1 ⟨v, rfl, hrow, hb⟩
  obtain ⟨A, c, rfl, hs⟩ := sort_recs hrow hl
  have HS := Aside0.mk hs
  clear hs hrow
  go_wp2_with fail
  refine HS.out.mono ?_
  rintro e w2 ⟨rfl, hrow, hb2⟩
  go_wp2
  go_ret
  exact ⟨_, rfl, hrow, hb.trans hb2⟩
/-- What the library sorts, as the printed texts call it: slices.Values ahead. -/
theorem Sorted_c (A0 : Option Addr) (c0 : Nat) (l0 : List R) (w : World) (hr0 : Kd.C k26 w A0 l0.length l0) (hl : l0.length ≤ 1000000) :
    Calls Try.prog 67 #[.func (.func fV) #[] #[.pointer (some ⟨w.heap.size, 0, none⟩)], .func (.func 69) #[] #[]] (w.alloc (.cells #[.slice A0 l0.length c0] TS)) fun e w' => ∃ v, e = .returned v ∧ Kd.R k26 26 w' w.heap.size (fun _ => True) v (srtT l0) ∧ RowKit.Below w.heap.size w w' := by
  have hnew : (w.alloc (.cells #[.slice A0 l0.length c0] TS)).cell? ⟨w.heap.size, 0, none⟩ = some (.slice A0 l0.length c0) := by simp
  have hb0 := below_alloc (Below.refl w.heap.size w) (.cells #[.slice A0 l0.length c0] TS)
  have hI : Recs (w.alloc (.cells #[.slice A0 l0.length c0] TS)).heap.size (w.alloc (.cells #[.slice A0 l0.length c0] TS)) (.slice A0 l0.length c0) l0 := recs_of_C c0 (Kd.C_below hr0 hb0)
  refine (SortedFunc_c w.heap.size (.slice A0 l0.length c0) l0 hl _ (by simp) hnew hI).mono ?_
  rintro e w2 ⟨v, rfl, hrow, hb2⟩
  have hlen : l0.length = (srtT l0).length := by unfold srtT Fr.srt; simp
  have hrow : w2.ownsRow (w.alloc (.cells #[.slice A0 l0.length c0] TS)).heap.size TR 5 v (srtT l0).length (cs (srtT l0)) := by
    rw [← hlen]
    exact hrow
  exact ⟨v, rfl, Kd.R_lower (cs_of_own hrow (ok := fun _ => True) (fun _ _ => trivial)) hb0.size, below_step hb0 hb2⟩
end Go.Proofs.Ytljmamlceofcfaa.V06
