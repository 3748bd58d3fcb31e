import Derived.Test.YtnapckkbnpocgaaC02s
/- The statements' own example of chapter 2 comes out as it must. -/
namespace Go.Proofs.Ytnapckkbnpocgaa.C02
open Go.RowKit Go.Proofs.YtnapckkbnpocgaaW.PrintWords Go.Proofs.YtnapckkbnpocgaaW.PrintLast Go.Proofs.YtnapckkbnpocgaaW.PrintMore Go.Proofs.Ytnapckkbnpocgaa.M02 Go.Proofs.Ytnapckkbnpocgaa.Base

theorem RD.upd {F : Nat → Prop} {w w' : World} {g : Nat} {l : List Int} {e : Int} (h : RD w g l e) (k : Upd F w w') (hn : ¬ F g) : RD w' g l e := by
  obtain ⟨s, hG, hs⟩ := h
  exact ⟨s, k.blk hG hn, hs⟩
theorem RD.below {w w' : World} {g : Nat} {l : List Int} {e : Int} (h : RD w g l e) (k : Below w.heap.size w w') : RD w' g l e := h.upd (Upd.of_below (F := fun _ => False) k) (fun x => x)
theorem RD.lt {w : World} {g : Nat} {l : List Int} {e : Int} (h : RD w g l e) : g < w.heap.size := by
  obtain ⟨s, hG, _⟩ := h
  exact blk_lt hG

set_option maxHeartbeats 2000000 in
theorem works (w : World) : Calls Try.prog 43 #[] w fun en w' => en = .returned (.bool true) ∧ Below w.heap.size w w' := by
  have HB := Aside0.mk (Below.refl w.heap.size w)
  have ht1 : ((strOfNums [97, 98]).toList == [97, 98]) = true := by decide +kernel
  have ht2 : ((strOfNums (leb 9 300)).toList == [172, 2]) = true := by decide +kernel
  have ht3 : ((strOfNums (leb 9 (sgn (-2)))).toList == [3]) = true := by decide +kernel
  have ht4 : ((strOfNums (leb 9 2) ++ (⟨#[97, 98]⟩ : ByteArray)).toList == [2, 97, 98]) = true := by decide +kernel
  go_enter Try.func43, Try.ntmps43
  go_wp2_with fail
  refine (rd_New _ _ (by decide)).mono ?_
  rintro en w1 ⟨g, hg, rfl, hR, hb⟩
  replace hR : RD w1 g [172, 2, 3, 2, 97, 98] 0 := hR
  have HG := Aside0.mk hg
  replace HB := Aside0.mk (below_step HB.out hb)
  have HR := Aside0.mk hR
  clear hR hb hg
  go_wp2_with fail
  refine (rd_Num _ _ _ _ HR.out).mono ?_
  rintro en w2 ⟨rfl, hR, hU⟩
  rw [show rdNum [172, 2, 3, 2, 97, 98] 0 = (300, [3, 2, 97, 98], 0) from by decide +kernel] at hR ⊢
  replace HB := Aside0.mk (hU.after1 HB.out HG.out)
  replace HR : Aside0 (RD w2 g [3, 2, 97, 98] 0) := Aside0.mk hR
  clear hR hU
  go_wp2_with fail
  refine (rd_Signed _ _ _ _ HR.out).mono ?_
  rintro en w3 ⟨rfl, hR, hU⟩
  rw [show rdSigned [3, 2, 97, 98] 0 = (-2, [2, 97, 98], 0) from by decide +kernel] at hR ⊢
  replace HB := Aside0.mk (hU.after1 HB.out HG.out)
  replace HR : Aside0 (RD w3 g [2, 97, 98] 0) := Aside0.mk hR
  clear hR hU
  go_wp2_with fail
  refine (rd_Text _ _ _ _ _ HR.out (by omega)).mono ?_
  rintro en w4 ⟨rfl, hR, hU⟩
  rw [show rdText 2 [2, 97, 98] 0 = ([97, 98], [], 0) from by decide +kernel] at hR ⊢
  replace HB := Aside0.mk (hU.after1 HB.out HG.out)
  replace HR : Aside0 (RD w4 g [] 0) := Aside0.mk hR
  clear hR hU
  go_wp2_with fail
  refine (rd_New _ _ (by decide)).mono ?_
  rintro en w5 ⟨g2, hg2, rfl, hR2, hb⟩
  have HN : Aside0 (g ≠ g2) := ⟨by have := HR.out.lt; omega⟩
  have HG2 : Aside0 (w.heap.size ≤ g2) := ⟨by have := HB.out.size; omega⟩
  replace HB := Aside0.mk (below_step HB.out hb)
  replace HR := Aside0.mk (HR.out.below hb)
  replace hR2 : RD w5 g2 [128, 0] 0 := hR2
  have HR2 := Aside0.mk hR2
  clear hR2 hb hg2
  go_wp2_with fail
  refine (rd_Num _ _ _ _ HR2.out).mono ?_
  rintro en w6 ⟨rfl, hR2, hU⟩
  rw [show rdNum [128, 0] 0 = (0, [128, 0], 6) from by decide +kernel] at hR2 ⊢
  replace HB := Aside0.mk (hU.after1 HB.out HG2.out)
  replace HR := Aside0.mk (HR.out.upd hU HN.out)
  replace HR2 : Aside0 (RD w6 g2 [128, 0] 6) := Aside0.mk hR2
  clear hR2 hU
  go_wp2_with fail
  refine (rd_End _ _ _ _ HR.out).mono ?_
  rintro en w7 ⟨rfl, hR, hU⟩
  rw [show rdEnd [] 0 = 0 from by decide +kernel]
  replace HB := Aside0.mk (hU.after1 HB.out HG.out)
  replace HR2 := Aside0.mk (HR2.out.upd hU HN.out.symm)
  clear hR hU HR
  go_wp2_with fail
  refine (rd_Err _ _ _ _ HR2.out).mono ?_
  rintro en w8 ⟨rfl, rfl⟩
  go_wp2_with fail
  refine (rd_Left _ _ _ _ HR2.out).mono ?_
  rintro en w8 ⟨rfl, rfl⟩
  go_wp2_with fail
  refine (code_Num _ _ (by omega) (by omega)).mono ?_
  rintro en w8 ⟨rfl, hb⟩
  replace HB := Aside0.mk (below_step HB.out hb)
  clear hb
  go_wp2_with fail
  refine (code_Signed _ _ (by omega) (by omega)).mono ?_
  rintro en w9 ⟨rfl, hb⟩
  replace HB := Aside0.mk (below_step HB.out hb)
  clear hb
  go_wp2_with fail
  refine (code_Text _ _ (by decide)).mono ?_
  rintro en w10 ⟨rfl, hb⟩
  rw [show ((ByteArray.size ⟨#[97, 98]⟩ : Nat) : Int) = 2 from rfl]
  replace HB := Aside0.mk (below_step HB.out hb)
  clear hb
  go_wp2_with fail
  go_ret
  exact ⟨by first | rfl | simp, HB.out⟩
end Go.Proofs.Ytnapckkbnpocgaa.C02
