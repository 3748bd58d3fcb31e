import Derived.Test.YtljmamlceofcfaaP06p
import Derived.Test.YtljmamlceofcfaaX06k
/- The contract of chain.Meet. -/
namespace Go.Proofs.Ytljmamlceofcfaa.V06
set_option linter.unusedSimpArgs false
set_option linter.unusedVariables false
open Go Go.Proofs Go.RowKit Go.Sort Go.Proofs.YtljmamlceofcfaaW.PrintWords Go.Proofs.YtljmamlceofcfaaW.PrintLast Go.Proofs.YtljmamlceofcfaaW.PrintMore Go.Proofs.Ytljmamlceofcfaa.Base Go.Proofs.Ytljmamlceofcfaa.Q06t
open M06 (sgc orZ cmpT cmpR ltR leR chkR)
open P06p (pairE)
def meetF (a b : List R) : List R × Int := if pairE a b ≠ 0 then ([], pairE a b) else makeF (a ++ b)
set_option maxRecDepth 100000 in
set_option maxHeartbeats 4000000 in
theorem meet_c (A0 : Option Addr) (c0 : Nat) (l0 : List R) (A1 : Option Addr) (c1 : Nat) (l1 : List R) (w : World) (hr0 : Kd.C k26 w A0 l0.length l0) (hc0 : l0.length ≤ c0) (hr1 : Kd.C k26 w A1 l1.length l1) (hc1 : l1.length ≤ c1) (hl0 : l0.length ≤ 100000) (hl1 : l1.length ≤ 100000) :
    Calls Try.prog 23 #[.slice A0 l0.length c0, .slice A1 l1.length c1] w fun e w' => ∃ v, e = .returned (.tuple #[v, .int .i64 (meetF l0 l1).2]) ∧ Kd.R k26 26 w' w.heap.size (fun _ => True) v (meetF l0 l1).1 ∧ Below w.heap.size w w' := by
  have HP := Aside0.mk (Ext.chain_pair.calls A0 c0 l0 A1 c1 l1 _ w hr0 hc0 hr1 hc1 (P06p.pair_f l0 l1 (by omega) (by omega)))
  have HC0 := Aside0.mk hr0
  have HC1 := Aside0.mk hr1
  have HLEN := Aside0.mk (And.intro hl0 hl1)
  clear hr0 hr1 hc0 hc1 hl0 hl1
  by_cases h : pairE l0 l1 = 0
  · have HM : Aside0 (meetF l0 l1 = makeF (l0 ++ l1)) := ⟨by unfold meetF; rw [if_neg (by simpa using h)]⟩
    rw [h] at HP
    clear h
    go_enter Try.func23, Try.ntmps23
    go_wp2_with fail
    refine HP.out.mono ?_
    rintro e w1 ⟨rfl, hb⟩
    have HB1 := Aside0.mk hb
    have hba := below_alloc (Below.refl w1.heap.size w1) (.cells #[.slice A0 l0.length c0, .slice A1 l1.length c1] 22)
    have HCC := Aside0.mk (concat_c w1.heap.size A0 c0 l0 A1 c1 l1 (w1.alloc (.cells #[.slice A0 l0.length c0, .slice A1 l1.length c1] 22)) (blk_new w1 _) (Kd.C_below (Kd.C_below HC0.out hb) hba) (Kd.C_below (Kd.C_below HC1.out hb) hba) HLEN.out.1 HLEN.out.2)
    have HBA := Aside0.mk hba
    clear hb hba
    go_wp2_with fail
    refine HCC.out.mono ?_
    rintro e w2 ⟨v, rfl, ho, hb⟩
    obtain ⟨L, HLL⟩ : ∃ L, Aside0 (L = l0 ++ l1) := ⟨_, ⟨rfl⟩⟩
    rw [← HLL.out] at ho HM
    obtain ⟨A2, c2, rfl⟩ := Kd.R_slice ho
    have HB2 := Aside0.mk (HB1.out.trans ((below_step HBA.out hb).mono HB1.out.size))
    have HMK := Aside0.mk (make_c A2 c2 L w2 (Kd.R_reads' ho).2.2 (by have := HLEN.out; rw [HLL.out, List.length_append]; omega))
    clear ho hb
    go_wp2_with fail
    refine HMK.out.mono ?_
    rintro e w3 ⟨v3, rfl, ho, hb⟩
    have HO := Aside0.mk (Kd.R_lower ho HB2.out.size)
    have HB3 := Aside0.mk (below_step HB2.out hb)
    clear ho hb
    go_wp2
    go_ret2
    rw [HM.out]
    exact ⟨_, rfl, HO.out, HB3.out⟩
  · have cb : (pairE l0 l1 != 0) = true := by simpa using h
    have HM : Aside0 (meetF l0 l1 = ([], pairE l0 l1)) := ⟨if_pos h⟩
    clear h
    go_enter Try.func23, Try.ntmps23
    go_wp2_with fail
    refine HP.out.mono ?_
    rintro e w1 ⟨rfl, hb⟩
    have HB1 := Aside0.mk hb
    clear hb
    go_wp2
    go_ret2
    rw [HM.out]
    exact ⟨_, rfl, Kd.R_nil _ _ _ _ _, HB1.out⟩
end Go.Proofs.Ytljmamlceofcfaa.V06
namespace Go.Proofs.Ytljmamlceofcfaa.Ext
set_option linter.unusedSimpArgs false
set_option linter.unusedVariables false
open Go Go.Proofs Go.RowKit Go.Proofs.YtljmamlceofcfaaW.PrintWords Go.Proofs.YtljmamlceofcfaaW.PrintLast Go.Proofs.YtljmamlceofcfaaW.PrintMore Go.Proofs.Ytljmamlceofcfaa.Base Go.Proofs.Ytljmamlceofcfaa.Q06t V06
def chain_Meet.f (a b : List S26) : Option (List S26 × Int) := if a.length ≤ 100000 ∧ b.length ≤ 100000 then some (V06.meetF a b) else none
theorem chain_Meet.calls (A0 : Option Addr) (c0 : Nat) (l0 : List S26) (A1 : Option Addr) (c1 : Nat) (l1 : List S26) (r1 : List S26) (r2 : Int) (w : World) (hr0 : Kd.C k26 w A0 l0.length l0) (hc0 : l0.length ≤ c0) (hr1 : Kd.C k26 w A1 l1.length l1) (hc1 : l1.length ≤ c1) (h : chain_Meet.f l0 l1 = some (r1, r2)) :
    Calls Try.prog 23 #[.slice A0 l0.length c0, .slice A1 l1.length c1] w fun e w' => ∃ v0_ : Value, e = .returned (.tuple #[v0_, .int .i64 r2]) ∧ Kd.R k26 26 w' w.heap.size (fun _ => True) v0_ r1 ∧ Below w.heap.size w w' := by
  unfold chain_Meet.f at h
  split at h
  · rename_i hl
    have h := Option.some.inj h
    have := V06.meet_c A0 c0 l0 A1 c1 l1 w hr0 hc0 hr1 hc1 hl.1 hl.2
    rw [h] at this
    exact this
  · cases h
end Go.Proofs.Ytljmamlceofcfaa.Ext
