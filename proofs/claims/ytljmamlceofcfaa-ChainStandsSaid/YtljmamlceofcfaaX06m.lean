import Derived.Test.YtljmamlceofcfaaX06l
/- The contracts of package chain in the form that the printed texts call: Make, Holds, LE, times. -/
namespace Go.Proofs.Ytljmamlceofcfaa.V06
set_option linter.unusedSimpArgs false
set_option linter.unusedVariables false
open Go Go.Proofs Go.RowKit Go.Sort Go.Proofs.YtljmamlceofcfaaW.PrintWords Go.Proofs.YtljmamlceofcfaaW.PrintLast Go.Proofs.YtljmamlceofcfaaW.PrintMore Go.Proofs.Ytljmamlceofcfaa.Base Go.Proofs.Ytljmamlceofcfaa.Q06t
open M06 (sgc orZ cmpT cmpR ltR leR chkR)
def frontT (l : List R) : List R := Fr.front leR ltR l
/-- The frontier of times, and what is wrong. -/
def makeF (l : List R) : List R × Int := if 4096 < l.length then ([], 7) else if timesE l ≠ 0 then ([], timesE l) else if 64 < (frontT l).length then ([], 7) else (frontT l, 0)
set_option maxRecDepth 100000 in
set_option maxHeartbeats 4000000 in
theorem make_c (A0 : Option Addr) (c0 : Nat) (l0 : List R) (w : World) (hr0 : Kd.C k26 w A0 l0.length l0) (hl : l0.length ≤ 1000000) :
    Calls Try.prog 16 #[.slice A0 l0.length c0] w fun e w' => ∃ v, e = .returned (.tuple #[v, .int .i64 (makeF l0).2]) ∧ Kd.R k26 26 w' w.heap.size (fun _ => True) v (makeF l0).1 ∧ Below w.heap.size w w' := by
  have HT := Aside0.mk (times_c A0 c0 l0 w hr0 hl)
  have HR := Aside0.mk hr0
  have HL := Aside0.mk hl
  clear hr0
  by_cases h1 : 4096 < l0.length
  · have c1 : decide ((4096 : Int) < (l0.length : Int)) = true := decide_eq_true (by omega)
    have HM : Aside0 (makeF l0 = ([], 7)) := ⟨if_pos h1⟩
    clear hl
    go_enter Try.func16, Try.ntmps16
    go_wp2
    go_ret2
    rw [HM.out]
    exact ⟨_, rfl, Kd.R_nil _ _ _ _ _, Below.refl _ _⟩
  · have c1 : decide ((4096 : Int) < (l0.length : Int)) = false := decide_eq_false (by omega)
    by_cases h2 : timesE l0 = 0
    · rw [h2] at HT
      have HM : Aside0 (makeF l0 = if 64 < (frontT l0).length then ([], 7) else (frontT l0, 0)) := ⟨by unfold makeF; rw [if_neg h1, h2]; rfl⟩
      have hlen : (srtT l0).length = l0.length := by unfold srtT Fr.srt; simp
      have HS : Aside0 ((srtT l0).length ≤ 1000000) := ⟨by omega⟩
      clear hl h2 hlen h1
      go_enter Try.func16, Try.ntmps16
      go_wp2_with fail
      refine HT.out.mono ?_
      rintro e w1 ⟨rfl, hb1⟩
      have HR1 := Aside0.mk (Kd.C_below HR.out hb1)
      have HB1 := Aside0.mk hb1
      have HV := Aside0.mk (Values_c A0 l0.length c0 w1)
      have HSF := Aside0.mk (Sorted_c A0 c0 l0 w1 HR1.out HL.out)
      clear hb1
      go_wp2_with fail
      refine HV.out.mono ?_
      rintro e w2 ⟨rfl, rfl⟩
      go_wp2_with fail
      refine HSF.out.mono ?_
      rintro e w3 ⟨v, rfl, hr3, hb3⟩
      obtain ⟨A3, c3, rfl⟩ := Kd.R_slice hr3
      have HB3 := Aside0.mk (below_step HB1.out hb3)
      have HLS := Aside0.mk (least_c A3 c3 (srtT l0) w3 (Kd.R_reads' hr3).2.2 HS.out)
      clear hr3 hb3
      go_wp2_with fail
      refine HLS.out.mono ?_
      rintro e w4 ⟨v4, rfl, hr4, hb4⟩
      have hr4 : Kd.R k26 26 w4 w3.heap.size (fun _ => True) v4 (frontT l0) := hr4
      obtain ⟨A4, c4, rfl⟩ := Kd.R_slice hr4
      have HB4 := Aside0.mk (below_step HB3.out hb4)
      have HR4 := Aside0.mk (Kd.R_lower hr4 HB3.out.size)
      clear hr4 hb4
      by_cases h3 : 64 < (frontT l0).length
      · have c2 : decide ((64 : Int) < ((frontT l0).length : Int)) = true := decide_eq_true (by omega)
        rw [if_pos h3] at HM
        clear h3
        go_wp2
        go_ret2
        rw [HM.out]
        exact ⟨_, rfl, Kd.R_nil _ _ _ _ _, HB4.out⟩
      · have c2 : decide ((64 : Int) < ((frontT l0).length : Int)) = false := decide_eq_false (by omega)
        rw [if_neg h3] at HM
        clear h3
        go_wp2
        go_ret2
        rw [HM.out]
        exact ⟨_, rfl, HR4.out, HB4.out⟩
    · have c2 : (timesE l0 != 0) = true := by simpa using h2
      have HM : Aside0 (makeF l0 = ([], timesE l0)) := ⟨by unfold makeF; rw [if_neg h1, if_pos h2]⟩
      clear hl h1 h2
      go_enter Try.func16, Try.ntmps16
      go_wp2_with fail
      refine HT.out.mono ?_
      rintro e w1 ⟨rfl, hb1⟩
      have HB1 := Aside0.mk hb1
      clear hb1
      go_wp2
      go_ret2
      rw [HM.out]
      exact ⟨_, rfl, Kd.R_nil _ _ _ _ _, HB1.out⟩
end Go.Proofs.Ytljmamlceofcfaa.V06
namespace Go.Proofs.Ytljmamlceofcfaa.Ext
set_option linter.unusedSimpArgs false
set_option linter.unusedVariables false
open Go Go.Proofs Go.RowKit Go.Sort Go.Proofs.YtljmamlceofcfaaW.PrintWords Go.Proofs.YtljmamlceofcfaaW.PrintLast Go.Proofs.YtljmamlceofcfaaW.PrintMore Go.Proofs.Ytljmamlceofcfaa.Base Go.Proofs.Ytljmamlceofcfaa.Q06t V06
def chain_Make.f (l : List S26) : Option (List S26 × Int) := if l.length ≤ 1000000 then some (V06.makeF l) else none
theorem chain_Make.calls (A0 : Option Addr) (c0 : Nat) (l0 : List S26) (r1 : List S26) (r2 : Int) (w : World) (hr0 : Kd.C k26 w A0 l0.length l0) (hc0 : l0.length ≤ c0) (h : chain_Make.f l0 = some (r1, r2)) :
    Calls Try.prog 16 #[.slice A0 l0.length c0] w fun e w' => ∃ v0_ : Value, e = .returned (.tuple #[v0_, .int .i64 r2]) ∧ Kd.R k26 26 w' w.heap.size (fun _ => True) v0_ r1 ∧ Below w.heap.size w w' := by
  unfold chain_Make.f at h
  split at h
  · rename_i hl
    have h := Option.some.inj h
    have := V06.make_c A0 c0 l0 w hr0 hl
    rw [h] at this
    exact this
  · cases h
def chain_Holds.f (l : List S26) (a0 a1 a2 a3 a4 : Int) : Option Bool := if l.length ≤ 1000000 then some (Fr.holds M06.leR l ⟨a0, a1, a2, a3, a4⟩) else none
theorem chain_Holds.calls (A0 : Option Addr) (c0 : Nat) (l0 : List S26) (a1_0 a1_1 a1_2 a1_3 a1_4 : Int) (r : Bool) (w : World) (hr0 : Kd.C k26 w A0 l0.length l0) (hc0 : l0.length ≤ c0) (h : chain_Holds.f l0 a1_0 a1_1 a1_2 a1_3 a1_4 = some r) :
    Calls Try.prog 21 #[.slice A0 l0.length c0, .agg #[.int .u32 a1_0, .int .i64 a1_1, .int .u32 a1_2, .int .u32 a1_3, .int .u32 a1_4]] w fun e w' => e = .returned (.bool r) ∧ Below w.heap.size w w' := by
  unfold chain_Holds.f at h
  split at h
  · rename_i hl
    obtain rfl := Option.some.inj h
    exact V06.holds_c A0 c0 l0 ⟨a1_0, a1_1, a1_2, a1_3, a1_4⟩ w hr0 hl
  · cases h
def chain_LE.f (l0 l1 : List S26) : Option Bool := if l0.length ≤ 1000000 ∧ l1.length ≤ 1000000 then some (Fr.leF M06.leR l0 l1) else none
theorem chain_LE.calls (A0 : Option Addr) (c0 : Nat) (l0 : List S26) (A1 : Option Addr) (c1 : Nat) (l1 : List S26) (r : Bool) (w : World) (hr0 : Kd.C k26 w A0 l0.length l0) (hc0 : l0.length ≤ c0) (hr1 : Kd.C k26 w A1 l1.length l1) (hc1 : l1.length ≤ c1) (h : chain_LE.f l0 l1 = some r) :
    Calls Try.prog 27 #[.slice A0 l0.length c0, .slice A1 l1.length c1] w fun e w' => e = .returned (.bool r) ∧ Below w.heap.size w w' := by
  unfold chain_LE.f at h
  split at h
  · rename_i hl
    obtain rfl := Option.some.inj h
    exact V06.le_c A0 c0 l0 A1 c1 l1 w hr0 hr1 hl.1 hl.2
  · cases h
end Go.Proofs.Ytljmamlceofcfaa.Ext
