import Derived.Test.YtogainbkidgkhaaP12F
section
/- The contracts of oper.Goes and watershedref12.Goes. -/
namespace Go.Proofs.Ytogainbkidgkhaa.J12
set_option linter.unusedSimpArgs false
set_option linter.unusedVariables false
open Go.RowKit Go.Proofs.YtogainbkidgkhaaW.PrintWords Go.Proofs.YtogainbkidgkhaaW.PrintLast Go.Proofs.YtogainbkidgkhaaW.PrintMore Go.Proofs.Ytogainbkidgkhaa.Base Go.Proofs.Ytogainbkidgkhaa.Q12f F12 P12F
abbrev R := S25
def goesF (kd a b : Int) (l : List R) : List R := if 11 ≤ kd ∧ kd ≤ 14 then foldsF kd l else P12.eachF kd a b l
theorem Goes_calls (nm : ByteArray) (kd c d a b : Int) (A : Option Addr) (c1 : Nat) (l : List R) (w : World) (hr : Kd.C k25 w A l.length l) (hc : l.length ≤ c1) (hl : l.length ≤ 300) (hw : l.all wfR = true) :
    Calls Try.prog 19 #[.agg #[.string nm, .int .i64 kd, .int .i64 c, .int .i64 d, .int .i64 a, .int .i64 b], .slice A l.length c1] w fun e w' => ∃ v0_ : Value, e = .returned v0_ ∧ Kd.R k25 25 w' w.heap.size (fun _ => True) v0_ (goesF kd a b l) ∧ Below w.heap.size w w' := by
  have HR := Aside0.mk hr
  have HL : Aside0 (l.length ≤ c1 ∧ l.length ≤ 300 ∧ l.all wfR = true) := ⟨hc, hl, hw⟩
  clear hr hc hl hw
  go_enter Try.func19, Try.ntmps19
  go_wp2_with fail
  have hb0 := below_alloc (Below.refl w.heap.size w) (.cells #[.string nm, .int .i64 kd, .int .i64 c, .int .i64 d, .int .i64 a, .int .i64 b] 29)
  have HB0 := Aside0.mk hb0
  have HG := Aside0.mk (blk_new w (.cells #[.string nm, .int .i64 kd, .int .i64 c, .int .i64 d, .int .i64 a, .int .i64 b] 29))
  have HS0 : Aside0 (w.heap.size ≤ (w.alloc (.cells #[.string nm, .int .i64 kd, .int .i64 c, .int .i64 d, .int .i64 a, .int .i64 b] 29)).heap.size) := ⟨hb0.size⟩
  clear hb0
  generalize w.alloc _ = w0 at HB0 HG HS0 ⊢
  generalize hgE : w.heap.size = g at HG ⊢
  have HGE := Aside0.mk hgE
  clear hgE
  by_cases hk : 11 ≤ kd ∧ kd ≤ 14
  · refine (Ext.oper_Fold.calls kd A c1 l (foldsF kd l) 0 w0 (Kd.C_below HR.out HB0.out) HL.out.1 (by rw [Fold_f kd l HL.out.2.1 HL.out.2.2, if_pos hk])).mono ?_
    rintro e w1 ⟨v, rfl, hq, hb⟩
    have hgo : goesF kd a b l = foldsF kd l := if_pos hk
    have HQ := Aside0.mk hq
    have HB1 := Aside0.mk (below_step HB0.out hb)
    have HGO := Aside0.mk hgo
    clear hq hb hgo hk
    go_wp2
    go_ret
    exact ⟨v, rfl, by rw [HGO.out]; exact Kd.R_lower HQ.out HS0.out, HB1.out⟩
  · refine (Ext.oper_Fold.calls kd A c1 l [] 70 w0 (Kd.C_below HR.out HB0.out) HL.out.1 (by rw [Fold_f kd l HL.out.2.1 HL.out.2.2, if_neg hk])).mono ?_
    rintro e w1 ⟨v, rfl, hq, hb⟩
    have hgo : goesF kd a b l = P12.eachF kd a b l := if_neg hk
    have HB1 := Aside0.mk (below_step HB0.out hb)
    have HGO := Aside0.mk hgo
    have HG1 := Aside0.mk (blk_below HG.out hb)
    have r0 := blk_at (i := 0) HG1.out rfl
    have r1 := blk_at (i := 1) HG1.out rfl
    have r2 := blk_at (i := 2) HG1.out rfl
    have r3 := blk_at (i := 3) HG1.out rfl
    have r4 := blk_at (i := 4) HG1.out rfl
    have r5 := blk_at (i := 5) HG1.out rfl
    clear hq hb hgo hk
    go_wp2_with fail
    refine (oper_Each.calls 1000 nm kd c d a b A c1 l _ w1 (Kd.C_below HR.out HB1.out) HL.out.1 (P12.Each_f 1000 nm kd c d a b l (by have := HL.out; omega) (by have := HL.out; omega))).mono ?_
    rintro e w2 ⟨v2, rfl, hq2, hb2⟩
    have HQ := Aside0.mk hq2
    have HB2 := Aside0.mk (below_step HB1.out hb2)
    clear hq2 hb2 r0 r1 r2 r3 r4 r5
    go_wp2
    go_ret
    exact ⟨v2, rfl, by rw [HGO.out]; exact Kd.R_lower HQ.out HB1.out.size, HB2.out⟩
theorem refGoes_calls (nm : ByteArray) (kd c d a b : Int) (A : Option Addr) (c1 : Nat) (l : List R) (w : World) (hr : Kd.C k25 w A l.length l) (hc : l.length ≤ c1) (hl : l.length ≤ 300) :
    Calls Try.prog 20 #[.agg #[.string nm, .int .i64 kd, .int .i64 c, .int .i64 d, .int .i64 a, .int .i64 b], .slice A l.length c1] w fun e w' => ∃ v0_ : Value, e = .returned v0_ ∧ Kd.R k25 25 w' w.heap.size (fun _ => True) v0_ (goesF kd a b l) ∧ Below w.heap.size w w' := by
  have HR := Aside0.mk hr
  have HL : Aside0 (l.length ≤ c1 ∧ l.length ≤ 300) := ⟨hc, hl⟩
  clear hr hc hl
  go_enter Try.func20, Try.ntmps20
  go_wp2_with fail
  have hb0 := below_alloc (Below.refl w.heap.size w) (.cells #[.string nm, .int .i64 kd, .int .i64 c, .int .i64 d, .int .i64 a, .int .i64 b] 23)
  have HB0 := Aside0.mk hb0
  have HG := Aside0.mk (blk_new w (.cells #[.string nm, .int .i64 kd, .int .i64 c, .int .i64 d, .int .i64 a, .int .i64 b] 23))
  have HS0 : Aside0 (w.heap.size ≤ (w.alloc (.cells #[.string nm, .int .i64 kd, .int .i64 c, .int .i64 d, .int .i64 a, .int .i64 b] 23)).heap.size) := ⟨hb0.size⟩
  clear hb0
  generalize w.alloc _ = w0 at HB0 HG HS0 ⊢
  generalize hgE : w.heap.size = g at HG ⊢
  have HGE := Aside0.mk hgE
  clear hgE
  by_cases hk : 11 ≤ kd ∧ kd ≤ 14
  · refine (watershedref12_Keeps.calls kd true _ (by rw [P12.refKeeps_f, decide_eq_true hk])).mono ?_
    rintro e wk ⟨rfl, nd, rfl⟩
    have HB0' := Aside0.mk (pw_below_drewN HB0.out nd)
    have HS0' : Aside0 (w.heap.size ≤ (w0.drewN nd).heap.size) := ⟨HB0'.out.size⟩
    have HG' := Aside0.mk (blk_below HG.out (pw_below_drewN (Below.refl _ _) nd))
    clear HB0 HS0 HG
    have HB0 := HB0'
    have HS0 := HS0'
    have HG := HG'
    clear HB0' HS0' HG'
    generalize w0.drewN nd = w0 at HB0 HS0 HG ⊢
    have r1 := blk_at (i := 1) HG.out rfl
    go_wp2_with fail
    refine (Ext.watershedref12_Fold.calls kd A c1 l (foldsF kd l) 0 w0 (Kd.C_below HR.out HB0.out) HL.out.1 (by rw [refFold_f kd l HL.out.2, if_pos hk])).mono ?_
    rintro e w1 ⟨v, rfl, hq, hb⟩
    have hgo : goesF kd a b l = foldsF kd l := if_pos hk
    have HQ := Aside0.mk hq
    have HB1 := Aside0.mk (below_step HB0.out hb)
    have HGO := Aside0.mk hgo
    clear hq hb hgo hk
    go_wp2
    go_ret
    exact ⟨v, rfl, by rw [HGO.out]; exact Kd.R_lower HQ.out HS0.out, HB1.out⟩
  · refine (watershedref12_Keeps.calls kd false _ (by rw [P12.refKeeps_f, decide_eq_false hk])).mono ?_
    rintro e wk ⟨rfl, nd, rfl⟩
    have hq := trivial
    have hb := pw_below_drewN (Below.refl w0.heap.size w0) nd
    generalize w0.drewN nd = w1 at hb ⊢
    have hgo : goesF kd a b l = P12.eachF kd a b l := if_neg hk
    have HB1 := Aside0.mk (below_step HB0.out hb)
    have HGO := Aside0.mk hgo
    have HG1 := Aside0.mk (blk_below HG.out hb)
    have r0 := blk_at (i := 0) HG1.out rfl
    have r1 := blk_at (i := 1) HG1.out rfl
    have r2 := blk_at (i := 2) HG1.out rfl
    have r3 := blk_at (i := 3) HG1.out rfl
    have r4 := blk_at (i := 4) HG1.out rfl
    have r5 := blk_at (i := 5) HG1.out rfl
    clear hq hb hgo hk
    go_wp2_with fail
    refine (watershedref12_Each.calls 1000 nm kd c d a b A c1 l _ w1 (Kd.C_below HR.out HB1.out) HL.out.1 (P12.refEach_f 1000 nm kd c d a b l (by have := HL.out; omega) (by have := HL.out; omega))).mono ?_
    rintro e w2 ⟨v2, rfl, hq2, hb2⟩
    have HQ := Aside0.mk hq2
    have HB2 := Aside0.mk (below_step HB1.out hb2)
    clear hq2 hb2 r0 r1 r2 r3 r4 r5
    go_wp2
    go_ret
    exact ⟨v2, rfl, by rw [HGO.out]; exact Kd.R_lower HQ.out HB1.out.size, HB2.out⟩
end Go.Proofs.Ytogainbkidgkhaa.J12
end
section
/- The contract of oper.Goes in the form that the printed texts call. -/
namespace Go.Proofs.Ytogainbkidgkhaa.Ext
set_option linter.unusedVariables false
open Go.RowKit Go.Proofs.YtogainbkidgkhaaW.PrintWords Go.Proofs.YtogainbkidgkhaaW.PrintLast Go.Proofs.YtogainbkidgkhaaW.PrintMore Go.Proofs.Ytogainbkidgkhaa.Base Go.Proofs.Ytogainbkidgkhaa.Q12f F12
def oper_Goes.f (a0_0 : ByteArray) (a0_1 a0_2 a0_3 a0_4 a0_5 : Int) (l1 : List S25) : Option (List S25) := if l1.length ≤ 300 ∧ l1.all wfR = true then some (J12.goesF a0_1 a0_4 a0_5 l1) else none
theorem oper_Goes.calls (a0_0 : ByteArray) (a0_1 : Int) (a0_2 : Int) (a0_3 : Int) (a0_4 : Int) (a0_5 : Int) (A1 : Option Addr) (c1 : Nat) (l1 : List S25) (r : List S25) (w : World) (hr1 : Kd.C k25 w A1 l1.length l1) (hc1 : l1.length ≤ c1) (h : oper_Goes.f a0_0 a0_1 a0_2 a0_3 a0_4 a0_5 l1 = some r) :
    Calls Try.prog 19 #[.agg #[.string a0_0, .int .i64 a0_1, .int .i64 a0_2, .int .i64 a0_3, .int .i64 a0_4, .int .i64 a0_5], .slice A1 l1.length c1] w fun e w' => ∃ v0_ : Value, e = .returned v0_ ∧ Kd.R k25 25 w' w.heap.size (fun _ => True) v0_ r ∧ Below w.heap.size w w' := by
  unfold oper_Goes.f at h
  split at h
  · rename_i hh
    cases h
    exact J12.Goes_calls a0_0 a0_1 a0_2 a0_3 a0_4 a0_5 A1 c1 l1 w hr1 hc1 hh.1 hh.2
  · cases h
end Go.Proofs.Ytogainbkidgkhaa.Ext
end
