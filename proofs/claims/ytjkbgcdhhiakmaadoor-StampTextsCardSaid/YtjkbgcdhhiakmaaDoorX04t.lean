import Derived.Test.YtjkbgcdhhiakmaaDoorQ04cx
import Derived.Test.YtjkbgcdhhiakmaaDoorPQ04cc
import Derived.Test.YtjkbgcdhhiakmaaDoorX04d
import Derived.Test.YtjkbgcdhhiakmaaDoorSh
import Derived.Test.YtjkbgcdhhiakmaaDoorOpen
import Derived.Lib.Join
/- stamp.Text: a time in writing. -/
namespace Go.Proofs.YtjkbgcdhhiakmaaDoor.Ext
set_option linter.unusedSimpArgs false
open Go.RowKit Go.Proofs.YtjkbgcdhhiakmaaDoorW.PrintWords Go.Proofs.YtjkbgcdhhiakmaaDoorW.PrintLast Go.Proofs.YtjkbgcdhhiakmaaDoorW.PrintMore Go.Proofs.YtjkbgcdhhiakmaaDoor.Base Go.Proofs.YtjkbgcdhhiakmaaDoor.Ar Go.Proofs.YtjkbgcdhhiakmaaDoor.P04

def dot : ByteArray := ⟨#[46]⟩
/-- Words, with points between them. -/
def dots (xs : List ByteArray) : ByteArray := ⟨(Lib.join (xs.map (·.data.toList)) dot.data.toList).toArray⟩
def wordsT (e d a b c : Int) : List ByteArray := if d = 0 then [dgs e] else if d = 1 then [dgs e, dgs a] else if d = 2 then [dgs e, dgs a, dgs b] else [dgs e, dgs a, dgs b, dgs c]
/-- What a time is in writing, and what is wrong. -/
def textF (e d a b c : Int) : ByteArray × Int := if chk e d a b c ≠ 0 then (⟨#[]⟩, chk e d a b c) else (dots (wordsT e d a b c), 0)
theorem dgs_size (v : Int) (h : 0 ≤ v ∧ v < 4294967296) : (dgs v).size ≤ 10 := by
  unfold dgs
  rw [strOfNums_size]
  exact M08.dig_length 9 v.toNat (by omega)
theorem infou32t : (Tryd.prog.info? 22).map (fun i => (i.zero, i.size, i.bytes)) = some (some (.int .u32 0), 1, 4) := by kernel_rfl
theorem infostr : (Tryd.prog.info? 9).map (fun i => (i.zero, i.size, i.bytes)) = some (some (.string ByteArray.empty), 1, 16) := by kernel_rfl
theorem cells_of {w : World} {base : Nat} {g c : Nat} {ok : Nat → Prop} {xs : List ByteArray} (h : Kd.R Kd.string 9 w base ok (.slice (some ⟨g, 0, none⟩) xs.length c) xs) : ∀ (j : Nat) x, xs[j]? = some x → w.cell? ⟨g, 0 + j, none⟩ = some (.string x) := by
  intro j x hj
  obtain ⟨_, _, hC⟩ := Kd.R_reads' h
  obtain ⟨hl, hx⟩ := List.getElem?_eq_some_iff.1 hj
  obtain ⟨ad, e, hc⟩ := Open.at_text hC (j : Int) (by omega) (by omega)
  obtain rfl := Option.some.inj e
  rw [Int.toNat_natCast, List.getD_eq_getElem?_getD, hj] at hc
  have e : ((⟨g, 0, none⟩ : Addr).add j) = ⟨g, 0 + j, none⟩ := by unfold Addr.add; split <;> simp_all
  rw [← e, hc]
  rfl
set_option maxRecDepth 100000 in
set_option maxHeartbeats 4000000 in
theorem stamp_Text_c (e0 d a b c : Int) (w : World) (he : 0 ≤ e0 ∧ e0 < 4294967296) (ha : 0 ≤ a ∧ a < 4294967296) (hb : 0 ≤ b ∧ b < 4294967296) (hc : 0 ≤ c ∧ c < 4294967296) :
    Calls Tryd.prog 8 #[.agg #[.int .u32 e0, .int .i64 d, .int .u32 a, .int .u32 b, .int .u32 c]] w fun e w' => e = .returned (.tuple #[.string (textF e0 d a b c).1, .int .i64 (textF e0 d a b c).2]) ∧ Below w.heap.size w w' := by
  have HB := Aside0.mk (Below.refl w.heap.size w)
  have HCK := Aside0.mk (fun w1 : World => Q04c.stamp_Check.calls 1000 e0 d a b c _ w1 (Check_f 988 e0 d a b c))
  obtain ⟨cv, hcv⟩ : ∃ cv, cv = chk e0 d a b c := ⟨_, rfl⟩
  rw [← hcv] at HCK
  by_cases hz : cv = 0
  case neg =>
    have hz1 : (cv != 0) = true := bne_iff_ne.mpr hz
    have HX : Aside0 (textF e0 d a b c = (⟨#[]⟩, cv)) := ⟨by unfold textF; rw [← hcv, if_pos hz]⟩
    clear hcv hz he ha hb hc
    go_enter Tryd.func8, Tryd.ntmps8
    go_wp2_with (first | (go_at_call 27; refine (HCK.out _).mono ?_; rintro e w1 ⟨rfl, hb⟩; have n0_ := Aside0.mk (below_step (by repeat (first | (with_reducible first | exact HB.out | apply below_alloc | apply pw_below_drewN | apply below_drew1) | exact HB.out)) hb); clear HB hb; have HB := n0_; clear n0_))
    go_ret2
    rw [HX.out]
    exact ⟨rfl, (by repeat (first | (with_reducible first | exact HB.out | apply below_alloc | apply pw_below_drewN | apply below_drew1) | exact HB.out))⟩
  case pos =>
    subst hz
    have hk := chk_ok hcv.symm
    have hz : (¬ (chk e0 d a b c ≠ 0)) := fun h => h hcv.symm
    obtain ⟨ne, hne⟩ : ∃ x, x = dgs e0 := ⟨_, rfl⟩
    obtain ⟨na, hna⟩ : ∃ x, x = dgs a := ⟨_, rfl⟩
    obtain ⟨nb_, hnb⟩ : ∃ x, x = dgs b := ⟨_, rfl⟩
    obtain ⟨nc, hnc⟩ : ∃ x, x = dgs c := ⟨_, rfl⟩
    have he' : ne.size ≤ 10 := hne ▸ dgs_size e0 he
    have ha' : na.size ≤ 10 := hna ▸ dgs_size a ha
    have hb' : nb_.size ≤ 10 := hnb ▸ dgs_size b hb
    have hc' : nc.size ≤ 10 := hnc ▸ dgs_size c hc
    have Ce := Aside0.mk (fun w1 => hne ▸ stamp_digits_c e0 w1 he)
    have Ca := Aside0.mk (fun w1 => hna ▸ stamp_digits_c a w1 ha)
    have Cb := Aside0.mk (fun w1 => hnb ▸ stamp_digits_c b w1 hb)
    have Cc := Aside0.mk (fun w1 => hnc ▸ stamp_digits_c c w1 hc)
    have hd : d = 0 ∨ d = 1 ∨ d = 2 ∨ d = 3 := by omega
    rcases hd with rfl | rfl | rfl | rfl
    · have HX : Aside0 (textF e0 0 a b c = (dots [ne], 0)) := ⟨by unfold textF wordsT; rw [if_neg hz, if_pos rfl]; subst hne; rfl⟩
      have HLEN : Aside0 ((Lib.join ([ne].map (fun x : ByteArray => x.data.toList)) dot.data.toList).length ≤ 140737488355328) := ⟨by
        have z : ∀ x : ByteArray, x.data.toList.length = x.size := fun x => by rw [Array.length_toList]; rfl
        have z1 : dot.size = 1 := rfl
        simp only [Lib.join, List.intercalate, List.map_cons, List.map_nil, List.intersperse, List.flatten_cons, List.flatten_nil, List.length_append, List.length_nil, z, z1]
        omega⟩
      have hs : ∀ W : World, (Instr.sliceAt 23 (.pointer (some ⟨w.heap.size, 2, none⟩)) none (some (.int .i64 0)) none).run Tryd.prog W = .ok (.slice (some ⟨w.heap.size, 2, none⟩) 0 3) W := fun W => sliceAt_to (P := Tryd.prog) Tryd.underlying23 infou32t (by decide) w.heap.size 2 .i64 0 (by decide) W
      clear hk hz hcv he ha hb hc he' ha' hb' hc' hne hna hnb hnc
      go_enter Tryd.func8, Tryd.ntmps8
      have HG := Aside0.mk (blk_new w (.cells #[.int .u32 e0, .int .i64 0, .int .u32 a, .int .u32 b, .int .u32 c] 25))
      replace HB := Aside0.mk (below_alloc (o := .cells #[.int .u32 e0, .int .i64 0, .int .u32 a, .int .u32 b, .int .u32 c] 25) HB.out)
      go_wp2_with fail
      generalize w.alloc _ = w0 at HG HB ⊢
      refine (HCK.out _).mono ?_
      rintro e w1 ⟨rfl, hb⟩
      replace HG := Aside0.mk (blk_below HG.out hb)
      replace HB := Aside0.mk (below_step HB.out hb)
      clear hb
      have q0 := blk_at (i := 0) HG.out rfl
      go_wp2_with fail
      refine (Ce.out _).mono ?_
      rintro e w2 ⟨rfl, hb⟩
      clear q0
      replace HG := Aside0.mk (blk_below HG.out hb)
      replace HB := Aside0.mk (below_step HB.out hb)
      clear hb
      have q0 := fun o => blk_at (i := 0) (Base.blk_alloc HG.out o) rfl
      have q1 := fun o => blk_at (i := 1) (Base.blk_alloc HG.out o) rfl
      have q2 := fun o => blk_at (i := 2) (Base.blk_alloc HG.out o) rfl
      have q3 := fun o => blk_at (i := 3) (Base.blk_alloc HG.out o) rfl
      have q4 := fun o => blk_at (i := 4) (Base.blk_alloc HG.out o) rfl
      go_wp2_with fail
      have HO : Aside0 (Kd.R Kd.string 9 (w2.alloc (.cells #[.string ne] 9)) w.heap.size (fun _ => True) (.slice (some ⟨w2.heap.size, 0, none⟩) 1 1) [ne]) := ⟨Kd.R_of_own (xs := [ne]) (own_lit_of w2 w.heap.size 9 [ne] HB.out.size (by simp)) (fun _ _ => trivial)⟩
      replace HG := Aside0.mk (Base.blk_alloc HG.out (.cells #[.string ne] 9))
      replace HB := Aside0.mk (below_alloc (o := (.cells #[.string ne] 9)) HB.out)
      clear q0 q1 q2 q3 q4
      generalize Value.slice (some ⟨w2.heap.size, 0, none⟩) 1 1 = va at HO ⊢
      generalize w2.alloc _ = W0 at HG HB HO ⊢
      refine wp_loop_rounds 1 ?_
      rw [rounds_succ]
      go_wp2_with fail
      obtain ⟨g, cap, hv, hgb, hgl, _⟩ := Kd.R_form HO.out (by simp)
      subst hv
      obtain ⟨_, hcap, _⟩ := Kd.R_reads' HO.out
      refine (strings_Join g 0 cap [ne] dot _ (cells_of HO.out) hgl (by simp) hcap HLEN.out).mono ?_
      rintro e wz ⟨rfl, hb⟩
      replace HB := Aside0.mk (below_step HB.out hb)
      go_wp2_with fail
      go_ret2
      rw [HX.out]
      exact ⟨rfl, HB.out⟩
    · have HX : Aside0 (textF e0 1 a b c = (dots [ne, na], 0)) := ⟨by unfold textF wordsT; rw [if_neg hz, if_neg (by decide), if_pos rfl]; subst hne hna; rfl⟩
      have HLEN : Aside0 ((Lib.join ([ne, na].map (fun x : ByteArray => x.data.toList)) dot.data.toList).length ≤ 140737488355328) := ⟨by
        have z : ∀ x : ByteArray, x.data.toList.length = x.size := fun x => by rw [Array.length_toList]; rfl
        have z1 : dot.size = 1 := rfl
        simp only [Lib.join, List.intercalate, List.map_cons, List.map_nil, List.intersperse, List.flatten_cons, List.flatten_nil, List.length_append, List.length_nil, z, z1]
        omega⟩
      have hs : ∀ W : World, (Instr.sliceAt 23 (.pointer (some ⟨w.heap.size, 2, none⟩)) none (some (.int .i64 1)) none).run Tryd.prog W = .ok (.slice (some ⟨w.heap.size, 2, none⟩) 1 3) W := fun W => sliceAt_to (P := Tryd.prog) Tryd.underlying23 infou32t (by decide) w.heap.size 2 .i64 1 (by decide) W
      clear hk hz hcv he ha hb hc he' ha' hb' hc' hne hna hnb hnc
      go_enter Tryd.func8, Tryd.ntmps8
      have HG := Aside0.mk (blk_new w (.cells #[.int .u32 e0, .int .i64 1, .int .u32 a, .int .u32 b, .int .u32 c] 25))
      replace HB := Aside0.mk (below_alloc (o := .cells #[.int .u32 e0, .int .i64 1, .int .u32 a, .int .u32 b, .int .u32 c] 25) HB.out)
      go_wp2_with fail
      generalize w.alloc _ = w0 at HG HB ⊢
      refine (HCK.out _).mono ?_
      rintro e w1 ⟨rfl, hb⟩
      replace HG := Aside0.mk (blk_below HG.out hb)
      replace HB := Aside0.mk (below_step HB.out hb)
      clear hb
      have q0 := blk_at (i := 0) HG.out rfl
      go_wp2_with fail
      refine (Ce.out _).mono ?_
      rintro e w2 ⟨rfl, hb⟩
      clear q0
      replace HG := Aside0.mk (blk_below HG.out hb)
      replace HB := Aside0.mk (below_step HB.out hb)
      clear hb
      have q0 := fun o => blk_at (i := 0) (Base.blk_alloc HG.out o) rfl
      have q1 := fun o => blk_at (i := 1) (Base.blk_alloc HG.out o) rfl
      have q2 := fun o => blk_at (i := 2) (Base.blk_alloc HG.out o) rfl
      have q3 := fun o => blk_at (i := 3) (Base.blk_alloc HG.out o) rfl
      have q4 := fun o => blk_at (i := 4) (Base.blk_alloc HG.out o) rfl
      go_wp2_with fail
      have HO : Aside0 (Kd.R Kd.string 9 (w2.alloc (.cells #[.string ne] 9)) w.heap.size (fun _ => True) (.slice (some ⟨w2.heap.size, 0, none⟩) 1 1) [ne]) := ⟨Kd.R_of_own (xs := [ne]) (own_lit_of w2 w.heap.size 9 [ne] HB.out.size (by simp)) (fun _ _ => trivial)⟩
      replace HG := Aside0.mk (Base.blk_alloc HG.out (.cells #[.string ne] 9))
      replace HB := Aside0.mk (below_alloc (o := (.cells #[.string ne] 9)) HB.out)
      clear q0 q1 q2 q3 q4
      generalize Value.slice (some ⟨w2.heap.size, 0, none⟩) 1 1 = va at HO ⊢
      generalize w2.alloc _ = W0 at HG HB HO ⊢
      refine wp_loop_rounds 2 ?_
      have q0 := blk_at (i := 0) HG.out rfl
      have q1 := blk_at (i := 1) HG.out rfl
      have q2 := blk_at (i := 2) HG.out rfl
      have q3 := blk_at (i := 3) HG.out rfl
      have q4 := blk_at (i := 4) HG.out rfl
      rw [rounds_succ]
      go_wp2_with fail
      refine (Ca.out _).mono ?_
      rintro e w3 ⟨rfl, hb⟩
      clear q0 q1 q2 q3 q4
      replace HO := Aside0.mk (Kd.R_below HO.out hb)
      replace HG := Aside0.mk (blk_below HG.out hb)
      replace HB := Aside0.mk (below_step HB.out hb)
      clear hb
      have q0 := blk_at (i := 0) HG.out rfl
      have q1 := blk_at (i := 1) HG.out rfl
      have q2 := blk_at (i := 2) HG.out rfl
      have q3 := blk_at (i := 3) HG.out rfl
      have q4 := blk_at (i := 4) HG.out rfl
      have HNE : Aside0 (some w.heap.size ≠ va.ownBlock) := ⟨Kd.R_ne HO.out HG.out (by decide)⟩
      go_wp2_with (first | ((with_reducible refine gate_builtin (b := .append) (xs := #[.tmp 26, .tmp 29]) rfl ?_); at_builtin; refine Kd.R_append (Kd.string) (w0 := w) w.heap.size rfl (.tmp 26) (.tmp 29) 47 9 (.string ByteArray.empty) 16 rfl Tryd.underlying47 infostr rfl (by decide) (by omega) va [ne] (na) [.string na] (fun _ => True) (fun _ => False) rfl rfl ?aP (fun _ hk => hk.elim) ?aF ?aO ?aB ?aS ?aL ?_; (case aP => exact rfl); (case aB => exact (by repeat (first | (with_reducible first | exact HB.out | apply below_alloc | apply pw_below_drewN | apply below_drew1) | exact HB.out))); (case aF => exact (fun _ _ => trivial)); (case aO => exact (by (with_reducible repeat (first | apply Kd.R_alloc | apply Kd.R_drewN | apply Kd.R_drew)); exact HO.out)); (case aS => exact (below_size (by repeat (first | (with_reducible first | exact HB.out | apply below_alloc | apply pw_below_drewN | apply below_drew1) | exact HB.out)))); (case aL => (simp)); intro va0 wa0 ho hb hg hat; have n0_ := Aside0.mk (hb); have n1_ := Aside0.mk (ho); have n2_ := Aside0.mk (blk_grown HG.out hg HNE.out); clear HB HG HO HNE; have HB := n0_; have HO := n1_; have HG := n2_; clear n0_ n1_ n2_; clear ho hb hg hat q0 q1 q2 q3 q4))
      replace HO : Aside0 (Kd.R Kd.string 9 _ w.heap.size (fun _ => True) va0 [ne, na]) := ⟨HO.out⟩
      rw [rounds_succ]
      go_wp2_with fail
      obtain ⟨g, cap, hv, hgb, hgl, _⟩ := Kd.R_form HO.out (by simp)
      subst hv
      obtain ⟨_, hcap, _⟩ := Kd.R_reads' HO.out
      refine (strings_Join g 0 cap [ne, na] dot _ (cells_of HO.out) hgl (by simp) hcap HLEN.out).mono ?_
      rintro e wz ⟨rfl, hb⟩
      replace HB := Aside0.mk (below_step HB.out hb)
      go_wp2_with fail
      go_ret2
      rw [HX.out]
      exact ⟨rfl, HB.out⟩
    · have HX : Aside0 (textF e0 2 a b c = (dots [ne, na, nb_], 0)) := ⟨by unfold textF wordsT; rw [if_neg hz, if_neg (by decide), if_neg (by decide), if_pos rfl]; subst hne hna hnb; rfl⟩
      have HLEN : Aside0 ((Lib.join ([ne, na, nb_].map (fun x : ByteArray => x.data.toList)) dot.data.toList).length ≤ 140737488355328) := ⟨by
        have z : ∀ x : ByteArray, x.data.toList.length = x.size := fun x => by rw [Array.length_toList]; rfl
        have z1 : dot.size = 1 := rfl
        simp only [Lib.join, List.intercalate, List.map_cons, List.map_nil, List.intersperse, List.flatten_cons, List.flatten_nil, List.length_append, List.length_nil, z, z1]
        omega⟩
      have hs : ∀ W : World, (Instr.sliceAt 23 (.pointer (some ⟨w.heap.size, 2, none⟩)) none (some (.int .i64 2)) none).run Tryd.prog W = .ok (.slice (some ⟨w.heap.size, 2, none⟩) 2 3) W := fun W => sliceAt_to (P := Tryd.prog) Tryd.underlying23 infou32t (by decide) w.heap.size 2 .i64 2 (by decide) W
      clear hk hz hcv he ha hb hc he' ha' hb' hc' hne hna hnb hnc
      go_enter Tryd.func8, Tryd.ntmps8
      have HG := Aside0.mk (blk_new w (.cells #[.int .u32 e0, .int .i64 2, .int .u32 a, .int .u32 b, .int .u32 c] 25))
      replace HB := Aside0.mk (below_alloc (o := .cells #[.int .u32 e0, .int .i64 2, .int .u32 a, .int .u32 b, .int .u32 c] 25) HB.out)
      go_wp2_with fail
      generalize w.alloc _ = w0 at HG HB ⊢
      refine (HCK.out _).mono ?_
      rintro e w1 ⟨rfl, hb⟩
      replace HG := Aside0.mk (blk_below HG.out hb)
      replace HB := Aside0.mk (below_step HB.out hb)
      clear hb
      have q0 := blk_at (i := 0) HG.out rfl
      go_wp2_with fail
      refine (Ce.out _).mono ?_
      rintro e w2 ⟨rfl, hb⟩
      clear q0
      replace HG := Aside0.mk (blk_below HG.out hb)
      replace HB := Aside0.mk (below_step HB.out hb)
      clear hb
      have q0 := fun o => blk_at (i := 0) (Base.blk_alloc HG.out o) rfl
      have q1 := fun o => blk_at (i := 1) (Base.blk_alloc HG.out o) rfl
      have q2 := fun o => blk_at (i := 2) (Base.blk_alloc HG.out o) rfl
      have q3 := fun o => blk_at (i := 3) (Base.blk_alloc HG.out o) rfl
      have q4 := fun o => blk_at (i := 4) (Base.blk_alloc HG.out o) rfl
      go_wp2_with fail
      have HO : Aside0 (Kd.R Kd.string 9 (w2.alloc (.cells #[.string ne] 9)) w.heap.size (fun _ => True) (.slice (some ⟨w2.heap.size, 0, none⟩) 1 1) [ne]) := ⟨Kd.R_of_own (xs := [ne]) (own_lit_of w2 w.heap.size 9 [ne] HB.out.size (by simp)) (fun _ _ => trivial)⟩
      replace HG := Aside0.mk (Base.blk_alloc HG.out (.cells #[.string ne] 9))
      replace HB := Aside0.mk (below_alloc (o := (.cells #[.string ne] 9)) HB.out)
      clear q0 q1 q2 q3 q4
      generalize Value.slice (some ⟨w2.heap.size, 0, none⟩) 1 1 = va at HO ⊢
      generalize w2.alloc _ = W0 at HG HB HO ⊢
      refine wp_loop_rounds 3 ?_
      have q0 := blk_at (i := 0) HG.out rfl
      have q1 := blk_at (i := 1) HG.out rfl
      have q2 := blk_at (i := 2) HG.out rfl
      have q3 := blk_at (i := 3) HG.out rfl
      have q4 := blk_at (i := 4) HG.out rfl
      rw [rounds_succ]
      go_wp2_with fail
      refine (Ca.out _).mono ?_
      rintro e w3 ⟨rfl, hb⟩
      clear q0 q1 q2 q3 q4
      replace HO := Aside0.mk (Kd.R_below HO.out hb)
      replace HG := Aside0.mk (blk_below HG.out hb)
      replace HB := Aside0.mk (below_step HB.out hb)
      clear hb
      have q0 := blk_at (i := 0) HG.out rfl
      have q1 := blk_at (i := 1) HG.out rfl
      have q2 := blk_at (i := 2) HG.out rfl
      have q3 := blk_at (i := 3) HG.out rfl
      have q4 := blk_at (i := 4) HG.out rfl
      have HNE : Aside0 (some w.heap.size ≠ va.ownBlock) := ⟨Kd.R_ne HO.out HG.out (by decide)⟩
      go_wp2_with (first | ((with_reducible refine gate_builtin (b := .append) (xs := #[.tmp 26, .tmp 29]) rfl ?_); at_builtin; refine Kd.R_append (Kd.string) (w0 := w) w.heap.size rfl (.tmp 26) (.tmp 29) 47 9 (.string ByteArray.empty) 16 rfl Tryd.underlying47 infostr rfl (by decide) (by omega) va [ne] (na) [.string na] (fun _ => True) (fun _ => False) rfl rfl ?aP (fun _ hk => hk.elim) ?aF ?aO ?aB ?aS ?aL ?_; (case aP => exact rfl); (case aB => exact (by repeat (first | (with_reducible first | exact HB.out | apply below_alloc | apply pw_below_drewN | apply below_drew1) | exact HB.out))); (case aF => exact (fun _ _ => trivial)); (case aO => exact (by (with_reducible repeat (first | apply Kd.R_alloc | apply Kd.R_drewN | apply Kd.R_drew)); exact HO.out)); (case aS => exact (below_size (by repeat (first | (with_reducible first | exact HB.out | apply below_alloc | apply pw_below_drewN | apply below_drew1) | exact HB.out)))); (case aL => (simp)); intro va0 wa0 ho hb hg hat; have n0_ := Aside0.mk (hb); have n1_ := Aside0.mk (ho); have n2_ := Aside0.mk (blk_grown HG.out hg HNE.out); clear HB HG HO HNE; have HB := n0_; have HO := n1_; have HG := n2_; clear n0_ n1_ n2_; clear ho hb hg hat q0 q1 q2 q3 q4))
      have q0 := blk_at (i := 0) HG.out rfl
      have q1 := blk_at (i := 1) HG.out rfl
      have q2 := blk_at (i := 2) HG.out rfl
      have q3 := blk_at (i := 3) HG.out rfl
      have q4 := blk_at (i := 4) HG.out rfl
      rw [rounds_succ]
      go_wp2_with fail
      refine (Cb.out _).mono ?_
      rintro e w4 ⟨rfl, hb⟩
      clear q0 q1 q2 q3 q4
      replace HO := Aside0.mk (Kd.R_below HO.out hb)
      replace HG := Aside0.mk (blk_below HG.out hb)
      replace HB := Aside0.mk (below_step HB.out hb)
      clear hb
      have q0 := blk_at (i := 0) HG.out rfl
      have q1 := blk_at (i := 1) HG.out rfl
      have q2 := blk_at (i := 2) HG.out rfl
      have q3 := blk_at (i := 3) HG.out rfl
      have q4 := blk_at (i := 4) HG.out rfl
      have HNE : Aside0 (some w.heap.size ≠ va0.ownBlock) := ⟨Kd.R_ne HO.out HG.out (by decide)⟩
      go_wp2_with (first | ((with_reducible refine gate_builtin (b := .append) (xs := #[.tmp 26, .tmp 29]) rfl ?_); at_builtin; refine Kd.R_append (Kd.string) (w0 := w) w.heap.size rfl (.tmp 26) (.tmp 29) 47 9 (.string ByteArray.empty) 16 rfl Tryd.underlying47 infostr rfl (by decide) (by omega) va0 ([ne] ++ [na]) (nb_) [.string nb_] (fun _ => True) (fun _ => False) rfl rfl ?aP (fun _ hk => hk.elim) ?aF ?aO ?aB ?aS ?aL ?_; (case aP => exact rfl); (case aB => exact (by repeat (first | (with_reducible first | exact HB.out | apply below_alloc | apply pw_below_drewN | apply below_drew1) | exact HB.out))); (case aF => exact (fun _ _ => trivial)); (case aO => exact (by (with_reducible repeat (first | apply Kd.R_alloc | apply Kd.R_drewN | apply Kd.R_drew)); exact HO.out)); (case aS => exact (below_size (by repeat (first | (with_reducible first | exact HB.out | apply below_alloc | apply pw_below_drewN | apply below_drew1) | exact HB.out)))); (case aL => (simp)); intro va1 wa1 ho hb hg hat; have n0_ := Aside0.mk (hb); have n1_ := Aside0.mk (ho); have n2_ := Aside0.mk (blk_grown HG.out hg HNE.out); clear HB HG HO HNE; have HB := n0_; have HO := n1_; have HG := n2_; clear n0_ n1_ n2_; clear ho hb hg hat q0 q1 q2 q3 q4))
      replace HO : Aside0 (Kd.R Kd.string 9 _ w.heap.size (fun _ => True) va1 [ne, na, nb_]) := ⟨HO.out⟩
      rw [rounds_succ]
      go_wp2_with fail
      obtain ⟨g, cap, hv, hgb, hgl, _⟩ := Kd.R_form HO.out (by simp)
      subst hv
      obtain ⟨_, hcap, _⟩ := Kd.R_reads' HO.out
      refine (strings_Join g 0 cap [ne, na, nb_] dot _ (cells_of HO.out) hgl (by simp) hcap HLEN.out).mono ?_
      rintro e wz ⟨rfl, hb⟩
      replace HB := Aside0.mk (below_step HB.out hb)
      go_wp2_with fail
      go_ret2
      rw [HX.out]
      exact ⟨rfl, HB.out⟩
    · have HX : Aside0 (textF e0 3 a b c = (dots [ne, na, nb_, nc], 0)) := ⟨by unfold textF wordsT; rw [if_neg hz, if_neg (by decide), if_neg (by decide), if_neg (by decide)]; subst hne hna hnb hnc; rfl⟩
      have HLEN : Aside0 ((Lib.join ([ne, na, nb_, nc].map (fun x : ByteArray => x.data.toList)) dot.data.toList).length ≤ 140737488355328) := ⟨by
        have z : ∀ x : ByteArray, x.data.toList.length = x.size := fun x => by rw [Array.length_toList]; rfl
        have z1 : dot.size = 1 := rfl
        simp only [Lib.join, List.intercalate, List.map_cons, List.map_nil, List.intersperse, List.flatten_cons, List.flatten_nil, List.length_append, List.length_nil, z, z1]
        omega⟩
      have hs : ∀ W : World, (Instr.sliceAt 23 (.pointer (some ⟨w.heap.size, 2, none⟩)) none (some (.int .i64 3)) none).run Tryd.prog W = .ok (.slice (some ⟨w.heap.size, 2, none⟩) 3 3) W := fun W => sliceAt_to (P := Tryd.prog) Tryd.underlying23 infou32t (by decide) w.heap.size 2 .i64 3 (by decide) W
      clear hk hz hcv he ha hb hc he' ha' hb' hc' hne hna hnb hnc
      go_enter Tryd.func8, Tryd.ntmps8
      have HG := Aside0.mk (blk_new w (.cells #[.int .u32 e0, .int .i64 3, .int .u32 a, .int .u32 b, .int .u32 c] 25))
      replace HB := Aside0.mk (below_alloc (o := .cells #[.int .u32 e0, .int .i64 3, .int .u32 a, .int .u32 b, .int .u32 c] 25) HB.out)
      go_wp2_with fail
      generalize w.alloc _ = w0 at HG HB ⊢
      refine (HCK.out _).mono ?_
      rintro e w1 ⟨rfl, hb⟩
      replace HG := Aside0.mk (blk_below HG.out hb)
      replace HB := Aside0.mk (below_step HB.out hb)
      clear hb
      have q0 := blk_at (i := 0) HG.out rfl
      go_wp2_with fail
      refine (Ce.out _).mono ?_
      rintro e w2 ⟨rfl, hb⟩
      clear q0
      replace HG := Aside0.mk (blk_below HG.out hb)
      replace HB := Aside0.mk (below_step HB.out hb)
      clear hb
      have q0 := fun o => blk_at (i := 0) (Base.blk_alloc HG.out o) rfl
      have q1 := fun o => blk_at (i := 1) (Base.blk_alloc HG.out o) rfl
      have q2 := fun o => blk_at (i := 2) (Base.blk_alloc HG.out o) rfl
      have q3 := fun o => blk_at (i := 3) (Base.blk_alloc HG.out o) rfl
      have q4 := fun o => blk_at (i := 4) (Base.blk_alloc HG.out o) rfl
      go_wp2_with fail
      have HO : Aside0 (Kd.R Kd.string 9 (w2.alloc (.cells #[.string ne] 9)) w.heap.size (fun _ => True) (.slice (some ⟨w2.heap.size, 0, none⟩) 1 1) [ne]) := ⟨Kd.R_of_own (xs := [ne]) (own_lit_of w2 w.heap.size 9 [ne] HB.out.size (by simp)) (fun _ _ => trivial)⟩
      replace HG := Aside0.mk (Base.blk_alloc HG.out (.cells #[.string ne] 9))
      replace HB := Aside0.mk (below_alloc (o := (.cells #[.string ne] 9)) HB.out)
      clear q0 q1 q2 q3 q4
      generalize Value.slice (some ⟨w2.heap.size, 0, none⟩) 1 1 = va at HO ⊢
      generalize w2.alloc _ = W0 at HG HB HO ⊢
      refine wp_loop_rounds 4 ?_
      have q0 := blk_at (i := 0) HG.out rfl
      have q1 := blk_at (i := 1) HG.out rfl
      have q2 := blk_at (i := 2) HG.out rfl
      have q3 := blk_at (i := 3) HG.out rfl
      have q4 := blk_at (i := 4) HG.out rfl
      rw [rounds_succ]
      go_wp2_with fail
      refine (Ca.out _).mono ?_
      rintro e w3 ⟨rfl, hb⟩
      clear q0 q1 q2 q3 q4
      replace HO := Aside0.mk (Kd.R_below HO.out hb)
      replace HG := Aside0.mk (blk_below HG.out hb)
      replace HB := Aside0.mk (below_step HB.out hb)
      clear hb
      have q0 := blk_at (i := 0) HG.out rfl
      have q1 := blk_at (i := 1) HG.out rfl
      have q2 := blk_at (i := 2) HG.out rfl
      have q3 := blk_at (i := 3) HG.out rfl
      have q4 := blk_at (i := 4) HG.out rfl
      have HNE : Aside0 (some w.heap.size ≠ va.ownBlock) := ⟨Kd.R_ne HO.out HG.out (by decide)⟩
      go_wp2_with (first | ((with_reducible refine gate_builtin (b := .append) (xs := #[.tmp 26, .tmp 29]) rfl ?_); at_builtin; refine Kd.R_append (Kd.string) (w0 := w) w.heap.size rfl (.tmp 26) (.tmp 29) 47 9 (.string ByteArray.empty) 16 rfl Tryd.underlying47 infostr rfl (by decide) (by omega) va [ne] (na) [.string na] (fun _ => True) (fun _ => False) rfl rfl ?aP (fun _ hk => hk.elim) ?aF ?aO ?aB ?aS ?aL ?_; (case aP => exact rfl); (case aB => exact (by repeat (first | (with_reducible first | exact HB.out | apply below_alloc | apply pw_below_drewN | apply below_drew1) | exact HB.out))); (case aF => exact (fun _ _ => trivial)); (case aO => exact (by (with_reducible repeat (first | apply Kd.R_alloc | apply Kd.R_drewN | apply Kd.R_drew)); exact HO.out)); (case aS => exact (below_size (by repeat (first | (with_reducible first | exact HB.out | apply below_alloc | apply pw_below_drewN | apply below_drew1) | exact HB.out)))); (case aL => (simp)); intro va0 wa0 ho hb hg hat; have n0_ := Aside0.mk (hb); have n1_ := Aside0.mk (ho); have n2_ := Aside0.mk (blk_grown HG.out hg HNE.out); clear HB HG HO HNE; have HB := n0_; have HO := n1_; have HG := n2_; clear n0_ n1_ n2_; clear ho hb hg hat q0 q1 q2 q3 q4))
      have q0 := blk_at (i := 0) HG.out rfl
      have q1 := blk_at (i := 1) HG.out rfl
      have q2 := blk_at (i := 2) HG.out rfl
      have q3 := blk_at (i := 3) HG.out rfl
      have q4 := blk_at (i := 4) HG.out rfl
      rw [rounds_succ]
      go_wp2_with fail
      refine (Cb.out _).mono ?_
      rintro e w4 ⟨rfl, hb⟩
      clear q0 q1 q2 q3 q4
      replace HO := Aside0.mk (Kd.R_below HO.out hb)
      replace HG := Aside0.mk (blk_below HG.out hb)
      replace HB := Aside0.mk (below_step HB.out hb)
      clear hb
      have q0 := blk_at (i := 0) HG.out rfl
      have q1 := blk_at (i := 1) HG.out rfl
      have q2 := blk_at (i := 2) HG.out rfl
      have q3 := blk_at (i := 3) HG.out rfl
      have q4 := blk_at (i := 4) HG.out rfl
      have HNE : Aside0 (some w.heap.size ≠ va0.ownBlock) := ⟨Kd.R_ne HO.out HG.out (by decide)⟩
      go_wp2_with (first | ((with_reducible refine gate_builtin (b := .append) (xs := #[.tmp 26, .tmp 29]) rfl ?_); at_builtin; refine Kd.R_append (Kd.string) (w0 := w) w.heap.size rfl (.tmp 26) (.tmp 29) 47 9 (.string ByteArray.empty) 16 rfl Tryd.underlying47 infostr rfl (by decide) (by omega) va0 ([ne] ++ [na]) (nb_) [.string nb_] (fun _ => True) (fun _ => False) rfl rfl ?aP (fun _ hk => hk.elim) ?aF ?aO ?aB ?aS ?aL ?_; (case aP => exact rfl); (case aB => exact (by repeat (first | (with_reducible first | exact HB.out | apply below_alloc | apply pw_below_drewN | apply below_drew1) | exact HB.out))); (case aF => exact (fun _ _ => trivial)); (case aO => exact (by (with_reducible repeat (first | apply Kd.R_alloc | apply Kd.R_drewN | apply Kd.R_drew)); exact HO.out)); (case aS => exact (below_size (by repeat (first | (with_reducible first | exact HB.out | apply below_alloc | apply pw_below_drewN | apply below_drew1) | exact HB.out)))); (case aL => (simp)); intro va1 wa1 ho hb hg hat; have n0_ := Aside0.mk (hb); have n1_ := Aside0.mk (ho); have n2_ := Aside0.mk (blk_grown HG.out hg HNE.out); clear HB HG HO HNE; have HB := n0_; have HO := n1_; have HG := n2_; clear n0_ n1_ n2_; clear ho hb hg hat q0 q1 q2 q3 q4))
      have q0 := blk_at (i := 0) HG.out rfl
      have q1 := blk_at (i := 1) HG.out rfl
      have q2 := blk_at (i := 2) HG.out rfl
      have q3 := blk_at (i := 3) HG.out rfl
      have q4 := blk_at (i := 4) HG.out rfl
      rw [rounds_succ]
      go_wp2_with fail
      refine (Cc.out _).mono ?_
      rintro e w5 ⟨rfl, hb⟩
      clear q0 q1 q2 q3 q4
      replace HO := Aside0.mk (Kd.R_below HO.out hb)
      replace HG := Aside0.mk (blk_below HG.out hb)
      replace HB := Aside0.mk (below_step HB.out hb)
      clear hb
      have q0 := blk_at (i := 0) HG.out rfl
      have q1 := blk_at (i := 1) HG.out rfl
      have q2 := blk_at (i := 2) HG.out rfl
      have q3 := blk_at (i := 3) HG.out rfl
      have q4 := blk_at (i := 4) HG.out rfl
      have HNE : Aside0 (some w.heap.size ≠ va1.ownBlock) := ⟨Kd.R_ne HO.out HG.out (by decide)⟩
      go_wp2_with (first | ((with_reducible refine gate_builtin (b := .append) (xs := #[.tmp 26, .tmp 29]) rfl ?_); at_builtin; refine Kd.R_append (Kd.string) (w0 := w) w.heap.size rfl (.tmp 26) (.tmp 29) 47 9 (.string ByteArray.empty) 16 rfl Tryd.underlying47 infostr rfl (by decide) (by omega) va1 (([ne] ++ [na]) ++ [nb_]) (nc) [.string nc] (fun _ => True) (fun _ => False) rfl rfl ?aP (fun _ hk => hk.elim) ?aF ?aO ?aB ?aS ?aL ?_; (case aP => exact rfl); (case aB => exact (by repeat (first | (with_reducible first | exact HB.out | apply below_alloc | apply pw_below_drewN | apply below_drew1) | exact HB.out))); (case aF => exact (fun _ _ => trivial)); (case aO => exact (by (with_reducible repeat (first | apply Kd.R_alloc | apply Kd.R_drewN | apply Kd.R_drew)); exact HO.out)); (case aS => exact (below_size (by repeat (first | (with_reducible first | exact HB.out | apply below_alloc | apply pw_below_drewN | apply below_drew1) | exact HB.out)))); (case aL => (simp)); intro va2 wa2 ho hb hg hat; have n0_ := Aside0.mk (hb); have n1_ := Aside0.mk (ho); have n2_ := Aside0.mk (blk_grown HG.out hg HNE.out); clear HB HG HO HNE; have HB := n0_; have HO := n1_; have HG := n2_; clear n0_ n1_ n2_; clear ho hb hg hat q0 q1 q2 q3 q4))
      replace HO : Aside0 (Kd.R Kd.string 9 _ w.heap.size (fun _ => True) va2 [ne, na, nb_, nc]) := ⟨HO.out⟩
      rw [rounds_succ]
      go_wp2_with fail
      obtain ⟨g, cap, hv, hgb, hgl, _⟩ := Kd.R_form HO.out (by simp)
      subst hv
      obtain ⟨_, hcap, _⟩ := Kd.R_reads' HO.out
      refine (strings_Join g 0 cap [ne, na, nb_, nc] dot _ (cells_of HO.out) hgl (by simp) hcap HLEN.out).mono ?_
      rintro e wz ⟨rfl, hb⟩
      replace HB := Aside0.mk (below_step HB.out hb)
      go_wp2_with fail
      go_ret2
      rw [HX.out]
      exact ⟨rfl, HB.out⟩
def stamp_Text.f (e d a b c : Int) : Option (ByteArray × Int) := if (0 ≤ e ∧ e < 4294967296) ∧ (0 ≤ a ∧ a < 4294967296) ∧ (0 ≤ b ∧ b < 4294967296) ∧ (0 ≤ c ∧ c < 4294967296) then some (textF e d a b c) else none
theorem stamp_Text.calls (a0_0 a0_1 a0_2 a0_3 a0_4 : Int) (r1 : ByteArray) (r2 : Int) (w : World) (h : stamp_Text.f a0_0 a0_1 a0_2 a0_3 a0_4 = some (r1, r2)) :
    Calls Tryd.prog 8 #[.agg #[.int .u32 a0_0, .int .i64 a0_1, .int .u32 a0_2, .int .u32 a0_3, .int .u32 a0_4]] w fun e w' => e = .returned (.tuple #[.string r1, .int .i64 r2]) ∧ Below w.heap.size w w' := by
  unfold stamp_Text.f at h
  split at h
  · rename_i hc
    have e := Option.some.inj h
    have := stamp_Text_c a0_0 a0_1 a0_2 a0_3 a0_4 w hc.1 hc.2.1 hc.2.2.1 hc.2.2.2
    rw [e] at this
    exact this
  · cases h
end Go.Proofs.YtjkbgcdhhiakmaaDoor.Ext
