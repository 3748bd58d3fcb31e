import Derived.Test.YtjkbgcdhhiakmaaDoorQ04cx
import Derived.Test.YtjkbgcdhhiakmaaDoorPQ04cc
import Derived.Test.YtjkbgcdhhiakmaaDoorX02
import Derived.Test.YtjkbgcdhhiakmaaDoorAr
/- stamp.Write: the time's bytes. -/
namespace Go.Proofs.YtjkbgcdhhiakmaaDoor.Ext
set_option linter.unusedSimpArgs false
open Go.RowKit Go.Proofs.YtjkbgcdhhiakmaaDoorW.PrintWords Go.Proofs.YtjkbgcdhhiakmaaDoorW.PrintLast Go.Proofs.YtjkbgcdhhiakmaaDoorW.PrintMore Go.Proofs.YtjkbgcdhhiakmaaDoor.Base Go.Proofs.YtjkbgcdhhiakmaaDoor.Ar Go.Proofs.YtjkbgcdhhiakmaaDoor.P04

/-- A number's bytes, as a string. -/
def nb (v : Int) : ByteArray := strOfNums (M02.leb 9 v)
theorem nb_size (v : Int) : (nb v).size ≤ 10 := by unfold nb; rw [strOfNums_size]; exact M02.leb_length 9 v
theorem code_Num_n (v : Int) (w : World) (h : 0 ≤ v ∧ v < 18446744073709551616) : Calls Tryd.prog 40 #[.int .u64 v] w fun e w' => e = .returned (.string (nb v)) ∧ Below w.heap.size w w' := C02.code_Num v w h.1 h.2
/-- What a time's bytes are, and what is wrong. -/
def writeF (e d a b c : Int) : ByteArray × Int :=
  if chk e d a b c ≠ 0 then (⟨#[]⟩, chk e d a b c) else if d = 0 then (nb 0 ++ nb e, 0) else if d = 1 then (nb 1 ++ nb e ++ nb a, 0) else if d = 2 then (nb 2 ++ nb e ++ nb a ++ nb b, 0) else (nb 3 ++ nb e ++ nb a ++ nb b ++ nb c, 0)
theorem infou32w : (Tryd.prog.info? 22).map (fun i => (i.zero, i.size, i.bytes)) = some (some (.int .u32 0), 1, 4) := by kernel_rfl
set_option maxRecDepth 100000 in
set_option maxHeartbeats 4000000 in
theorem stamp_Write_c (e0 d a b c : Int) (w : World) (he : 0 ≤ e0 ∧ e0 < 4294967296) (ha : 0 ≤ a ∧ a < 4294967296) (hb : 0 ≤ b ∧ b < 4294967296) (hc : 0 ≤ c ∧ c < 4294967296) :
    Calls Tryd.prog 21 #[.agg #[.int .u32 e0, .int .i64 d, .int .u32 a, .int .u32 b, .int .u32 c]] w fun e w' => e = .returned (.tuple #[.string (writeF e0 d a b c).1, .int .i64 (writeF e0 d a b c).2]) ∧ Below w.heap.size w w' := by
  have HB := Aside0.mk (Below.refl w.heap.size w)
  have HCK := Aside0.mk (fun w1 : World => Q04c.stamp_Check.calls 1000 e0 d a b c _ w1 (Check_f 988 e0 d a b c))
  obtain ⟨cv, hcv⟩ : ∃ cv, cv = chk e0 d a b c := ⟨_, rfl⟩
  rw [← hcv] at HCK
  by_cases hz : cv = 0
  case neg =>
    have hz1 : (cv != 0) = true := bne_iff_ne.mpr hz
    have HX : Aside0 (writeF e0 d a b c = (⟨#[]⟩, cv)) := ⟨by unfold writeF; rw [← hcv, if_pos hz]⟩
    clear hcv hz he ha hb hc
    go_enter Tryd.func21, Tryd.ntmps21
    go_wp2_with (first | (go_at_call 27; refine (HCK.out _).mono ?_; rintro e w1 ⟨rfl, hb⟩; have n0_ := Aside0.mk (below_step (by repeat (first | (with_reducible first | exact HB.out | apply below_alloc | apply pw_below_drewN | apply below_drew1) | exact HB.out)) hb); clear HB hb; have HB := n0_; clear n0_))
    go_ret2
    rw [HX.out]
    exact ⟨rfl, (by repeat (first | (with_reducible first | exact HB.out | apply below_alloc | apply pw_below_drewN | apply below_drew1) | exact HB.out))⟩
  case pos =>
    subst hz
    have hk := chk_ok hcv.symm
    have hz : (¬ (chk e0 d a b c ≠ 0)) := fun h => h hcv.symm
    have we : IntKind.u64.wrap e0 = e0 := (IntKind.wrap_u64 _).trans (by omega)
    have wa : IntKind.u64.wrap a = a := (IntKind.wrap_u64 _).trans (by omega)
    have wb : IntKind.u64.wrap b = b := (IntKind.wrap_u64 _).trans (by omega)
    have wc : IntKind.u64.wrap c = c := (IntKind.wrap_u64 _).trans (by omega)
    have Be : Aside0 (0 ≤ e0 ∧ e0 < 18446744073709551616) := ⟨by omega⟩
    have Ba : Aside0 (0 ≤ a ∧ a < 18446744073709551616) := ⟨by omega⟩
    have Bb : Aside0 (0 ≤ b ∧ b < 18446744073709551616) := ⟨by omega⟩
    have Bc : Aside0 (0 ≤ c ∧ c < 18446744073709551616) := ⟨by omega⟩
    obtain ⟨ne, hne⟩ : ∃ x, x = nb e0 := ⟨_, rfl⟩
    obtain ⟨na, hna⟩ : ∃ x, x = nb a := ⟨_, rfl⟩
    obtain ⟨nb_, hnb⟩ : ∃ x, x = nb b := ⟨_, rfl⟩
    obtain ⟨nc, hnc⟩ : ∃ x, x = nb c := ⟨_, rfl⟩
    have he' := nb_size e0
    have ha' := nb_size a
    have hb' := nb_size b
    have hc' := nb_size c
    have Ce := Aside0.mk (fun w1 => hne ▸ code_Num_n e0 w1 Be.out)
    have Ca := Aside0.mk (fun w1 => hna ▸ code_Num_n a w1 Ba.out)
    have Cb := Aside0.mk (fun w1 => hnb ▸ code_Num_n b w1 Bb.out)
    have Cc := Aside0.mk (fun w1 => hnc ▸ code_Num_n c w1 Bc.out)
    have hd : d = 0 ∨ d = 1 ∨ d = 2 ∨ d = 3 := by omega
    rcases hd with rfl | rfl | rfl | rfl
    · obtain ⟨nd, hnd⟩ : ∃ x, x = nb 0 := ⟨_, rfl⟩
      have hd' := nb_size 0
      have Cd := Aside0.mk (fun w1 => hnd ▸ code_Num_n 0 w1 ⟨by omega, by omega⟩)
      have HX : Aside0 (writeF e0 0 a b c = (nd ++ ne, 0)) := ⟨by unfold writeF; rw [if_neg hz, if_pos rfl]; subst hnd hne; rfl⟩
      have s0 : (9223372036854775807 < nd.size + ne.size) = False := eq_false (by subst hnd hne; omega)
      have hs : ∀ W : World, (Instr.sliceAt 23 (.pointer (some ⟨w.heap.size, 2, none⟩)) none (some (.int .i64 0)) none).run Tryd.prog W = .ok (.slice (some ⟨w.heap.size, 2, none⟩) 0 3) W := fun W => sliceAt_to (P := Tryd.prog) Tryd.underlying23 infou32w (by decide) w.heap.size 2 .i64 0 (by decide) W
      have wd : IntKind.u64.wrap 0 = 0 := rfl
      clear hk hz hcv he ha hb hc he' ha' hb' hc' hd' hne hna hnb hnc hnd Be Ba Bb Bc
      go_enter Tryd.func21, Tryd.ntmps21
      have HG := Aside0.mk (blk_new w (.cells #[.int .u32 e0, .int .i64 0, .int .u32 a, .int .u32 b, .int .u32 c] 25))
      replace HB := Aside0.mk (below_alloc (o := .cells #[.int .u32 e0, .int .i64 0, .int .u32 a, .int .u32 b, .int .u32 c] 25) HB.out)
      go_wp2_with fail
      generalize w.alloc _ = w0 at HG HB ⊢
      refine (HCK.out _).mono ?_
      rintro e w1 ⟨rfl, hb⟩
      replace HG := Aside0.mk (blk_below HG.out hb)
      replace HB := Aside0.mk (below_step HB.out hb)
      clear hb
      go_wp2_with fail
      refine start_ (n := 10) (S := fun w' => w'.cell? ⟨w.heap.size, 1, none⟩ = some (.int .i64 0) ∧ w'.cell? ⟨w.heap.size, 0, none⟩ = some (.int .u32 e0)) (ds := []) #[false, false, false, false, false, false, false, false, false, false] (by kernel_rfl) rfl rfl ⟨blk_at (i := 1) HG.out rfl, blk_at (i := 0) HG.out rfl⟩ (fun hHeld => ?_)
      refine pure_ (i := 0) (N := some 13) (v := ?_) (a' := ?_) #[true, false, false, false, false, false, false, false, false, false] rfl rfl (by kernel_rfl) (fun _ _ _ h => h) (Or.inl ⟨by rfl, ?_⟩) ?_ ?_
      rotate_left
      · intro w'
        go_simp
        with_reducible rfl
      rotate_left
      · simp only [Act.put, List.setIfInBounds_toArray, List.set_cons_zero, List.set_cons_succ, i64_w, i32_w]
        rfl
      refine pure_ (i := 4) (N := some 17) (v := ?_) (a' := ?_) #[true, false, false, false, true, false, false, false, false, false] rfl rfl (by kernel_rfl) (fun _ _ _ h => h) (Or.inl ⟨by rfl, ?_⟩) ?_ ?_
      rotate_left
      · intro w'
        go_simp
        with_reducible rfl
      rotate_left
      · simp only [Act.put, List.setIfInBounds_toArray, List.set_cons_zero, List.set_cons_succ, i64_w, i32_w]
        rfl
      refine take_ (i := 1) (N := some 14) (v := ?_) (a' := ?_) #[true, true, false, false, true, false, false, false, false, false] rfl rfl (by kernel_rfl) (fun _ _ _ h => h) (Or.inl ⟨by rfl, ?_⟩) hHeld ?_ ?_
      rotate_left
      · rintro w' ⟨s0, s1⟩
        go_simp
        with_reducible rfl
      rotate_left
      · simp only [Act.put, List.setIfInBounds_toArray, List.set_cons_zero, List.set_cons_succ, i64_w, i32_w]
        rfl
      refine take_ (i := 5) (N := some 18) (v := ?_) (a' := ?_) #[true, true, false, false, true, true, false, false, false, false] rfl rfl (by kernel_rfl) (fun _ _ _ h => h) (Or.inl ⟨by rfl, ?_⟩) hHeld ?_ ?_
      rotate_left
      · rintro w' ⟨s0, s1⟩
        go_simp
        with_reducible rfl
      rotate_left
      · simp only [Act.put, List.setIfInBounds_toArray, List.set_cons_zero, List.set_cons_succ, i64_w, i32_w]
        rfl
      refine pure_ (i := 6) (N := some 19) (v := ?_) (a' := ?_) #[true, true, false, false, true, true, true, false, false, false] rfl rfl (by kernel_rfl) (fun _ _ _ h => h) (Or.inl ⟨by rfl, ?_⟩) ?_ ?_
      rotate_left
      · intro w'
        go_simp
        with_reducible rfl
      rotate_left
      · simp only [Act.put, List.setIfInBounds_toArray, List.set_cons_zero, List.set_cons_succ, i64_w, i32_w]
        rfl
      refine one_ (i := 2) (N := some 15) #[true, true, true, false, true, true, true, false, false, false] rfl rfl (by kernel_rfl) (by decide) (fun K hK => ?_)
      refine value_ (w1 := ?_) (v := ?_) (by rfl) rfl ?_ ?_
      rotate_left 2
      · go_simp
        constructor
        · rfl
        · rfl
      refine hK.out _ _ ⟨blk_at (i := 1) HG.out rfl, blk_at (i := 0) HG.out rfl⟩ (fun hHeld => ?_)
      clear hK K
      refine norm_ (a' := ?_) ?_ ?_
      rotate_left
      · show Act.put _ (some 15) _ = _
        simp only [Act.put, List.setIfInBounds_toArray, List.set_cons_zero, List.set_cons_succ, i64_w, i32_w]
        rfl
      refine one_ (i := 3) (N := some 16) #[true, true, true, true, true, true, true, false, false, false] rfl rfl (by kernel_rfl) (by decide) (fun K hK => ?_)
      refine goes_ Tryd.func40 (by kernel_rfl) rfl #[.int .u64 0] (by rfl) rfl rfl (by simp only [List.map_toArray, List.map_cons, List.map_nil]; rfl) ?_
      with_reducible refine (Cd.out _).mono ?_
      rintro e w2 ⟨rfl, hb⟩
      refine ⟨_, rfl, ?_⟩
      have n0_ := Aside0.mk (below_step (by repeat (first | (with_reducible first | exact HB.out | apply below_alloc | apply pw_below_drewN | apply below_drew1) | exact HB.out)) hb)
      have n1_ := Aside0.mk (blk_below (w := w1.drew) HG.out hb)
      clear HB HG hb
      have HB := n0_
      have HG := n1_
      clear n0_ n1_
      refine hK.out _ _ ⟨blk_at (i := 1) HG.out rfl, blk_at (i := 0) HG.out rfl⟩ (fun hHeld => ?_)
      clear hK K
      refine norm_ (a' := ?_) ?_ ?_
      rotate_left
      · show Act.put _ (some 16) _ = _
        simp only [Act.put, List.setIfInBounds_toArray, List.set_cons_zero, List.set_cons_succ, i64_w, i32_w]
        rfl
      refine one_ (i := 7) (N := some 20) #[true, true, true, true, true, true, true, true, false, false] rfl rfl (by kernel_rfl) (by decide) (fun K hK => ?_)
      refine goes_ Tryd.func40 (by kernel_rfl) rfl #[.int .u64 e0] (by rfl) rfl rfl (by simp only [List.map_toArray, List.map_cons, List.map_nil]; rfl) ?_
      with_reducible refine (Ce.out _).mono ?_
      rintro e w3 ⟨rfl, hb⟩
      refine ⟨_, rfl, ?_⟩
      have n0_ := Aside0.mk (below_step (by repeat (first | (with_reducible first | exact HB.out | apply below_alloc | apply pw_below_drewN | apply below_drew1) | exact HB.out)) hb)
      have n1_ := Aside0.mk (blk_below HG.out hb)
      clear HB HG hb
      have HB := n0_
      have HG := n1_
      clear n0_ n1_
      refine hK.out _ _ ⟨blk_at (i := 1) HG.out rfl, blk_at (i := 0) HG.out rfl⟩ (fun hHeld => ?_)
      clear hK K
      refine norm_ (a' := ?_) ?_ ?_
      rotate_left
      · show Act.put _ (some 20) _ = _
        simp only [Act.put, List.setIfInBounds_toArray, List.set_cons_zero, List.set_cons_succ, i64_w, i32_w]
        rfl
      refine pure_ (i := 8) (N := some 21) (v := ?_) (a' := ?_) #[true, true, true, true, true, true, true, true, true, false] rfl rfl (by kernel_rfl) (fun _ _ _ h => h) (Or.inl ⟨by rfl, ?_⟩) ?_ ?_
      rotate_left
      · intro w'
        go_simp
        with_reducible rfl
      rotate_left
      · simp only [Act.put, List.setIfInBounds_toArray, List.set_cons_zero, List.set_cons_succ, i64_w, i32_w]
        rfl
      refine pure_ (i := 9) (N := some 5) (v := ?_) (a' := ?_) #[true, true, true, true, true, true, true, true, true, true] rfl rfl (by kernel_rfl) (fun _ _ _ h => h) (Or.inl ⟨by rfl, ?_⟩) ?_ ?_
      rotate_left
      · intro w'
        go_simp
        with_reducible rfl
      rotate_left
      · simp only [Act.put, List.setIfInBounds_toArray, List.set_cons_zero, List.set_cons_succ, i64_w, i32_w]
        rfl
      refine done_ (by kernel_rfl) ?_
      have q0 := blk_at (i := 0) HG.out rfl
      have q1 := blk_at (i := 1) HG.out rfl
      go_wp2_with fail
      refine wp_loop_rounds 1 ?_
      rw [rounds_succ]
      go_wp2_with fail
      go_ret2
      rw [HX.out]
      exact ⟨rfl, HB.out⟩
    · obtain ⟨nd, hnd⟩ : ∃ x, x = nb 1 := ⟨_, rfl⟩
      have hd' := nb_size 1
      have Cd := Aside0.mk (fun w1 => hnd ▸ code_Num_n 1 w1 ⟨by omega, by omega⟩)
      have HX : Aside0 (writeF e0 1 a b c = (nd ++ ne ++ na, 0)) := ⟨by unfold writeF; rw [if_neg hz, if_neg (by decide), if_pos rfl]; subst hnd hne hna; rfl⟩
      have s0 : (9223372036854775807 < nd.size + ne.size) = False := eq_false (by subst hnd hne; omega)
      have s1 : (9223372036854775807 < (nd ++ ne).size + na.size) = False := eq_false (by subst hnd hne hna; simp only [ByteArray.size_append]; omega)
      have t1 : (9223372036854775807 < nd.size + ne.size + na.size) = False := eq_false (by subst hnd hne hna; omega)
      have hs : ∀ W : World, (Instr.sliceAt 23 (.pointer (some ⟨w.heap.size, 2, none⟩)) none (some (.int .i64 1)) none).run Tryd.prog W = .ok (.slice (some ⟨w.heap.size, 2, none⟩) 1 3) W := fun W => sliceAt_to (P := Tryd.prog) Tryd.underlying23 infou32w (by decide) w.heap.size 2 .i64 1 (by decide) W
      have wd : IntKind.u64.wrap 1 = 1 := rfl
      clear hk hz hcv he ha hb hc he' ha' hb' hc' hd' hne hna hnb hnc hnd Be Ba Bb Bc
      go_enter Tryd.func21, Tryd.ntmps21
      have HG := Aside0.mk (blk_new w (.cells #[.int .u32 e0, .int .i64 1, .int .u32 a, .int .u32 b, .int .u32 c] 25))
      replace HB := Aside0.mk (below_alloc (o := .cells #[.int .u32 e0, .int .i64 1, .int .u32 a, .int .u32 b, .int .u32 c] 25) HB.out)
      go_wp2_with fail
      generalize w.alloc _ = w0 at HG HB ⊢
      refine (HCK.out _).mono ?_
      rintro e w1 ⟨rfl, hb⟩
      replace HG := Aside0.mk (blk_below HG.out hb)
      replace HB := Aside0.mk (below_step HB.out hb)
      clear hb
      go_wp2_with fail
      refine start_ (n := 10) (S := fun w' => w'.cell? ⟨w.heap.size, 1, none⟩ = some (.int .i64 1) ∧ w'.cell? ⟨w.heap.size, 0, none⟩ = some (.int .u32 e0)) (ds := []) #[false, false, false, false, false, false, false, false, false, false] (by kernel_rfl) rfl rfl ⟨blk_at (i := 1) HG.out rfl, blk_at (i := 0) HG.out rfl⟩ (fun hHeld => ?_)
      refine pure_ (i := 0) (N := some 13) (v := ?_) (a' := ?_) #[true, false, false, false, false, false, false, false, false, false] rfl rfl (by kernel_rfl) (fun _ _ _ h => h) (Or.inl ⟨by rfl, ?_⟩) ?_ ?_
      rotate_left
      · intro w'
        go_simp
        with_reducible rfl
      rotate_left
      · simp only [Act.put, List.setIfInBounds_toArray, List.set_cons_zero, List.set_cons_succ, i64_w, i32_w]
        rfl
      refine pure_ (i := 4) (N := some 17) (v := ?_) (a' := ?_) #[true, false, false, false, true, false, false, false, false, false] rfl rfl (by kernel_rfl) (fun _ _ _ h => h) (Or.inl ⟨by rfl, ?_⟩) ?_ ?_
      rotate_left
      · intro w'
        go_simp
        with_reducible rfl
      rotate_left
      · simp only [Act.put, List.setIfInBounds_toArray, List.set_cons_zero, List.set_cons_succ, i64_w, i32_w]
        rfl
      refine take_ (i := 1) (N := some 14) (v := ?_) (a' := ?_) #[true, true, false, false, true, false, false, false, false, false] rfl rfl (by kernel_rfl) (fun _ _ _ h => h) (Or.inl ⟨by rfl, ?_⟩) hHeld ?_ ?_
      rotate_left
      · rintro w' ⟨s0, s1⟩
        go_simp
        with_reducible rfl
      rotate_left
      · simp only [Act.put, List.setIfInBounds_toArray, List.set_cons_zero, List.set_cons_succ, i64_w, i32_w]
        rfl
      refine take_ (i := 5) (N := some 18) (v := ?_) (a' := ?_) #[true, true, false, false, true, true, false, false, false, false] rfl rfl (by kernel_rfl) (fun _ _ _ h => h) (Or.inl ⟨by rfl, ?_⟩) hHeld ?_ ?_
      rotate_left
      · rintro w' ⟨s0, s1⟩
        go_simp
        with_reducible rfl
      rotate_left
      · simp only [Act.put, List.setIfInBounds_toArray, List.set_cons_zero, List.set_cons_succ, i64_w, i32_w]
        rfl
      refine pure_ (i := 6) (N := some 19) (v := ?_) (a' := ?_) #[true, true, false, false, true, true, true, false, false, false] rfl rfl (by kernel_rfl) (fun _ _ _ h => h) (Or.inl ⟨by rfl, ?_⟩) ?_ ?_
      rotate_left
      · intro w'
        go_simp
        with_reducible rfl
      rotate_left
      · simp only [Act.put, List.setIfInBounds_toArray, List.set_cons_zero, List.set_cons_succ, i64_w, i32_w]
        rfl
      refine one_ (i := 2) (N := some 15) #[true, true, true, false, true, true, true, false, false, false] rfl rfl (by kernel_rfl) (by decide) (fun K hK => ?_)
      refine value_ (w1 := ?_) (v := ?_) (by rfl) rfl ?_ ?_
      rotate_left 2
      · go_simp
        constructor
        · rfl
        · rfl
      refine hK.out _ _ ⟨blk_at (i := 1) HG.out rfl, blk_at (i := 0) HG.out rfl⟩ (fun hHeld => ?_)
      clear hK K
      refine norm_ (a' := ?_) ?_ ?_
      rotate_left
      · show Act.put _ (some 15) _ = _
        simp only [Act.put, List.setIfInBounds_toArray, List.set_cons_zero, List.set_cons_succ, i64_w, i32_w]
        rfl
      refine one_ (i := 3) (N := some 16) #[true, true, true, true, true, true, true, false, false, false] rfl rfl (by kernel_rfl) (by decide) (fun K hK => ?_)
      refine goes_ Tryd.func40 (by kernel_rfl) rfl #[.int .u64 1] (by rfl) rfl rfl (by simp only [List.map_toArray, List.map_cons, List.map_nil]; rfl) ?_
      with_reducible refine (Cd.out _).mono ?_
      rintro e w2 ⟨rfl, hb⟩
      refine ⟨_, rfl, ?_⟩
      have n0_ := Aside0.mk (below_step (by repeat (first | (with_reducible first | exact HB.out | apply below_alloc | apply pw_below_drewN | apply below_drew1) | exact HB.out)) hb)
      have n1_ := Aside0.mk (blk_below (w := w1.drew) HG.out hb)
      clear HB HG hb
      have HB := n0_
      have HG := n1_
      clear n0_ n1_
      refine hK.out _ _ ⟨blk_at (i := 1) HG.out rfl, blk_at (i := 0) HG.out rfl⟩ (fun hHeld => ?_)
      clear hK K
      refine norm_ (a' := ?_) ?_ ?_
      rotate_left
      · show Act.put _ (some 16) _ = _
        simp only [Act.put, List.setIfInBounds_toArray, List.set_cons_zero, List.set_cons_succ, i64_w, i32_w]
        rfl
      refine one_ (i := 7) (N := some 20) #[true, true, true, true, true, true, true, true, false, false] rfl rfl (by kernel_rfl) (by decide) (fun K hK => ?_)
      refine goes_ Tryd.func40 (by kernel_rfl) rfl #[.int .u64 e0] (by rfl) rfl rfl (by simp only [List.map_toArray, List.map_cons, List.map_nil]; rfl) ?_
      with_reducible refine (Ce.out _).mono ?_
      rintro e w3 ⟨rfl, hb⟩
      refine ⟨_, rfl, ?_⟩
      have n0_ := Aside0.mk (below_step (by repeat (first | (with_reducible first | exact HB.out | apply below_alloc | apply pw_below_drewN | apply below_drew1) | exact HB.out)) hb)
      have n1_ := Aside0.mk (blk_below HG.out hb)
      clear HB HG hb
      have HB := n0_
      have HG := n1_
      clear n0_ n1_
      refine hK.out _ _ ⟨blk_at (i := 1) HG.out rfl, blk_at (i := 0) HG.out rfl⟩ (fun hHeld => ?_)
      clear hK K
      refine norm_ (a' := ?_) ?_ ?_
      rotate_left
      · show Act.put _ (some 20) _ = _
        simp only [Act.put, List.setIfInBounds_toArray, List.set_cons_zero, List.set_cons_succ, i64_w, i32_w]
        rfl
      refine pure_ (i := 8) (N := some 21) (v := ?_) (a' := ?_) #[true, true, true, true, true, true, true, true, true, false] rfl rfl (by kernel_rfl) (fun _ _ _ h => h) (Or.inl ⟨by rfl, ?_⟩) ?_ ?_
      rotate_left
      · intro w'
        go_simp
        with_reducible rfl
      rotate_left
      · simp only [Act.put, List.setIfInBounds_toArray, List.set_cons_zero, List.set_cons_succ, i64_w, i32_w]
        rfl
      refine pure_ (i := 9) (N := some 5) (v := ?_) (a' := ?_) #[true, true, true, true, true, true, true, true, true, true] rfl rfl (by kernel_rfl) (fun _ _ _ h => h) (Or.inl ⟨by rfl, ?_⟩) ?_ ?_
      rotate_left
      · intro w'
        go_simp
        with_reducible rfl
      rotate_left
      · simp only [Act.put, List.setIfInBounds_toArray, List.set_cons_zero, List.set_cons_succ, i64_w, i32_w]
        rfl
      refine done_ (by kernel_rfl) ?_
      have q0 := blk_at (i := 0) HG.out rfl
      have q1 := blk_at (i := 1) HG.out rfl
      have q2 := blk_at (i := 2) HG.out rfl
      go_wp2_with fail
      refine wp_loop_rounds 2 ?_
      rw [rounds_succ]
      go_wp2_with fail
      go_at_call 40
      refine (Ca.out _).mono ?_
      rintro e w4 ⟨rfl, hb⟩
      replace HB := Aside0.mk (below_step HB.out hb)
      replace HG := Aside0.mk (blk_below HG.out hb)
      clear hb q0 q1 q2
      have q0 := blk_at (i := 0) HG.out rfl
      have q1 := blk_at (i := 1) HG.out rfl
      have q2 := blk_at (i := 2) HG.out rfl
      go_wp2_with fail
      rw [rounds_succ]
      go_wp2_with fail
      go_ret2
      rw [HX.out]
      exact ⟨rfl, HB.out⟩
    · obtain ⟨nd, hnd⟩ : ∃ x, x = nb 2 := ⟨_, rfl⟩
      have hd' := nb_size 2
      have Cd := Aside0.mk (fun w1 => hnd ▸ code_Num_n 2 w1 ⟨by omega, by omega⟩)
      have HX : Aside0 (writeF e0 2 a b c = (nd ++ ne ++ na ++ nb_, 0)) := ⟨by unfold writeF; rw [if_neg hz, if_neg (by decide), if_neg (by decide), if_pos rfl]; subst hnd hne hna hnb; rfl⟩
      have s0 : (9223372036854775807 < nd.size + ne.size) = False := eq_false (by subst hnd hne; omega)
      have s1 : (9223372036854775807 < (nd ++ ne).size + na.size) = False := eq_false (by subst hnd hne hna; simp only [ByteArray.size_append]; omega)
      have t1 : (9223372036854775807 < nd.size + ne.size + na.size) = False := eq_false (by subst hnd hne hna; omega)
      have s2 : (9223372036854775807 < (nd ++ ne ++ na).size + nb_.size) = False := eq_false (by subst hnd hne hna hnb; simp only [ByteArray.size_append]; omega)
      have t2 : (9223372036854775807 < nd.size + ne.size + na.size + nb_.size) = False := eq_false (by subst hnd hne hna hnb; omega)
      have hs : ∀ W : World, (Instr.sliceAt 23 (.pointer (some ⟨w.heap.size, 2, none⟩)) none (some (.int .i64 2)) none).run Tryd.prog W = .ok (.slice (some ⟨w.heap.size, 2, none⟩) 2 3) W := fun W => sliceAt_to (P := Tryd.prog) Tryd.underlying23 infou32w (by decide) w.heap.size 2 .i64 2 (by decide) W
      have wd : IntKind.u64.wrap 2 = 2 := rfl
      clear hk hz hcv he ha hb hc he' ha' hb' hc' hd' hne hna hnb hnc hnd Be Ba Bb Bc
      go_enter Tryd.func21, Tryd.ntmps21
      have HG := Aside0.mk (blk_new w (.cells #[.int .u32 e0, .int .i64 2, .int .u32 a, .int .u32 b, .int .u32 c] 25))
      replace HB := Aside0.mk (below_alloc (o := .cells #[.int .u32 e0, .int .i64 2, .int .u32 a, .int .u32 b, .int .u32 c] 25) HB.out)
      go_wp2_with fail
      generalize w.alloc _ = w0 at HG HB ⊢
      refine (HCK.out _).mono ?_
      rintro e w1 ⟨rfl, hb⟩
      replace HG := Aside0.mk (blk_below HG.out hb)
      replace HB := Aside0.mk (below_step HB.out hb)
      clear hb
      go_wp2_with fail
      refine start_ (n := 10) (S := fun w' => w'.cell? ⟨w.heap.size, 1, none⟩ = some (.int .i64 2) ∧ w'.cell? ⟨w.heap.size, 0, none⟩ = some (.int .u32 e0)) (ds := []) #[false, false, false, false, false, false, false, false, false, false] (by kernel_rfl) rfl rfl ⟨blk_at (i := 1) HG.out rfl, blk_at (i := 0) HG.out rfl⟩ (fun hHeld => ?_)
      refine pure_ (i := 0) (N := some 13) (v := ?_) (a' := ?_) #[true, false, false, false, false, false, false, false, false, false] rfl rfl (by kernel_rfl) (fun _ _ _ h => h) (Or.inl ⟨by rfl, ?_⟩) ?_ ?_
      rotate_left
      · intro w'
        go_simp
        with_reducible rfl
      rotate_left
      · simp only [Act.put, List.setIfInBounds_toArray, List.set_cons_zero, List.set_cons_succ, i64_w, i32_w]
        rfl
      refine pure_ (i := 4) (N := some 17) (v := ?_) (a' := ?_) #[true, false, false, false, true, false, false, false, false, false] rfl rfl (by kernel_rfl) (fun _ _ _ h => h) (Or.inl ⟨by rfl, ?_⟩) ?_ ?_
      rotate_left
      · intro w'
        go_simp
        with_reducible rfl
      rotate_left
      · simp only [Act.put, List.setIfInBounds_toArray, List.set_cons_zero, List.set_cons_succ, i64_w, i32_w]
        rfl
      refine take_ (i := 1) (N := some 14) (v := ?_) (a' := ?_) #[true, true, false, false, true, false, false, false, false, false] rfl rfl (by kernel_rfl) (fun _ _ _ h => h) (Or.inl ⟨by rfl, ?_⟩) hHeld ?_ ?_
      rotate_left
      · rintro w' ⟨s0, s1⟩
        go_simp
        with_reducible rfl
      rotate_left
      · simp only [Act.put, List.setIfInBounds_toArray, List.set_cons_zero, List.set_cons_succ, i64_w, i32_w]
        rfl
      refine take_ (i := 5) (N := some 18) (v := ?_) (a' := ?_) #[true, true, false, false, true, true, false, false, false, false] rfl rfl (by kernel_rfl) (fun _ _ _ h => h) (Or.inl ⟨by rfl, ?_⟩) hHeld ?_ ?_
      rotate_left
      · rintro w' ⟨s0, s1⟩
        go_simp
        with_reducible rfl
      rotate_left
      · simp only [Act.put, List.setIfInBounds_toArray, List.set_cons_zero, List.set_cons_succ, i64_w, i32_w]
        rfl
      refine pure_ (i := 6) (N := some 19) (v := ?_) (a' := ?_) #[true, true, false, false, true, true, true, false, false, false] rfl rfl (by kernel_rfl) (fun _ _ _ h => h) (Or.inl ⟨by rfl, ?_⟩) ?_ ?_
      rotate_left
      · intro w'
        go_simp
        with_reducible rfl
      rotate_left
      · simp only [Act.put, List.setIfInBounds_toArray, List.set_cons_zero, List.set_cons_succ, i64_w, i32_w]
        rfl
      refine one_ (i := 2) (N := some 15) #[true, true, true, false, true, true, true, false, false, false] rfl rfl (by kernel_rfl) (by decide) (fun K hK => ?_)
      refine value_ (w1 := ?_) (v := ?_) (by rfl) rfl ?_ ?_
      rotate_left 2
      · go_simp
        constructor
        · rfl
        · rfl
      refine hK.out _ _ ⟨blk_at (i := 1) HG.out rfl, blk_at (i := 0) HG.out rfl⟩ (fun hHeld => ?_)
      clear hK K
      refine norm_ (a' := ?_) ?_ ?_
      rotate_left
      · show Act.put _ (some 15) _ = _
        simp only [Act.put, List.setIfInBounds_toArray, List.set_cons_zero, List.set_cons_succ, i64_w, i32_w]
        rfl
      refine one_ (i := 3) (N := some 16) #[true, true, true, true, true, true, true, false, false, false] rfl rfl (by kernel_rfl) (by decide) (fun K hK => ?_)
      refine goes_ Tryd.func40 (by kernel_rfl) rfl #[.int .u64 2] (by rfl) rfl rfl (by simp only [List.map_toArray, List.map_cons, List.map_nil]; rfl) ?_
      with_reducible refine (Cd.out _).mono ?_
      rintro e w2 ⟨rfl, hb⟩
      refine ⟨_, rfl, ?_⟩
      have n0_ := Aside0.mk (below_step (by repeat (first | (with_reducible first | exact HB.out | apply below_alloc | apply pw_below_drewN | apply below_drew1) | exact HB.out)) hb)
      have n1_ := Aside0.mk (blk_below (w := w1.drew) HG.out hb)
      clear HB HG hb
      have HB := n0_
      have HG := n1_
      clear n0_ n1_
      refine hK.out _ _ ⟨blk_at (i := 1) HG.out rfl, blk_at (i := 0) HG.out rfl⟩ (fun hHeld => ?_)
      clear hK K
      refine norm_ (a' := ?_) ?_ ?_
      rotate_left
      · show Act.put _ (some 16) _ = _
        simp only [Act.put, List.setIfInBounds_toArray, List.set_cons_zero, List.set_cons_succ, i64_w, i32_w]
        rfl
      refine one_ (i := 7) (N := some 20) #[true, true, true, true, true, true, true, true, false, false] rfl rfl (by kernel_rfl) (by decide) (fun K hK => ?_)
      refine goes_ Tryd.func40 (by kernel_rfl) rfl #[.int .u64 e0] (by rfl) rfl rfl (by simp only [List.map_toArray, List.map_cons, List.map_nil]; rfl) ?_
      with_reducible refine (Ce.out _).mono ?_
      rintro e w3 ⟨rfl, hb⟩
      refine ⟨_, rfl, ?_⟩
      have n0_ := Aside0.mk (below_step (by repeat (first | (with_reducible first | exact HB.out | apply below_alloc | apply pw_below_drewN | apply below_drew1) | exact HB.out)) hb)
      have n1_ := Aside0.mk (blk_below HG.out hb)
      clear HB HG hb
      have HB := n0_
      have HG := n1_
      clear n0_ n1_
      refine hK.out _ _ ⟨blk_at (i := 1) HG.out rfl, blk_at (i := 0) HG.out rfl⟩ (fun hHeld => ?_)
      clear hK K
      refine norm_ (a' := ?_) ?_ ?_
      rotate_left
      · show Act.put _ (some 20) _ = _
        simp only [Act.put, List.setIfInBounds_toArray, List.set_cons_zero, List.set_cons_succ, i64_w, i32_w]
        rfl
      refine pure_ (i := 8) (N := some 21) (v := ?_) (a' := ?_) #[true, true, true, true, true, true, true, true, true, false] rfl rfl (by kernel_rfl) (fun _ _ _ h => h) (Or.inl ⟨by rfl, ?_⟩) ?_ ?_
      rotate_left
      · intro w'
        go_simp
        with_reducible rfl
      rotate_left
      · simp only [Act.put, List.setIfInBounds_toArray, List.set_cons_zero, List.set_cons_succ, i64_w, i32_w]
        rfl
      refine pure_ (i := 9) (N := some 5) (v := ?_) (a' := ?_) #[true, true, true, true, true, true, true, true, true, true] rfl rfl (by kernel_rfl) (fun _ _ _ h => h) (Or.inl ⟨by rfl, ?_⟩) ?_ ?_
      rotate_left
      · intro w'
        go_simp
        with_reducible rfl
      rotate_left
      · simp only [Act.put, List.setIfInBounds_toArray, List.set_cons_zero, List.set_cons_succ, i64_w, i32_w]
        rfl
      refine done_ (by kernel_rfl) ?_
      have q0 := blk_at (i := 0) HG.out rfl
      have q1 := blk_at (i := 1) HG.out rfl
      have q2 := blk_at (i := 2) HG.out rfl
      have q3 := blk_at (i := 3) HG.out rfl
      go_wp2_with fail
      refine wp_loop_rounds 3 ?_
      rw [rounds_succ]
      go_wp2_with fail
      go_at_call 40
      refine (Ca.out _).mono ?_
      rintro e w4 ⟨rfl, hb⟩
      replace HB := Aside0.mk (below_step HB.out hb)
      replace HG := Aside0.mk (blk_below HG.out hb)
      clear hb q0 q1 q2 q3
      have q0 := blk_at (i := 0) HG.out rfl
      have q1 := blk_at (i := 1) HG.out rfl
      have q2 := blk_at (i := 2) HG.out rfl
      have q3 := blk_at (i := 3) HG.out rfl
      go_wp2_with fail
      rw [rounds_succ]
      go_wp2_with fail
      go_at_call 40
      refine (Cb.out _).mono ?_
      rintro e w5 ⟨rfl, hb⟩
      replace HB := Aside0.mk (below_step HB.out hb)
      replace HG := Aside0.mk (blk_below HG.out hb)
      clear hb q0 q1 q2 q3
      have q0 := blk_at (i := 0) HG.out rfl
      have q1 := blk_at (i := 1) HG.out rfl
      have q2 := blk_at (i := 2) HG.out rfl
      have q3 := blk_at (i := 3) HG.out rfl
      go_wp2_with fail
      rw [rounds_succ]
      go_wp2_with fail
      go_ret2
      rw [HX.out]
      exact ⟨rfl, HB.out⟩
    · obtain ⟨nd, hnd⟩ : ∃ x, x = nb 3 := ⟨_, rfl⟩
      have hd' := nb_size 3
      have Cd := Aside0.mk (fun w1 => hnd ▸ code_Num_n 3 w1 ⟨by omega, by omega⟩)
      have HX : Aside0 (writeF e0 3 a b c = (nd ++ ne ++ na ++ nb_ ++ nc, 0)) := ⟨by unfold writeF; rw [if_neg hz, if_neg (by decide), if_neg (by decide), if_neg (by decide)]; subst hnd hne hna hnb hnc; rfl⟩
      have s0 : (9223372036854775807 < nd.size + ne.size) = False := eq_false (by subst hnd hne; omega)
      have s1 : (9223372036854775807 < (nd ++ ne).size + na.size) = False := eq_false (by subst hnd hne hna; simp only [ByteArray.size_append]; omega)
      have t1 : (9223372036854775807 < nd.size + ne.size + na.size) = False := eq_false (by subst hnd hne hna; omega)
      have s2 : (9223372036854775807 < (nd ++ ne ++ na).size + nb_.size) = False := eq_false (by subst hnd hne hna hnb; simp only [ByteArray.size_append]; omega)
      have t2 : (9223372036854775807 < nd.size + ne.size + na.size + nb_.size) = False := eq_false (by subst hnd hne hna hnb; omega)
      have s3 : (9223372036854775807 < (nd ++ ne ++ na ++ nb_).size + nc.size) = False := eq_false (by subst hnd hne hna hnb hnc; simp only [ByteArray.size_append]; omega)
      have t3 : (9223372036854775807 < nd.size + ne.size + na.size + nb_.size + nc.size) = False := eq_false (by subst hnd hne hna hnb hnc; omega)
      have hs : ∀ W : World, (Instr.sliceAt 23 (.pointer (some ⟨w.heap.size, 2, none⟩)) none (some (.int .i64 3)) none).run Tryd.prog W = .ok (.slice (some ⟨w.heap.size, 2, none⟩) 3 3) W := fun W => sliceAt_to (P := Tryd.prog) Tryd.underlying23 infou32w (by decide) w.heap.size 2 .i64 3 (by decide) W
      have wd : IntKind.u64.wrap 3 = 3 := rfl
      clear hk hz hcv he ha hb hc he' ha' hb' hc' hd' hne hna hnb hnc hnd Be Ba Bb Bc
      go_enter Tryd.func21, Tryd.ntmps21
      have HG := Aside0.mk (blk_new w (.cells #[.int .u32 e0, .int .i64 3, .int .u32 a, .int .u32 b, .int .u32 c] 25))
      replace HB := Aside0.mk (below_alloc (o := .cells #[.int .u32 e0, .int .i64 3, .int .u32 a, .int .u32 b, .int .u32 c] 25) HB.out)
      go_wp2_with fail
      generalize w.alloc _ = w0 at HG HB ⊢
      refine (HCK.out _).mono ?_
      rintro e w1 ⟨rfl, hb⟩
      replace HG := Aside0.mk (blk_below HG.out hb)
      replace HB := Aside0.mk (below_step HB.out hb)
      clear hb
      go_wp2_with fail
      refine start_ (n := 10) (S := fun w' => w'.cell? ⟨w.heap.size, 1, none⟩ = some (.int .i64 3) ∧ w'.cell? ⟨w.heap.size, 0, none⟩ = some (.int .u32 e0)) (ds := []) #[false, false, false, false, false, false, false, false, false, false] (by kernel_rfl) rfl rfl ⟨blk_at (i := 1) HG.out rfl, blk_at (i := 0) HG.out rfl⟩ (fun hHeld => ?_)
      refine pure_ (i := 0) (N := some 13) (v := ?_) (a' := ?_) #[true, false, false, false, false, false, false, false, false, false] rfl rfl (by kernel_rfl) (fun _ _ _ h => h) (Or.inl ⟨by rfl, ?_⟩) ?_ ?_
      rotate_left
      · intro w'
        go_simp
        with_reducible rfl
      rotate_left
      · simp only [Act.put, List.setIfInBounds_toArray, List.set_cons_zero, List.set_cons_succ, i64_w, i32_w]
        rfl
      refine pure_ (i := 4) (N := some 17) (v := ?_) (a' := ?_) #[true, false, false, false, true, false, false, false, false, false] rfl rfl (by kernel_rfl) (fun _ _ _ h => h) (Or.inl ⟨by rfl, ?_⟩) ?_ ?_
      rotate_left
      · intro w'
        go_simp
        with_reducible rfl
      rotate_left
      · simp only [Act.put, List.setIfInBounds_toArray, List.set_cons_zero, List.set_cons_succ, i64_w, i32_w]
        rfl
      refine take_ (i := 1) (N := some 14) (v := ?_) (a' := ?_) #[true, true, false, false, true, false, false, false, false, false] rfl rfl (by kernel_rfl) (fun _ _ _ h => h) (Or.inl ⟨by rfl, ?_⟩) hHeld ?_ ?_
      rotate_left
      · rintro w' ⟨s0, s1⟩
        go_simp
        with_reducible rfl
      rotate_left
      · simp only [Act.put, List.setIfInBounds_toArray, List.set_cons_zero, List.set_cons_succ, i64_w, i32_w]
        rfl
      refine take_ (i := 5) (N := some 18) (v := ?_) (a' := ?_) #[true, true, false, false, true, true, false, false, false, false] rfl rfl (by kernel_rfl) (fun _ _ _ h => h) (Or.inl ⟨by rfl, ?_⟩) hHeld ?_ ?_
      rotate_left
      · rintro w' ⟨s0, s1⟩
        go_simp
        with_reducible rfl
      rotate_left
      · simp only [Act.put, List.setIfInBounds_toArray, List.set_cons_zero, List.set_cons_succ, i64_w, i32_w]
        rfl
      refine pure_ (i := 6) (N := some 19) (v := ?_) (a' := ?_) #[true, true, false, false, true, true, true, false, false, false] rfl rfl (by kernel_rfl) (fun _ _ _ h => h) (Or.inl ⟨by rfl, ?_⟩) ?_ ?_
      rotate_left
      · intro w'
        go_simp
        with_reducible rfl
      rotate_left
      · simp only [Act.put, List.setIfInBounds_toArray, List.set_cons_zero, List.set_cons_succ, i64_w, i32_w]
        rfl
      refine one_ (i := 2) (N := some 15) #[true, true, true, false, true, true, true, false, false, false] rfl rfl (by kernel_rfl) (by decide) (fun K hK => ?_)
      refine value_ (w1 := ?_) (v := ?_) (by rfl) rfl ?_ ?_
      rotate_left 2
      · go_simp
        constructor
        · rfl
        · rfl
      refine hK.out _ _ ⟨blk_at (i := 1) HG.out rfl, blk_at (i := 0) HG.out rfl⟩ (fun hHeld => ?_)
      clear hK K
      refine norm_ (a' := ?_) ?_ ?_
      rotate_left
      · show Act.put _ (some 15) _ = _
        simp only [Act.put, List.setIfInBounds_toArray, List.set_cons_zero, List.set_cons_succ, i64_w, i32_w]
        rfl
      refine one_ (i := 3) (N := some 16) #[true, true, true, true, true, true, true, false, false, false] rfl rfl (by kernel_rfl) (by decide) (fun K hK => ?_)
      refine goes_ Tryd.func40 (by kernel_rfl) rfl #[.int .u64 3] (by rfl) rfl rfl (by simp only [List.map_toArray, List.map_cons, List.map_nil]; rfl) ?_
      with_reducible refine (Cd.out _).mono ?_
      rintro e w2 ⟨rfl, hb⟩
      refine ⟨_, rfl, ?_⟩
      have n0_ := Aside0.mk (below_step (by repeat (first | (with_reducible first | exact HB.out | apply below_alloc | apply pw_below_drewN | apply below_drew1) | exact HB.out)) hb)
      have n1_ := Aside0.mk (blk_below (w := w1.drew) HG.out hb)
      clear HB HG hb
      have HB := n0_
      have HG := n1_
      clear n0_ n1_
      refine hK.out _ _ ⟨blk_at (i := 1) HG.out rfl, blk_at (i := 0) HG.out rfl⟩ (fun hHeld => ?_)
      clear hK K
      refine norm_ (a' := ?_) ?_ ?_
      rotate_left
      · show Act.put _ (some 16) _ = _
        simp only [Act.put, List.setIfInBounds_toArray, List.set_cons_zero, List.set_cons_succ, i64_w, i32_w]
        rfl
      refine one_ (i := 7) (N := some 20) #[true, true, true, true, true, true, true, true, false, false] rfl rfl (by kernel_rfl) (by decide) (fun K hK => ?_)
      refine goes_ Tryd.func40 (by kernel_rfl) rfl #[.int .u64 e0] (by rfl) rfl rfl (by simp only [List.map_toArray, List.map_cons, List.map_nil]; rfl) ?_
      with_reducible refine (Ce.out _).mono ?_
      rintro e w3 ⟨rfl, hb⟩
      refine ⟨_, rfl, ?_⟩
      have n0_ := Aside0.mk (below_step (by repeat (first | (with_reducible first | exact HB.out | apply below_alloc | apply pw_below_drewN | apply below_drew1) | exact HB.out)) hb)
      have n1_ := Aside0.mk (blk_below HG.out hb)
      clear HB HG hb
      have HB := n0_
      have HG := n1_
      clear n0_ n1_
      refine hK.out _ _ ⟨blk_at (i := 1) HG.out rfl, blk_at (i := 0) HG.out rfl⟩ (fun hHeld => ?_)
      clear hK K
      refine norm_ (a' := ?_) ?_ ?_
      rotate_left
      · show Act.put _ (some 20) _ = _
        simp only [Act.put, List.setIfInBounds_toArray, List.set_cons_zero, List.set_cons_succ, i64_w, i32_w]
        rfl
      refine pure_ (i := 8) (N := some 21) (v := ?_) (a' := ?_) #[true, true, true, true, true, true, true, true, true, false] rfl rfl (by kernel_rfl) (fun _ _ _ h => h) (Or.inl ⟨by rfl, ?_⟩) ?_ ?_
      rotate_left
      · intro w'
        go_simp
        with_reducible rfl
      rotate_left
      · simp only [Act.put, List.setIfInBounds_toArray, List.set_cons_zero, List.set_cons_succ, i64_w, i32_w]
        rfl
      refine pure_ (i := 9) (N := some 5) (v := ?_) (a' := ?_) #[true, true, true, true, true, true, true, true, true, true] rfl rfl (by kernel_rfl) (fun _ _ _ h => h) (Or.inl ⟨by rfl, ?_⟩) ?_ ?_
      rotate_left
      · intro w'
        go_simp
        with_reducible rfl
      rotate_left
      · simp only [Act.put, List.setIfInBounds_toArray, List.set_cons_zero, List.set_cons_succ, i64_w, i32_w]
        rfl
      refine done_ (by kernel_rfl) ?_
      have q0 := blk_at (i := 0) HG.out rfl
      have q1 := blk_at (i := 1) HG.out rfl
      have q2 := blk_at (i := 2) HG.out rfl
      have q3 := blk_at (i := 3) HG.out rfl
      have q4 := blk_at (i := 4) HG.out rfl
      go_wp2_with fail
      refine wp_loop_rounds 4 ?_
      rw [rounds_succ]
      go_wp2_with fail
      go_at_call 40
      refine (Ca.out _).mono ?_
      rintro e w4 ⟨rfl, hb⟩
      replace HB := Aside0.mk (below_step HB.out hb)
      replace HG := Aside0.mk (blk_below HG.out hb)
      clear hb q0 q1 q2 q3 q4
      have q0 := blk_at (i := 0) HG.out rfl
      have q1 := blk_at (i := 1) HG.out rfl
      have q2 := blk_at (i := 2) HG.out rfl
      have q3 := blk_at (i := 3) HG.out rfl
      have q4 := blk_at (i := 4) HG.out rfl
      go_wp2_with fail
      rw [rounds_succ]
      go_wp2_with fail
      go_at_call 40
      refine (Cb.out _).mono ?_
      rintro e w5 ⟨rfl, hb⟩
      replace HB := Aside0.mk (below_step HB.out hb)
      replace HG := Aside0.mk (blk_below HG.out hb)
      clear hb q0 q1 q2 q3 q4
      have q0 := blk_at (i := 0) HG.out rfl
      have q1 := blk_at (i := 1) HG.out rfl
      have q2 := blk_at (i := 2) HG.out rfl
      have q3 := blk_at (i := 3) HG.out rfl
      have q4 := blk_at (i := 4) HG.out rfl
      go_wp2_with fail
      rw [rounds_succ]
      go_wp2_with fail
      go_at_call 40
      refine (Cc.out _).mono ?_
      rintro e w6 ⟨rfl, hb⟩
      replace HB := Aside0.mk (below_step HB.out hb)
      replace HG := Aside0.mk (blk_below HG.out hb)
      clear hb q0 q1 q2 q3 q4
      have q0 := blk_at (i := 0) HG.out rfl
      have q1 := blk_at (i := 1) HG.out rfl
      have q2 := blk_at (i := 2) HG.out rfl
      have q3 := blk_at (i := 3) HG.out rfl
      have q4 := blk_at (i := 4) HG.out rfl
      go_wp2_with fail
      rw [rounds_succ]
      go_wp2_with fail
      go_ret2
      rw [HX.out]
      exact ⟨rfl, HB.out⟩
def stamp_Write.f (e d a b c : Int) : Option (ByteArray × Int) := if (0 ≤ e ∧ e < 4294967296) ∧ (0 ≤ a ∧ a < 4294967296) ∧ (0 ≤ b ∧ b < 4294967296) ∧ (0 ≤ c ∧ c < 4294967296) then some (writeF e d a b c) else none
theorem stamp_Write.calls (a0_0 a0_1 a0_2 a0_3 a0_4 : Int) (r1 : ByteArray) (r2 : Int) (w : World) (h : stamp_Write.f a0_0 a0_1 a0_2 a0_3 a0_4 = some (r1, r2)) :
    Calls Tryd.prog 21 #[.agg #[.int .u32 a0_0, .int .i64 a0_1, .int .u32 a0_2, .int .u32 a0_3, .int .u32 a0_4]] w fun e w' => e = .returned (.tuple #[.string r1, .int .i64 r2]) ∧ Below w.heap.size w w' := by
  unfold stamp_Write.f at h
  split at h
  · rename_i hc
    have e := Option.some.inj h
    have := stamp_Write_c a0_0 a0_1 a0_2 a0_3 a0_4 w hc.1 hc.2.1 hc.2.2.1 hc.2.2.2
    rw [e] at this
    exact this
  · cases h
end Go.Proofs.YtjkbgcdhhiakmaaDoor.Ext
