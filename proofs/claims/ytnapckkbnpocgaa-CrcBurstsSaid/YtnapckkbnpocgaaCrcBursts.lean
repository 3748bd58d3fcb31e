/- watershedlaw03.CrcBursts returns true for every input: bits that are turned within 32 bits that stand together are told, in what is summed, and in what is sealed (texts of more than 2000 or fewer than 4 bytes, and a turn of nothing, are let go by the law itself). -/
import Derived.Test.YtnapckkbnpocgaaRows
import Derived.WalkKit
import Derived.ProofKit
import Derived.OpenShut
import Derived.ShutString
import Derived.ChangeOld
import Derived.Below
import Derived.SizedLaws
import Derived.Test.YtnapckkbnpocgaaW03b
import Derived.Test.YtnapckkbnpocgaaM03c
import Derived.Test.YtnapckkbnpocgaaM02
namespace Go.Proofs.Ytnapckkbnpocgaa
set_option linter.unusedSimpArgs false
open Go.RowKit C03 M03 Base Go.Proofs.YtnapckkbnpocgaaW.PrintWords Go.Proofs.YtnapckkbnpocgaaW.PrintLast Go.Proofs.YtnapckkbnpocgaaW.PrintMore

/-- What is sealed, with bits turned behind its sum, is not opened. -/
theorem opens_burst (s : ByteArray) (t f : Nat) (h : f + 32 ≤ 8 * s.size) (h0 : 0 < t) (h1 : t < 4294967296) : opens (strOfNums (burst t (32 + f) 32 (bytesOf (sealed s)))) = false := by
  cases ho : opens (strOfNums (burst t (32 + f) 32 (bytesOf (sealed s)))) with
  | false => rfl
  | true =>
    exfalso
    have hr := C02.bytes_range (sealed s)
    have h2 := opens_list _ (burst_range t (32 + f) 32 _ hr) ho
    have e : ∀ n, burst t (32 + f) n (bytesOf (sealed s)) = sumBytes (sumOf (bytesOf s)) ++ burst t f n (bytesOf s) := by
      intro n
      rw [bytesOf_sealed]
      induction n with
      | zero => rfl
      | succ n ih =>
        have hl : (sumBytes (sumOf (bytesOf s))).length = 4 := rfl
        have hgd : (sumBytes (sumOf (bytesOf s)) ++ burst t f n (bytesOf s)).getD (4 + (f + n) / 8) 0 = (burst t f n (bytesOf s)).getD ((f + n) / 8) 0 := by
          rw [List.getD_eq_getElem?_getD, List.getElem?_append_right (by omega), hl, show 4 + (f + n) / 8 - 4 = (f + n) / 8 by omega, ← List.getD_eq_getElem?_getD]
        unfold burst
        rw [ih, show (32 + f + n) / 8 = 4 + (f + n) / 8 by omega, show (32 + f + n) % 8 = (f + n) % 8 by omega, hgd, List.set_append_right _ _ (by omega), hl, show 4 + (f + n) / 8 - 4 = (f + n) / 8 by omega]
    have hl : (sumBytes (sumOf (bytesOf s))).length = 4 := rfl
    rw [e 32, List.take_append_of_le_length (by omega), List.take_of_length_le (by omega), List.drop_append_of_le_length (by omega), List.drop_eq_nil_of_le (by omega), List.nil_append] at h2
    exact sum_burst t f (bytesOf s) (C02.bytes_range s) (by rw [bytesOf_length]; exact h) h0 h1 (sumBytes_eq h2).symm

set_option maxRecDepth 100000 in
set_option maxHeartbeats 4000000 in
theorem CrcBursts_walk (s : ByteArray) (at_ : Int) (tI : Int) (w : World) (hs : s.size ≤ 140737488351232) (_hat : -9223372036854775808 ≤ at_ ∧ at_ < 9223372036854775808) (ht : 0 ≤ tI ∧ tI < 4294967296) :
    Calls Try.prog 6 #[.string s, .int .i64 at_, .int .u32 tI] w fun e w' => e = .returned (.bool true) ∧ Below w.heap.size w w' := by
  have HB := Aside0.mk (Below.refl w.heap.size w)
  have HS := Aside0.mk hs
  by_cases cg : (s.size : Int) > 2000 ∨ (s.size : Int) < 4 ∨ tI = 0
  · by_cases c : (s.size : Int) > 2000
    · have c0 : decide (2000 < (s.size : Int)) = true := decide_eq_true c
      have c1 : decide (2000 < s.size) = true := decide_eq_true (by omega)
      clear c hs ht cg
      go_enter Try.func6, Try.ntmps6
      go_wp2_with fail
      refine (works _).mono ?_
      rintro e w1 ⟨rfl, hb⟩
      replace HB := Aside0.mk (below_step HB.out hb)
      clear hb
      go_wp2
      go_ret
      exact ⟨rfl, HB.out⟩
    · have c0 : decide (2000 < (s.size : Int)) = false := decide_eq_false c
      have c1 : decide (2000 < s.size) = false := decide_eq_false (by omega)
      by_cases d : (s.size : Int) < 4
      · have d0 : decide ((s.size : Int) < 4) = true := decide_eq_true d
        have d1 : decide (s.size < 4) = true := decide_eq_true (by omega)
        clear c d hs ht cg
        go_enter Try.func6, Try.ntmps6
        go_wp2_with fail
        refine (works _).mono ?_
        rintro e w1 ⟨rfl, hb⟩
        replace HB := Aside0.mk (below_step HB.out hb)
        clear hb
        go_wp2
        go_ret
        exact ⟨rfl, HB.out⟩
      · have d0 : decide ((s.size : Int) < 4) = false := decide_eq_false d
        have d1 : decide (s.size < 4) = false := decide_eq_false (by omega)
        have hz : (tI == 0) = true := beq_iff_eq.mpr (by omega)
        clear c d hs ht cg
        go_enter Try.func6, Try.ntmps6
        go_wp2_with fail
        refine (works _).mono ?_
        rintro e w1 ⟨rfl, hb⟩
        replace HB := Aside0.mk (below_step HB.out hb)
        clear hb
        go_wp2
        go_ret
        exact ⟨rfl, HB.out⟩
  · have c0 : decide (2000 < (s.size : Int)) = false := decide_eq_false (by omega)
    have c1 : decide (2000 < s.size) = false := decide_eq_false (by omega)
    have d0 : decide ((s.size : Int) < 4) = false := decide_eq_false (by omega)
    have d1 : decide (s.size < 4) = false := decide_eq_false (by omega)
    have hzt : (tI == 0) = false := beq_eq_false_iff_ne.mpr (by omega)
    obtain ⟨t, rfl⟩ := Int.eq_ofNat_of_zero_le ht.1
    have HT : Aside0 (0 < t ∧ t < 4294967296) := ⟨by omega⟩
    have hlo : 4 ≤ s.size := by omega
    have hhi : s.size ≤ 2000 := by omega
    obtain ⟨cu, hcu⟩ : ∃ cu, cu = IntKind.u64.wrap at_ := ⟨_, rfl⟩
    have hcu0 : 0 ≤ cu := by rw [hcu, M02.wrap_u64]; omega
    obtain ⟨m, hm⟩ : ∃ m : Int, m = 8 * (s.size : Int) - 31 := ⟨_, rfl⟩
    obtain ⟨f, hf⟩ : ∃ f, f = cu % m := ⟨_, rfl⟩
    have hf0 : 0 ≤ f := by rw [hf]; exact Int.emod_nonneg _ (by omega)
    have hfn : f < m := by rw [hf]; exact Int.emod_lt_of_pos _ (by omega)
    have hmp : 0 < m := by omega
    have hml : m ≤ 16000 := by omega
    have hfr := hf.symm
    have hcr := hcu.symm
    have hmr := hm.symm
    have HF : Aside0 (0 ≤ f ∧ f + 32 ≤ 8 * (s.size : Int)) := ⟨by omega⟩
    have kb := fun W => print_bytes (P := Try.prog) 9 35 5 Try.underlying9 Try.underlying35 Try.underlying5 s W
    have kb2 := fun W => print_bytes (P := Try.prog) 9 35 5 Try.underlying9 Try.underlying35 Try.underlying5 (sealed s) W
    have HM := Aside0.mk (And.intro hm (And.intro hf hcu))
    clear hs ht cg hm hf hcu
    go_enter Try.func6, Try.ntmps6
    go_wp2_with fail
    refine (works _).mono ?_
    rintro e w1 ⟨rfl, hb⟩
    replace HB := Aside0.mk (below_step HB.out hb)
    clear hb
    have HBB := Aside0.mk (BB.new w1 5 s (by omega))
    have HB3 := Aside0.mk (bytes_below HB.out HB.out.size 5 s)
    have HG := Aside0.mk HB.out.size
    go_upto_region 6 with (fail)
    generalize hW : Lib.bytesWorld w1 5 s = W at HBB HB3 ⊢
    generalize hg : w1.heap.size = g at HBB HG ⊢
    generalize hgc : grownCap w1 s.size 0 5 = cap
    clear hW hg hgc
    go_wp2_with fail
    go_loopg [9] 33 (fun kq vi W' => ∃ x : Int, vi = .int .i64 x ∧ Aside0 (0 ≤ x ∧ x ≤ 32 ∧ x + kq = 33) ∧ Aside0 (BB 5 W' g (burst t f.toNat x.toNat (bytesOf s))) ∧ Aside0 (Below w.heap.size w W'))
    case atStart => exact ⟨0, rfl, ⟨by omega⟩, HBB, HB3⟩
    case round =>
      clear HBB HB3
      obtain ⟨x, rfl, HK, HBB, HB3⟩ := hrel
      by_cases cx : x < 32
      · have cb : decide (x < 32) = true := decide_eq_true cx
        have HCX := Aside0.mk cx
        have hx0 : 0 ≤ x := HK.out.1
        have hx1 : x ≤ 32 := by omega
        obtain ⟨q, hq⟩ : ∃ q : Int, q = f + x := ⟨_, rfl⟩
        have hq0 : 0 ≤ q := by have := HF.out; omega
        have hqn : q < 8 * (s.size : Int) := by have := HF.out; omega
        obtain ⟨j, hj⟩ : ∃ j : Int, j = q / 8 := ⟨_, rfl⟩
        obtain ⟨r, hr⟩ : ∃ r : Int, r = q % 8 := ⟨_, rfl⟩
        have hj0 : 0 ≤ j := by omega
        have hjn : j < (s.size : Int) := by omega
        have hr0 : 0 ≤ r := by omega
        have hr8 : r ≤ 8 := by omega
        have HR8 : Aside0 (r < 8) := ⟨by omega⟩
        have hln : (burst t f.toNat x.toNat (bytesOf s)).length = s.size := by rw [burst_length, bytesOf_length]
        obtain ⟨v, hv⟩ : ∃ v, v = (burst t f.toNat x.toNat (bytesOf s)).getD j.toNat 0 := ⟨_, rfl⟩
        have hvr : 0 ≤ v ∧ v ≤ 255 := by
          rw [hv, List.getD_eq_getElem?_getD, List.getElem?_eq_getElem (by rw [hln]; omega)]
          exact burst_range t f.toNat x.toNat (bytesOf s) (C02.bytes_range _) _ (List.getElem_mem _)
        have hce := HBB.out.cell (j := j.toNat) (by rw [hln]; omega)
        have hfz := HBB.out.frozen (j := j.toNat) (by rw [hln]; omega)
        rw [← hv] at hce
        obtain ⟨nv, hnv⟩ : ∃ nv, nv = Go.bits .xor .u8 v (IntKind.u8.wrap (IntKind.u8.wrap (Go.bits .and .u32 ((t : Int) / 2 ^ x.toNat) 1) * 2 ^ r.toNat)) := ⟨_, rfl⟩
        have HSET : Aside0 ((burst t f.toNat x.toNat (bytesOf s)).set j.toNat nv = burst t f.toNat (x + 1).toNat (bytesOf s)) := ⟨by
          rw [show (x + 1).toNat = x.toNat + 1 by omega, hnv, turn_code hvr t (by have := HT.out; omega) x.toNat r.toNat (by omega)]
          show _ = List.set _ _ _
          rw [hv, show (f.toNat + x.toNat) / 8 = j.toNat by have := HF.out; omega, show (f.toNat + x.toNat) % 8 = r.toNat by have := HF.out; omega]⟩
        have HBB2 := Aside0.mk (BB.set HBB.out (j := j.toNat) (by rw [hln]; omega) nv)
        rw [HSET.out] at HBB2
        have HB4 := Aside0.mk (HB3.out.setCell (p := ⟨g, j.toNat, none⟩) HG.out (.int .u8 nv))
        have hqw : IntKind.i64.wrap (f + x) = q := by rw [IntKind.wrap_i64]; omega
        have hqd : IntKind.i64.wrap (q.tdiv 8) = j := by rw [Int.tdiv_eq_ediv_of_nonneg hq0, IntKind.wrap_i64]; omega
        have hqm : q.tmod 8 = r := by rw [Int.tmod_eq_emod_of_nonneg hq0]; omega
        have HNV := Aside0.mk hnv
        have hnv2 := hnv.symm
        clear hq hj hr hln hv hvr hnv cx
        go_wp2_with fail
        refine start_ (n := 20) (S := fun w' => w'.cell? ⟨g, j.toNat, none⟩ = some (.int .u8 v)) (ds := [19]) #[false, false, false, false, false, false, false, false, false, false, false, false, false, false, false, false, false, false, false, false] (by kernel_rfl) rfl rfl (hce) (fun hHeld => ?_)
        refine pure_ (i := 0) (N := some 43) (v := ?_) (a' := ?_) #[true, false, false, false, false, false, false, false, false, false, false, false, false, false, false, false, false, false, false, false] rfl rfl (by kernel_rfl) (fun _ _ _ h => h) (Or.inl ⟨by rfl, ?_⟩) ?_ ?_
        rotate_left
        · intro w'
          go_simp
          with_reducible rfl
        rotate_left
        · simp only [Act.put, List.setIfInBounds_toArray, List.set_cons_zero, List.set_cons_succ, i64_w, i32_w]
          rfl
        refine pure_ (i := 1) (N := some 44) (v := ?_) (a' := ?_) #[true, true, false, false, false, false, false, false, false, false, false, false, false, false, false, false, false, false, false, false] rfl rfl (by kernel_rfl) (fun _ _ _ h => h) (Or.inl ⟨by rfl, ?_⟩) ?_ ?_
        rotate_left
        · intro w'
          go_simp
          with_reducible rfl
        rotate_left
        · simp only [Act.put, List.setIfInBounds_toArray, List.set_cons_zero, List.set_cons_succ, i64_w, i32_w]
          rfl
        refine pure_ (i := 2) (N := some 45) (v := ?_) (a' := ?_) #[true, true, true, false, false, false, false, false, false, false, false, false, false, false, false, false, false, false, false, false] rfl rfl (by kernel_rfl) (fun _ _ _ h => h) (Or.inl ⟨by rfl, ?_⟩) ?_ ?_
        rotate_left
        · intro w'
          go_simp
          with_reducible rfl
        rotate_left
        · simp only [Act.put, List.setIfInBounds_toArray, List.set_cons_zero, List.set_cons_succ, i64_w, i32_w]
          rfl
        refine pure_ (i := 3) (N := some 46) (v := ?_) (a' := ?_) #[true, true, true, true, false, false, false, false, false, false, false, false, false, false, false, false, false, false, false, false] rfl rfl (by kernel_rfl) (fun _ _ _ h => h) (Or.inl ⟨by rfl, ?_⟩) ?_ ?_
        rotate_left
        · intro w'
          go_simp
          with_reducible rfl
        rotate_left
        · simp only [Act.put, List.setIfInBounds_toArray, List.set_cons_zero, List.set_cons_succ, i64_w, i32_w]
          rfl
        refine pure_ (i := 4) (N := some 47) (v := ?_) (a' := ?_) #[true, true, true, true, true, false, false, false, false, false, false, false, false, false, false, false, false, false, false, false] rfl rfl (by kernel_rfl) (fun _ _ _ h => h) (Or.inl ⟨by rfl, ?_⟩) ?_ ?_
        rotate_left
        · intro w'
          go_simp
          with_reducible rfl
        rotate_left
        · simp only [Act.put, List.setIfInBounds_toArray, List.set_cons_zero, List.set_cons_succ, i64_w, i32_w]
          rfl
        refine pure_ (i := 5) (N := some 48) (v := ?_) (a' := ?_) #[true, true, true, true, true, true, false, false, false, false, false, false, false, false, false, false, false, false, false, false] rfl rfl (by kernel_rfl) (fun _ _ _ h => h) (Or.inl ⟨by rfl, ?_⟩) ?_ ?_
        rotate_left
        · intro w'
          go_simp
          with_reducible rfl
        rotate_left
        · simp only [Act.put, List.setIfInBounds_toArray, List.set_cons_zero, List.set_cons_succ, i64_w, i32_w]
          rfl
        refine pure_ (i := 7) (N := some 50) (v := ?_) (a' := ?_) #[true, true, true, true, true, true, false, true, false, false, false, false, false, false, false, false, false, false, false, false] rfl rfl (by kernel_rfl) (fun _ _ _ h => h) (Or.inl ⟨by rfl, ?_⟩) ?_ ?_
        rotate_left
        · intro w'
          go_simp
          with_reducible rfl
        rotate_left
        · simp only [Act.put, List.setIfInBounds_toArray, List.set_cons_zero, List.set_cons_succ, i64_w, i32_w]
          rfl
        refine pure_ (i := 8) (N := some 51) (v := ?_) (a' := ?_) #[true, true, true, true, true, true, false, true, true, false, false, false, false, false, false, false, false, false, false, false] rfl rfl (by kernel_rfl) (fun _ _ _ h => h) (Or.inl ⟨by rfl, ?_⟩) ?_ ?_
        rotate_left
        · intro w'
          go_simp
          with_reducible rfl
        rotate_left
        · simp only [Act.put, List.setIfInBounds_toArray, List.set_cons_zero, List.set_cons_succ, i64_w, i32_w]
          rfl
        refine pure_ (i := 9) (N := some 52) (v := ?_) (a' := ?_) #[true, true, true, true, true, true, false, true, true, true, false, false, false, false, false, false, false, false, false, false] rfl rfl (by kernel_rfl) (fun _ _ _ h => h) (Or.inl ⟨by rfl, ?_⟩) ?_ ?_
        rotate_left
        · intro w'
          go_simp
          with_reducible rfl
        rotate_left
        · simp only [Act.put, List.setIfInBounds_toArray, List.set_cons_zero, List.set_cons_succ, i64_w, i32_w]
          rfl
        refine pure_ (i := 10) (N := some 53) (v := ?_) (a' := ?_) #[true, true, true, true, true, true, false, true, true, true, true, false, false, false, false, false, false, false, false, false] rfl rfl (by kernel_rfl) (fun _ _ _ h => h) (Or.inl ⟨by rfl, ?_⟩) ?_ ?_
        rotate_left
        · intro w'
          go_simp
          with_reducible rfl
        rotate_left
        · simp only [Act.put, List.setIfInBounds_toArray, List.set_cons_zero, List.set_cons_succ, i64_w, i32_w]
          rfl
        refine pure_ (i := 11) (N := some 54) (v := ?_) (a' := ?_) #[true, true, true, true, true, true, false, true, true, true, true, true, false, false, false, false, false, false, false, false] rfl rfl (by kernel_rfl) (fun _ _ _ h => h) (Or.inl ⟨by rfl, ?_⟩) ?_ ?_
        rotate_left
        · intro w'
          go_simp
          with_reducible rfl
        rotate_left
        · simp only [Act.put, List.setIfInBounds_toArray, List.set_cons_zero, List.set_cons_succ, i64_w, i32_w]
          rfl
        refine pure_ (i := 12) (N := some 55) (v := ?_) (a' := ?_) #[true, true, true, true, true, true, false, true, true, true, true, true, true, false, false, false, false, false, false, false] rfl rfl (by kernel_rfl) (fun _ _ _ h => h) (Or.inl ⟨by rfl, ?_⟩) ?_ ?_
        rotate_left
        · intro w'
          go_simp
          with_reducible rfl
        rotate_left
        · simp only [Act.put, List.setIfInBounds_toArray, List.set_cons_zero, List.set_cons_succ, i64_w, i32_w]
          rfl
        refine pure_ (i := 13) (N := some 56) (v := ?_) (a' := ?_) #[true, true, true, true, true, true, false, true, true, true, true, true, true, true, false, false, false, false, false, false] rfl rfl (by kernel_rfl) (fun _ _ _ h => h) (Or.inl ⟨by rfl, ?_⟩) ?_ ?_
        rotate_left
        · intro w'
          go_simp
          with_reducible rfl
        rotate_left
        · simp only [Act.put, List.setIfInBounds_toArray, List.set_cons_zero, List.set_cons_succ, i64_w, i32_w]
          rfl
        refine pure_ (i := 14) (N := some 57) (v := ?_) (a' := ?_) #[true, true, true, true, true, true, false, true, true, true, true, true, true, true, true, false, false, false, false, false] rfl rfl (by kernel_rfl) (fun _ _ _ h => h) (Or.inl ⟨by rfl, ?_⟩) ?_ ?_
        rotate_left
        · intro w'
          go_simp
          with_reducible rfl
        rotate_left
        · simp only [Act.put, List.setIfInBounds_toArray, List.set_cons_zero, List.set_cons_succ, i64_w, i32_w]
          rfl
        refine pure_ (i := 15) (N := some 58) (v := ?_) (a' := ?_) #[true, true, true, true, true, true, false, true, true, true, true, true, true, true, true, true, false, false, false, false] rfl rfl (by kernel_rfl) (fun _ _ _ h => h) (Or.inl ⟨by rfl, ?_⟩) ?_ ?_
        rotate_left
        · intro w'
          go_simp
          with_reducible rfl
        rotate_left
        · simp only [Act.put, List.setIfInBounds_toArray, List.set_cons_zero, List.set_cons_succ, i64_w, i32_w]
          rfl
        refine pure_ (i := 16) (N := some 59) (v := ?_) (a' := ?_) #[true, true, true, true, true, true, false, true, true, true, true, true, true, true, true, true, true, false, false, false] rfl rfl (by kernel_rfl) (fun _ _ _ h => h) (Or.inl ⟨by rfl, ?_⟩) ?_ ?_
        rotate_left
        · intro w'
          go_simp
          with_reducible rfl
        rotate_left
        · simp only [Act.put, List.setIfInBounds_toArray, List.set_cons_zero, List.set_cons_succ, i64_w, i32_w]
          rfl
        refine take_ (i := 6) (N := some 49) (v := ?_) (a' := ?_) #[true, true, true, true, true, true, true, true, true, true, true, true, true, true, true, true, true, false, false, false] rfl rfl (by kernel_rfl) (fun _ _ _ h => h) (Or.inl ⟨by rfl, ?_⟩) hHeld ?_ ?_
        rotate_left
        · intro w' s0
          go_simp
          with_reducible rfl
        rotate_left
        · simp only [Act.put, List.setIfInBounds_toArray, List.set_cons_zero, List.set_cons_succ, i64_w, i32_w]
          rfl
        refine pure_ (i := 17) (N := some 60) (v := ?_) (a' := ?_) #[true, true, true, true, true, true, true, true, true, true, true, true, true, true, true, true, true, true, false, false] rfl rfl (by kernel_rfl) (fun _ _ _ h => h) (Or.inl ⟨by rfl, ?_⟩) ?_ ?_
        rotate_left
        · intro w'
          go_simp
          with_reducible rfl
        rotate_left
        · simp only [Act.put, List.setIfInBounds_toArray, List.set_cons_zero, List.set_cons_succ, i64_w, i32_w]
          rfl
        refine pure_ (i := 18) (N := some 61) (v := ?_) (a' := ?_) #[true, true, true, true, true, true, true, true, true, true, true, true, true, true, true, true, true, true, true, false] rfl rfl (by kernel_rfl) (fun _ _ _ h => h) (Or.inl ⟨by rfl, ?_⟩) ?_ ?_
        rotate_left
        · intro w'
          go_simp
          with_reducible rfl
        rotate_left
        · simp only [Act.put, List.setIfInBounds_toArray, List.set_cons_zero, List.set_cons_succ, i64_w, i32_w]
          rfl
        refine last_ (i := 19) (N := none) #[true, true, true, true, true, true, true, true, true, true, true, true, true, true, true, true, true, true, true, true] rfl rfl (by kernel_rfl) (by decide) (fun K hK => ?_)
        refine skip_ (w1 := ?_) (by rfl) rfl ?_ ?_
        rotate_left
        · go_simp
          rfl
        refine hK.out _ _ ?_
        clear hK K
        refine done_ (by kernel_rfl) ?_
        go_wp2
        go_roundg (gk - 1)
        case measure => have := HK.out; omega
        case rel =>
          have hk := HK.out
          have hcx := HCX.out
          exact ⟨x + 1, rfl, ⟨by omega⟩, ⟨HBB2.out.upd (F := fun _ => False) (Upd.drew (Upd.refl _ _)) (fun h => h)⟩, ⟨below_drew HB4.out⟩⟩
      · have cb : decide (x < 32) = false := decide_eq_false cx
        obtain rfl : x = 32 := by have := HK.out; omega
        replace HBB : Aside0 (BB 5 _ g (burst t f.toNat 32 (bytesOf s))) := ⟨HBB.out⟩
        clear cx HK
        have hrg := burst_range t f.toNat 32 (bytesOf s) (C02.bytes_range s)
        have hln : (burst t f.toNat 32 (bytesOf s)).length = s.size := by rw [burst_length, bytesOf_length]
        have hcv := fun c => string_of_reads (P := Try.prog) (c := c) Try.underlying35 Try.underlying5 Try.underlying9 (show ReadsInt _ .u8 (some ⟨g, 0, none⟩) _ (burst t f.toNat 32 (bytesOf s)) from HBB.out.reads)
        rw [hln] at hcv
        have HSZ : Aside0 ((strOfNums (burst t f.toNat 32 (bytesOf s))).size ≤ 9223372036854775807) := ⟨by rw [strOfNums_size, hln]; omega⟩
        have HBY := Aside0.mk (C02.bytesOf_strOfNums _ hrg)
        have hne : (((sumOf (burst t f.toNat 32 (bytesOf s))).toNat : Int) == ((sumOf (bytesOf s)).toNat : Int)) = false := beq_eq_false_iff_ne.mpr (fun h => sum_burst t f.toNat (bytesOf s) (C02.bytes_range s) (by rw [bytesOf_length]; have := HF.out; omega) HT.out.1 HT.out.2 (BitVec.eq_of_toNat_eq (by omega)))
        have HS1 : Aside0 (s.size ≤ 9223372036854775807) := ⟨by omega⟩
        clear hrg hln
        go_wp2_with fail
        refine (crc_Sum _ _ HSZ.out).mono ?_
        rintro e w5 ⟨rfl, rfl⟩
        rw [HBY.out]
        clear hcv
        go_wp2_with fail
        refine (crc_Sum _ _ HS1.out).mono ?_
        rintro e w5 ⟨rfl, rfl⟩
        go_wp2_with fail
        refine (crc_Seal _ _ HS.out).mono ?_
        rintro e w5 ⟨rfl, hb⟩
        clear hne kb HBB
        obtain ⟨z, hz⟩ : ∃ z, z = (sealed s).size := ⟨_, rfl⟩
        have hseal : (sealed s).size = z := hz.symm
        have HZ : Aside0 ((sealed s).size = z ∧ z = s.size + 4) := ⟨hseal, by rw [hz, sealed_size]⟩
        have hzb : z ≤ 2004 := by have := HZ.out.2; omega
        clear hz
        replace HB := Aside0.mk (below_step HB3.out hb)
        have HBB := Aside0.mk (BB.new w5 5 (sealed s) (by omega))
        have HB3 := Aside0.mk (bytes_below HB.out HB.out.size 5 (sealed s))
        have HG := Aside0.mk HB.out.size
        have HF2 : Aside0 (0 ≤ 32 + f ∧ 32 + f + 32 ≤ 8 * (z : Int)) := ⟨by have := HZ.out.2; have := HF.out; omega⟩
        clear hb
        go_upto_region 14 with (fail)
        generalize hW : Lib.bytesWorld w5 5 (sealed s) = W2 at HBB HB3 ⊢
        generalize hg : w5.heap.size = g2 at HBB HG ⊢
        generalize hgc : grownCap w5 z 0 5 = cap2
        clear hW hg hgc
        go_wp2_with fail
        go_loopg [11] 33 (fun kq vi W' => ∃ x : Int, vi = .int .i64 x ∧ Aside0 (0 ≤ x ∧ x ≤ 32 ∧ x + kq = 33) ∧ Aside0 (BB 5 W' g2 (burst t (32 + f).toNat x.toNat (bytesOf (sealed s)))) ∧ Aside0 (Below w.heap.size w W'))
        case atStart => exact ⟨0, rfl, ⟨by omega⟩, HBB, HB3⟩
        case round =>
          clear HBB HB3
          obtain ⟨x, rfl, HK, HBB, HB3⟩ := hrel
          by_cases cx : x < 32
          · have cb : decide (x < 32) = true := decide_eq_true cx
            have HCX := Aside0.mk cx
            have hx0 : 0 ≤ x := HK.out.1
            have hx1 : x ≤ 32 := by omega
            obtain ⟨q, hq⟩ : ∃ q : Int, q = (32 + f) + x := ⟨_, rfl⟩
            have hq0 : 0 ≤ q := by have := HF2.out; omega
            have hqn : q < 8 * (z : Int) := by have := HF2.out; omega
            obtain ⟨j, hj⟩ : ∃ j : Int, j = q / 8 := ⟨_, rfl⟩
            obtain ⟨r, hr⟩ : ∃ r : Int, r = q % 8 := ⟨_, rfl⟩
            have hj0 : 0 ≤ j := by omega
            have hjn : j < (z : Int) := by omega
            have hr0 : 0 ≤ r := by omega
            have hr8 : r ≤ 8 := by omega
            have HR8 : Aside0 (r < 8) := ⟨by omega⟩
            have hln : (burst t (32 + f).toNat x.toNat (bytesOf (sealed s))).length = z := by rw [burst_length, bytesOf_length]; exact HZ.out.1
            obtain ⟨v, hv⟩ : ∃ v, v = (burst t (32 + f).toNat x.toNat (bytesOf (sealed s))).getD j.toNat 0 := ⟨_, rfl⟩
            have hvr : 0 ≤ v ∧ v ≤ 255 := by
              rw [hv, List.getD_eq_getElem?_getD, List.getElem?_eq_getElem (by rw [hln]; omega)]
              exact burst_range t (32 + f).toNat x.toNat (bytesOf (sealed s)) (C02.bytes_range _) _ (List.getElem_mem _)
            have hce := HBB.out.cell (j := j.toNat) (by rw [hln]; omega)
            have hfz := HBB.out.frozen (j := j.toNat) (by rw [hln]; omega)
            rw [← hv] at hce
            obtain ⟨nv, hnv⟩ : ∃ nv, nv = Go.bits .xor .u8 v (IntKind.u8.wrap (IntKind.u8.wrap (Go.bits .and .u32 ((t : Int) / 2 ^ x.toNat) 1) * 2 ^ r.toNat)) := ⟨_, rfl⟩
            have HSET : Aside0 ((burst t (32 + f).toNat x.toNat (bytesOf (sealed s))).set j.toNat nv = burst t (32 + f).toNat (x + 1).toNat (bytesOf (sealed s))) := ⟨by
              rw [show (x + 1).toNat = x.toNat + 1 by omega, hnv, turn_code hvr t (by have := HT.out; omega) x.toNat r.toNat (by omega)]
              show _ = List.set _ _ _
              rw [hv, show ((32 + f).toNat + x.toNat) / 8 = j.toNat by have := HF2.out; omega, show ((32 + f).toNat + x.toNat) % 8 = r.toNat by have := HF2.out; omega]⟩
            have HBB2 := Aside0.mk (BB.set HBB.out (j := j.toNat) (by rw [hln]; omega) nv)
            rw [HSET.out] at HBB2
            have HB4 := Aside0.mk (HB3.out.setCell (p := ⟨g2, j.toNat, none⟩) HG.out (.int .u8 nv))
            have hqw : IntKind.i64.wrap ((32 + f) + x) = q := by rw [IntKind.wrap_i64]; omega
            have hqd : IntKind.i64.wrap (q.tdiv 8) = j := by rw [Int.tdiv_eq_ediv_of_nonneg hq0, IntKind.wrap_i64]; omega
            have hqm : q.tmod 8 = r := by rw [Int.tmod_eq_emod_of_nonneg hq0]; omega
            have HNV := Aside0.mk hnv
            have hnv2 := hnv.symm
            clear hq hj hr hln hv hvr hnv cx
            go_wp2_with fail
            refine start_ (n := 20) (S := fun w' => w'.cell? ⟨g2, j.toNat, none⟩ = some (.int .u8 v)) (ds := [19]) #[false, false, false, false, false, false, false, false, false, false, false, false, false, false, false, false, false, false, false, false] (by kernel_rfl) rfl rfl (hce) (fun hHeld => ?_)
            refine pure_ (i := 0) (N := some 85) (v := ?_) (a' := ?_) #[true, false, false, false, false, false, false, false, false, false, false, false, false, false, false, false, false, false, false, false] rfl rfl (by kernel_rfl) (fun _ _ _ h => h) (Or.inl ⟨by rfl, ?_⟩) ?_ ?_
            rotate_left
            · intro w'
              go_simp
              with_reducible rfl
            rotate_left
            · simp only [Act.put, List.setIfInBounds_toArray, List.set_cons_zero, List.set_cons_succ, i64_w, i32_w]
              rfl
            refine pure_ (i := 1) (N := some 86) (v := ?_) (a' := ?_) #[true, true, false, false, false, false, false, false, false, false, false, false, false, false, false, false, false, false, false, false] rfl rfl (by kernel_rfl) (fun _ _ _ h => h) (Or.inl ⟨by rfl, ?_⟩) ?_ ?_
            rotate_left
            · intro w'
              go_simp
              with_reducible rfl
            rotate_left
            · simp only [Act.put, List.setIfInBounds_toArray, List.set_cons_zero, List.set_cons_succ, i64_w, i32_w]
              rfl
            refine pure_ (i := 2) (N := some 87) (v := ?_) (a' := ?_) #[true, true, true, false, false, false, false, false, false, false, false, false, false, false, false, false, false, false, false, false] rfl rfl (by kernel_rfl) (fun _ _ _ h => h) (Or.inl ⟨by rfl, ?_⟩) ?_ ?_
            rotate_left
            · intro w'
              go_simp
              with_reducible rfl
            rotate_left
            · simp only [Act.put, List.setIfInBounds_toArray, List.set_cons_zero, List.set_cons_succ, i64_w, i32_w]
              rfl
            refine pure_ (i := 3) (N := some 88) (v := ?_) (a' := ?_) #[true, true, true, true, false, false, false, false, false, false, false, false, false, false, false, false, false, false, false, false] rfl rfl (by kernel_rfl) (fun _ _ _ h => h) (Or.inl ⟨by rfl, ?_⟩) ?_ ?_
            rotate_left
            · intro w'
              go_simp
              with_reducible rfl
            rotate_left
            · simp only [Act.put, List.setIfInBounds_toArray, List.set_cons_zero, List.set_cons_succ, i64_w, i32_w]
              rfl
            refine pure_ (i := 4) (N := some 89) (v := ?_) (a' := ?_) #[true, true, true, true, true, false, false, false, false, false, false, false, false, false, false, false, false, false, false, false] rfl rfl (by kernel_rfl) (fun _ _ _ h => h) (Or.inl ⟨by rfl, ?_⟩) ?_ ?_
            rotate_left
            · intro w'
              go_simp
              with_reducible rfl
            rotate_left
            · simp only [Act.put, List.setIfInBounds_toArray, List.set_cons_zero, List.set_cons_succ, i64_w, i32_w]
              rfl
            refine pure_ (i := 5) (N := some 90) (v := ?_) (a' := ?_) #[true, true, true, true, true, true, false, false, false, false, false, false, false, false, false, false, false, false, false, false] rfl rfl (by kernel_rfl) (fun _ _ _ h => h) (Or.inl ⟨by rfl, ?_⟩) ?_ ?_
            rotate_left
            · intro w'
              go_simp
              with_reducible rfl
            rotate_left
            · simp only [Act.put, List.setIfInBounds_toArray, List.set_cons_zero, List.set_cons_succ, i64_w, i32_w]
              rfl
            refine pure_ (i := 7) (N := some 92) (v := ?_) (a' := ?_) #[true, true, true, true, true, true, false, true, false, false, false, false, false, false, false, false, false, false, false, false] rfl rfl (by kernel_rfl) (fun _ _ _ h => h) (Or.inl ⟨by rfl, ?_⟩) ?_ ?_
            rotate_left
            · intro w'
              go_simp
              with_reducible rfl
            rotate_left
            · simp only [Act.put, List.setIfInBounds_toArray, List.set_cons_zero, List.set_cons_succ, i64_w, i32_w]
              rfl
            refine pure_ (i := 8) (N := some 93) (v := ?_) (a' := ?_) #[true, true, true, true, true, true, false, true, true, false, false, false, false, false, false, false, false, false, false, false] rfl rfl (by kernel_rfl) (fun _ _ _ h => h) (Or.inl ⟨by rfl, ?_⟩) ?_ ?_
            rotate_left
            · intro w'
              go_simp
              with_reducible rfl
            rotate_left
            · simp only [Act.put, List.setIfInBounds_toArray, List.set_cons_zero, List.set_cons_succ, i64_w, i32_w]
              rfl
            refine pure_ (i := 9) (N := some 94) (v := ?_) (a' := ?_) #[true, true, true, true, true, true, false, true, true, true, false, false, false, false, false, false, false, false, false, false] rfl rfl (by kernel_rfl) (fun _ _ _ h => h) (Or.inl ⟨by rfl, ?_⟩) ?_ ?_
            rotate_left
            · intro w'
              go_simp
              with_reducible rfl
            rotate_left
            · simp only [Act.put, List.setIfInBounds_toArray, List.set_cons_zero, List.set_cons_succ, i64_w, i32_w]
              rfl
            refine pure_ (i := 10) (N := some 95) (v := ?_) (a' := ?_) #[true, true, true, true, true, true, false, true, true, true, true, false, false, false, false, false, false, false, false, false] rfl rfl (by kernel_rfl) (fun _ _ _ h => h) (Or.inl ⟨by rfl, ?_⟩) ?_ ?_
            rotate_left
            · intro w'
              go_simp
              with_reducible rfl
            rotate_left
            · simp only [Act.put, List.setIfInBounds_toArray, List.set_cons_zero, List.set_cons_succ, i64_w, i32_w]
              rfl
            refine pure_ (i := 11) (N := some 96) (v := ?_) (a' := ?_) #[true, true, true, true, true, true, false, true, true, true, true, true, false, false, false, false, false, false, false, false] rfl rfl (by kernel_rfl) (fun _ _ _ h => h) (Or.inl ⟨by rfl, ?_⟩) ?_ ?_
            rotate_left
            · intro w'
              go_simp
              with_reducible rfl
            rotate_left
            · simp only [Act.put, List.setIfInBounds_toArray, List.set_cons_zero, List.set_cons_succ, i64_w, i32_w]
              rfl
            refine pure_ (i := 12) (N := some 97) (v := ?_) (a' := ?_) #[true, true, true, true, true, true, false, true, true, true, true, true, true, false, false, false, false, false, false, false] rfl rfl (by kernel_rfl) (fun _ _ _ h => h) (Or.inl ⟨by rfl, ?_⟩) ?_ ?_
            rotate_left
            · intro w'
              go_simp
              with_reducible rfl
            rotate_left
            · simp only [Act.put, List.setIfInBounds_toArray, List.set_cons_zero, List.set_cons_succ, i64_w, i32_w]
              rfl
            refine pure_ (i := 13) (N := some 98) (v := ?_) (a' := ?_) #[true, true, true, true, true, true, false, true, true, true, true, true, true, true, false, false, false, false, false, false] rfl rfl (by kernel_rfl) (fun _ _ _ h => h) (Or.inl ⟨by rfl, ?_⟩) ?_ ?_
            rotate_left
            · intro w'
              go_simp
              with_reducible rfl
            rotate_left
            · simp only [Act.put, List.setIfInBounds_toArray, List.set_cons_zero, List.set_cons_succ, i64_w, i32_w]
              rfl
            refine pure_ (i := 14) (N := some 99) (v := ?_) (a' := ?_) #[true, true, true, true, true, true, false, true, true, true, true, true, true, true, true, false, false, false, false, false] rfl rfl (by kernel_rfl) (fun _ _ _ h => h) (Or.inl ⟨by rfl, ?_⟩) ?_ ?_
            rotate_left
            · intro w'
              go_simp
              with_reducible rfl
            rotate_left
            · simp only [Act.put, List.setIfInBounds_toArray, List.set_cons_zero, List.set_cons_succ, i64_w, i32_w]
              rfl
            refine pure_ (i := 15) (N := some 100) (v := ?_) (a' := ?_) #[true, true, true, true, true, true, false, true, true, true, true, true, true, true, true, true, false, false, false, false] rfl rfl (by kernel_rfl) (fun _ _ _ h => h) (Or.inl ⟨by rfl, ?_⟩) ?_ ?_
            rotate_left
            · intro w'
              go_simp
              with_reducible rfl
            rotate_left
            · simp only [Act.put, List.setIfInBounds_toArray, List.set_cons_zero, List.set_cons_succ, i64_w, i32_w]
              rfl
            refine pure_ (i := 16) (N := some 101) (v := ?_) (a' := ?_) #[true, true, true, true, true, true, false, true, true, true, true, true, true, true, true, true, true, false, false, false] rfl rfl (by kernel_rfl) (fun _ _ _ h => h) (Or.inl ⟨by rfl, ?_⟩) ?_ ?_
            rotate_left
            · intro w'
              go_simp
              with_reducible rfl
            rotate_left
            · simp only [Act.put, List.setIfInBounds_toArray, List.set_cons_zero, List.set_cons_succ, i64_w, i32_w]
              rfl
            refine take_ (i := 6) (N := some 91) (v := ?_) (a' := ?_) #[true, true, true, true, true, true, true, true, true, true, true, true, true, true, true, true, true, false, false, false] rfl rfl (by kernel_rfl) (fun _ _ _ h => h) (Or.inl ⟨by rfl, ?_⟩) hHeld ?_ ?_
            rotate_left
            · intro w' s0
              go_simp
              with_reducible rfl
            rotate_left
            · simp only [Act.put, List.setIfInBounds_toArray, List.set_cons_zero, List.set_cons_succ, i64_w, i32_w]
              rfl
            refine pure_ (i := 17) (N := some 102) (v := ?_) (a' := ?_) #[true, true, true, true, true, true, true, true, true, true, true, true, true, true, true, true, true, true, false, false] rfl rfl (by kernel_rfl) (fun _ _ _ h => h) (Or.inl ⟨by rfl, ?_⟩) ?_ ?_
            rotate_left
            · intro w'
              go_simp
              with_reducible rfl
            rotate_left
            · simp only [Act.put, List.setIfInBounds_toArray, List.set_cons_zero, List.set_cons_succ, i64_w, i32_w]
              rfl
            refine pure_ (i := 18) (N := some 103) (v := ?_) (a' := ?_) #[true, true, true, true, true, true, true, true, true, true, true, true, true, true, true, true, true, true, true, false] rfl rfl (by kernel_rfl) (fun _ _ _ h => h) (Or.inl ⟨by rfl, ?_⟩) ?_ ?_
            rotate_left
            · intro w'
              go_simp
              with_reducible rfl
            rotate_left
            · simp only [Act.put, List.setIfInBounds_toArray, List.set_cons_zero, List.set_cons_succ, i64_w, i32_w]
              rfl
            refine last_ (i := 19) (N := none) #[true, true, true, true, true, true, true, true, true, true, true, true, true, true, true, true, true, true, true, true] rfl rfl (by kernel_rfl) (by decide) (fun K hK => ?_)
            refine skip_ (w1 := ?_) (by rfl) rfl ?_ ?_
            rotate_left
            · go_simp
              rfl
            refine hK.out _ _ ?_
            clear hK K
            refine done_ (by kernel_rfl) ?_
            go_wp2
            go_roundg (gk - 1)
            case measure => have := HK.out; omega
            case rel =>
              have hk := HK.out
              have hcx := HCX.out
              exact ⟨x + 1, rfl, ⟨by omega⟩, ⟨HBB2.out.upd (F := fun _ => False) (Upd.drew (Upd.refl _ _)) (fun h => h)⟩, ⟨below_drew HB4.out⟩⟩
          · have cb : decide (x < 32) = false := decide_eq_false cx
            obtain rfl : x = 32 := by have := HK.out; omega
            replace HBB : Aside0 (BB 5 _ g2 (burst t (32 + f).toNat 32 (bytesOf (sealed s)))) := ⟨HBB.out⟩
            clear cx HK
            have hrg := burst_range t (32 + f).toNat 32 (bytesOf (sealed s)) (C02.bytes_range _)
            have hln : (burst t (32 + f).toNat 32 (bytesOf (sealed s))).length = z := by rw [burst_length, bytesOf_length]; exact HZ.out.1
            have hcv := fun c => string_of_reads (P := Try.prog) (c := c) Try.underlying35 Try.underlying5 Try.underlying9 (show ReadsInt _ .u8 (some ⟨g2, 0, none⟩) _ (burst t (32 + f).toNat 32 (bytesOf (sealed s))) from HBB.out.reads)
            rw [hln] at hcv
            have HSZ : Aside0 ((strOfNums (burst t (32 + f).toNat 32 (bytesOf (sealed s)))).size ≤ 140737488351232) := ⟨by rw [strOfNums_size, hln]; omega⟩
            have HO : Aside0 (opens (strOfNums (burst t (32 + f).toNat 32 (bytesOf (sealed s)))) = false) := ⟨by
              rw [show (32 + f).toNat = 32 + f.toNat by omega]
              exact opens_burst s t f.toNat (by have := HF.out; omega) HT.out.1 HT.out.2⟩
            clear hrg hln
            go_wp2_with fail
            refine (crc_Open _ _ HSZ.out).mono ?_
            rintro e w7 ⟨rfl, hb⟩
            rw [HO.out]
            replace HB := Aside0.mk (below_step HB3.out hb)
            clear hb
            go_wp2
            go_ret
            exact ⟨by first | rfl | (simp; done), HB.out⟩
namespace crcBursts
open Go.ChangeShapes Go.WideShapes Go.ChangeAt Go.RowKit
open Go.ChangeMaps (open_string shut_string)
set_option linter.unusedVariables false
theorem own : ownKnob Try.prog.godebug = none := by kernel_rfl
set_option maxRecDepth 100000 in
theorem lifted (os : Os) (started : os.Started) (H : Type) (enc : TypeId × Value → H) :
    ReturnsInHanded {} Try.checked os 6 .any (Rows.crcBurstsSpec.pre6 enc Try.prog Try.f6 Rows.crcBurstsRow.domain false) (Rows.crcBurstsSpec.post enc Try.prog Try.f6 false true false false) := by
  refine returnsInHanded_of_change_sized (C := Try.checked) own started (by kernel_rfl) Try.func6
    (ChangeSpec.witness6 (enc := enc) (C := Try.checked) false ⟨#[], #[.string ByteArray.empty, .int .i64 0, .int .u32 0], []⟩ 8 (by kernel_rfl) (by kernel_rfl) (by kernel_rfl) (by kernel_rfl)) ?_
  intro W base args ds gs before hval0 hW hcnd hsz0 _
  have hsz : (DataW.weightsEach Try.prog (Try.f6.params.toList ++ Rows.crcBurstsSpec.plain.varTypes Try.prog) (ds ++ gs)).all (· ≤ reachBytes) = true := hsz0
  have hval : ∀ (j : Nat) t v, Try.f6.params[j]? = some t → args[j]? = some v → Value.okWide Try.prog W .any base t v := hval0
  have hW' := hW
  obtain ⟨p, q, hA0, hV, rfl, hfz, hnd⟩ := hW
  have hA : DataW.TrodAll enc Try.prog W 0 (fun _ => true) true Try.f6.params.toList args.toList ds p := hA0
  rw [Try.params6] at hA hval hsz
  obtain ⟨v0, vs0, d0, ds0, p0, q0, hargs, rfl, rfl, h0, r0⟩ := trodAll_cons hA
  obtain ⟨v1, vs1, d1, ds1, p1, q1, rfl, rfl, rfl, h1, r1⟩ := trodAll_cons r0
  obtain ⟨v2, vs2, d2, ds2, p2, q2, rfl, rfl, rfl, h2, r2⟩ := trodAll_cons r1
  obtain ⟨rfl, rfl, rfl⟩ := trodAll_nil r2
  obtain rfl : args = #[v0, v1, v2] := by cases args; simp_all
  obtain ⟨rfl, rfl⟩ := trodVars_none hV
  obtain ⟨a0, rfl, rfl, rfl, y0⟩ := open_string Try.underlying9 (hval 0 9 v0 rfl rfl) h0
  have w0 : a0.size ≤ 140737488351232 := by
    have z := sized_string hsz (j := 0) (t := 9) rfl rfl
    rw [Array.length_toList] at z
    exact z
  obtain ⟨a1, rfl, rfl, rfl, w1⟩ := open_int Try.underlying3 (hval 1 3 v1 rfl rfl) h1
  have b1 : -9223372036854775808 ≤ a1 ∧ a1 < 9223372036854775808 := by have := bounds_i64 w1; omega
  obtain ⟨a2, rfl, rfl, rfl, w2⟩ := open_int Try.underlying27 (hval 2 27 v2 rfl rfl) h2
  have b2 : 0 ≤ a2 ∧ a2 < 4294967296 := by have := bounds_u32 w2; omega
  clear hA0 hval0 hsz0 hsz
  refine (CrcBursts_walk a0 a1 a2 W w0 b1 b2).mono fun e W' ⟨he, bel⟩ => ?_
  subst he
  exact ⟨_, rfl, _, _, _, [], _, [], hW', trodAll_mk1 (shut_bool Try.underlying4 _), (trodAll_cons_mk (shut_string Try.underlying9 y0) (trodAll_cons_mk (shut_int Try.underlying3 w1) (trodAll_cons_mk (shut_int Try.underlying27 w2) trodAll_mk0))), rfl, bel.frame _, fun h => by cases h⟩
theorem over : Rows.crcBurstsRow.holds Try.pinned (OpenSpec.ofChange Rows.crcBurstsSpec) :=
  OpenClaim.holds_of_wide 6 Try.f6 rfl rfl rfl rfl rfl rfl rfl ⟨rfl, rfl, rfl, rfl, rfl⟩ rfl rfl rfl rfl rfl (by kernel_rfl) Try.func6 (by kernel_rfl)
    (of_decide_eq_true (by kernel_rfl)) (by unfold Func.isWrapper; first | (rw [if_pos (by decide +kernel)]; kernel_rfl) | (rw [if_neg (by decide +kernel)]; exact ⟨rfl, rfl⟩))
    (fun os started H enc _ => lifted os started H enc)
theorem proved : Rows.CrcBurstsSaid := over
#print axioms proved
end crcBursts
/-- The row, under a short name, for the claim. -/
theorem crcBursts_holds : Rows.CrcBurstsSaid := crcBursts.proved
end Go.Proofs.Ytnapckkbnpocgaa
