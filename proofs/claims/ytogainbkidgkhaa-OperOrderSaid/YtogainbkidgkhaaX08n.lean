import Derived.Test.YtogainbkidgkhaaProg
import Derived.Test.YtogainbkidgkhaaWMore
import Derived.Test.YtogainbkidgkhaaPl
import Derived.Test.YtogainbkidgkhaaM08
import Derived.Deep.CutBlock
import Derived.Deep.DeepCutAuto
/- A contract of package words: a number in digits. -/
namespace Go.Proofs.Ytogainbkidgkhaa.Ext
open Go.RowKit Go.Proofs.YtogainbkidgkhaaW.PrintWords Go.Proofs.YtogainbkidgkhaaW.PrintLast Go.Proofs.YtogainbkidgkhaaW.PrintMore Go.Proofs.Ytogainbkidgkhaa.Base Go.Proofs.Ytogainbkidgkhaa.M08 Go.Proofs.Ytogainbkidgkhaa.Ar

def words_Number.f (v : Int) : Option ByteArray := if -9223372036854775808 ≤ v ∧ v < 9223372036854775808 then some (strOfNums (txt v)) else none
theorem words_Number_f (v : Int) (h0 : -9223372036854775808 ≤ v) (h1 : v < 9223372036854775808) : words_Number.f v = some (strOfNums (txt v)) := if_pos ⟨h0, h1⟩

theorem infou8 : (Try.prog.info? 5).map (fun i => (i.zero, i.size, i.bytes)) = some (some (.int .u8 0), 1, 1) := by kernel_rfl
set_option maxRecDepth 100000 in
set_option maxHeartbeats 1000000 in
theorem words_Number.calls (a0 : Int) (r : ByteArray) (w : World) (h : words_Number.f a0 = some r) :
    Calls Try.prog 38 #[.int .i64 a0] w fun e w' => e = .returned (.string r) ∧ Below w.heap.size w w' := by
  unfold words_Number.f at h
  split at h
  case isFalse => cases h
  rename_i hc
  obtain rfl := Option.some.inj h
  clear h
  have HB := Aside0.mk (Below.refl w.heap.size w)
  by_cases c : a0 < 0
  · have c0 : decide (a0 < 0) = true := decide_eq_true c
    have e0 : IntKind.u64.wrap (-IntKind.u64.wrap a0) = -a0 := by rw [Pl.u64w, Pl.u64w]; omega
    obtain ⟨U, hU⟩ : ∃ U : Int, U = -a0 := ⟨_, rfl⟩
    have HT : Aside0 (txt a0 = 45 :: dig U.toNat ∧ 0 ≤ U ∧ U ≤ 9223372036854775808) := ⟨by rw [txt_neg c, hU], by omega, by omega⟩
    rw [← hU] at e0
    clear hU hc c
    have hU1 : U < 10 ^ (19 + 1) := by have := HT.out; omega
    have HU := Aside0.mk hU1
    have HD19 : Aside0 ((dig U.toNat).length ≤ 19) := ⟨dig_length 18 U.toNat (by have := HT.out; omega)⟩
    clear hU1
    go_enter Try.func38, Try.ntmps38
    go_wp2
    go_loopg [4, 5] 19 (fun kq v4 v5 W' => ∃ (u : Int) (l : List Int), v4 = .int .i64 ((kq : Int) + 1) ∧ v5 = .int .u64 u ∧ Aside0 (kq ≤ 19 ∧ 0 ≤ u ∧ u < 18446744073709551616 ∧ u < 10 ^ (kq + 1) ∧ l.length = 20 ∧ dig u.toNat ++ l.drop (kq + 1) = dig U.toNat) ∧ Aside0 (BLK W' w.heap.size 86 l) ∧ Aside0 (Below w.heap.size w W'))
    case atStart => exact ⟨U, List.replicate 20 0, rfl, rfl, ⟨by omega, HT.out.2.1, by have := HT.out; omega, HU.out, rfl, by simp⟩, ⟨⟨blk_new _ _⟩⟩, ⟨below_alloc HB.out _⟩⟩
    case round =>
      obtain ⟨u, l, rfl, rfl, HK, HL, HBW⟩ := hrel
      have hk : gk ≤ 19 := HK.out.1
      have hu0 : 0 ≤ u := HK.out.2.1
      have hu1 : u < 18446744073709551616 := HK.out.2.2.1
      have hc0 := HL.out.at_ (i := gk) (by have := HK.out.2.2.2.2.1; omega)
      have hf0 := blk_frozen HL.out.out gk
      have HL' := Aside0.mk (HL.out.set_ gk (48 + u % 10))
      have HBW' := Aside0.mk (HBW.out.setCell (p := ⟨w.heap.size, gk, none⟩) (Nat.le_refl _) (.int .u8 (48 + u % 10)))
      by_cases cu : u / 10 = 0
      · have cb : (u / 10 == 0) = true := beq_iff_eq.mpr cu
        have HE : Aside0 ((l.set gk (48 + u % 10)).drop gk = dig U.toNat ∧ (l.set gk (48 + u % 10)).length = 20) := ⟨by
          have h := HK.out
          refine ⟨?_, by rw [List.length_set]; exact h.2.2.2.2.1⟩
          rw [← h.2.2.2.2.2, dig_lt (by omega), drop_set _ _ _ (by omega), show u % 10 = ((u.toNat : Nat) : Int) from by omega]
          rfl⟩
        clear cu
        have hg1 : 1 ≤ gk := (by have h1 := HE.out; have h2 := congrArg List.length h1.1; rw [List.length_drop, h1.2] at h2; have := HD19.out; omega)
        have hg2 : 0 ≤ (gk : Int) - 1 := (by omega)
        have hc1 := HL'.out.at_ (i := gk - 1) (by rw [HE.out.2]; omega)
        have hf1 := blk_frozen HL'.out.out (gk - 1)
        have hsl : ∀ W : World, (Instr.sliceAt 86 (.pointer (some ⟨w.heap.size, 0, none⟩)) (some (.int .i64 ((gk : Int) - 1))) none none).run Try.prog W = .ok (.slice (some ⟨w.heap.size, gk - 1, none⟩) (20 - (gk - 1)) (20 - (gk - 1))) W := fun W => by
          have := sliceAt_from (P := Try.prog) Try.underlying86 infou8 w.heap.size 0 .i64 (gk - 1) (by omega) W
          rwa [show ((gk - 1 : Nat) : Int) = (gk : Int) - 1 from by omega, Nat.zero_add] at this
        have HL2 := Aside0.mk (HL'.out.set_ (gk - 1) 45)
        have hR := HL2.out.reads (a := gk - 1) (by rw [List.length_set, HE.out.2]; omega) (by rw [List.length_set, HE.out.2]; omega)
        rw [List.length_set, HE.out.2, Ar.drop_set _ _ _ (by rw [HE.out.2]; omega), show gk - 1 + 1 = gk from by omega, HE.out.1, ← HT.out.1] at hR
        have hcv := fun c : Nat => string_of_reads (P := Try.prog) (c := c) Try.underlying87 Try.underlying5 Try.underlying9 hR
        clear hR
        go_wp2
        go_ret
        exact ⟨rfl, HBW'.out.setCell (p := ⟨w.heap.size, gk - 1, none⟩) (Nat.le_refl _) _⟩
      · have cb : (u / 10 == 0) = false := beq_eq_false_iff_ne.mpr cu
        have HE : Aside0 (gk ≠ 0 ∧ ¬ u / 10 = 0) := ⟨by have := HK.out.2.2.2.1; rintro rfl; omega, cu⟩
        clear cu
        go_wp2
        go_roundg (gk - 1)
        case measure => have := HE.out; omega
        case rel =>
          obtain ⟨k1, rfl⟩ : ∃ k1, gk = k1 + 1 := ⟨gk - 1, by have := HE.out; omega⟩
          refine ⟨u / 10, l.set (k1 + 1) (48 + u % 10), by first | rfl | (simp; done), rfl, ⟨?_⟩, HL', HBW'⟩
          have h := HK.out
          have hp : (10 : Int) ^ (k1 + 1 + 1) = 10 ^ (k1 + 1) * 10 := Int.pow_succ ..
          refine ⟨by omega, by omega, by omega, by simp only [Nat.add_sub_cancel]; omega, by rw [List.length_set]; exact h.2.2.2.2.1, ?_⟩
          have hu : ¬ u.toNat < 10 := by have := HE.out.2; omega
          simp only [Nat.add_sub_cancel]
          rw [Ar.drop_set _ _ _ (by omega), ← h.2.2.2.2.2, dig_ge hu, show (u / 10).toNat = u.toNat / 10 from by omega, show 48 + ((u.toNat % 10 : Nat) : Int) = 48 + u % 10 from by omega]
          simp
  · have c0 : decide (a0 < 0) = false := decide_eq_false c
    have e0 : IntKind.u64.wrap a0 = a0 := by rw [Pl.u64w]; omega
    obtain ⟨U, hU⟩ : ∃ U : Int, U = a0 := ⟨_, rfl⟩
    have HT : Aside0 (txt U = dig U.toNat ∧ 0 ≤ U ∧ U ≤ 9223372036854775808) := ⟨by rw [hU, txt_pos c], by omega, by omega⟩
    rw [← hU] at e0 c0
    subst hU
    clear hc c
    have hU1 : U < 10 ^ (19 + 1) := by have := HT.out; omega
    have HU := Aside0.mk hU1
    have HD19 : Aside0 ((dig U.toNat).length ≤ 19) := ⟨dig_length 18 U.toNat (by have := HT.out; omega)⟩
    clear hU1
    go_enter Try.func38, Try.ntmps38
    go_wp2
    go_loopg [4, 5] 19 (fun kq v4 v5 W' => ∃ (u : Int) (l : List Int), v4 = .int .i64 ((kq : Int) + 1) ∧ v5 = .int .u64 u ∧ Aside0 (kq ≤ 19 ∧ 0 ≤ u ∧ u < 18446744073709551616 ∧ u < 10 ^ (kq + 1) ∧ l.length = 20 ∧ dig u.toNat ++ l.drop (kq + 1) = dig U.toNat) ∧ Aside0 (BLK W' w.heap.size 86 l) ∧ Aside0 (Below w.heap.size w W'))
    case atStart => exact ⟨U, List.replicate 20 0, rfl, rfl, ⟨by omega, HT.out.2.1, by have := HT.out; omega, HU.out, rfl, by simp⟩, ⟨⟨blk_new _ _⟩⟩, ⟨below_alloc HB.out _⟩⟩
    case round =>
      obtain ⟨u, l, rfl, rfl, HK, HL, HBW⟩ := hrel
      have hk : gk ≤ 19 := HK.out.1
      have hu0 : 0 ≤ u := HK.out.2.1
      have hu1 : u < 18446744073709551616 := HK.out.2.2.1
      have hc0 := HL.out.at_ (i := gk) (by have := HK.out.2.2.2.2.1; omega)
      have hf0 := blk_frozen HL.out.out gk
      have HL' := Aside0.mk (HL.out.set_ gk (48 + u % 10))
      have HBW' := Aside0.mk (HBW.out.setCell (p := ⟨w.heap.size, gk, none⟩) (Nat.le_refl _) (.int .u8 (48 + u % 10)))
      by_cases cu : u / 10 = 0
      · have cb : (u / 10 == 0) = true := beq_iff_eq.mpr cu
        have HE : Aside0 ((l.set gk (48 + u % 10)).drop gk = dig U.toNat ∧ (l.set gk (48 + u % 10)).length = 20) := ⟨by
          have h := HK.out
          refine ⟨?_, by rw [List.length_set]; exact h.2.2.2.2.1⟩
          rw [← h.2.2.2.2.2, dig_lt (by omega), drop_set _ _ _ (by omega), show u % 10 = ((u.toNat : Nat) : Int) from by omega]
          rfl⟩
        clear cu
        have hsl := fun W : World => sliceAt_from (P := Try.prog) Try.underlying86 infou8 w.heap.size 0 .i64 gk (by omega) W
        have hR := HL'.out.reads (a := gk) (by rw [HE.out.2]; omega) (by rw [HE.out.2]; omega)
        rw [HE.out.2, HE.out.1, ← HT.out.1] at hR
        have hcv := fun c : Nat => string_of_reads (P := Try.prog) (c := c) Try.underlying87 Try.underlying5 Try.underlying9 hR
        clear hR
        go_wp2
        go_ret
        exact ⟨rfl, HBW'.out⟩
      · have cb : (u / 10 == 0) = false := beq_eq_false_iff_ne.mpr cu
        have HE : Aside0 (gk ≠ 0 ∧ ¬ u / 10 = 0) := ⟨by have := HK.out.2.2.2.1; rintro rfl; omega, cu⟩
        clear cu
        go_wp2
        go_roundg (gk - 1)
        case measure => have := HE.out; omega
        case rel =>
          obtain ⟨k1, rfl⟩ : ∃ k1, gk = k1 + 1 := ⟨gk - 1, by have := HE.out; omega⟩
          refine ⟨u / 10, l.set (k1 + 1) (48 + u % 10), by first | rfl | (simp; done), rfl, ⟨?_⟩, HL', HBW'⟩
          have h := HK.out
          have hp : (10 : Int) ^ (k1 + 1 + 1) = 10 ^ (k1 + 1) * 10 := Int.pow_succ ..
          refine ⟨by omega, by omega, by omega, by simp only [Nat.add_sub_cancel]; omega, by rw [List.length_set]; exact h.2.2.2.2.1, ?_⟩
          have hu : ¬ u.toNat < 10 := by have := HE.out.2; omega
          simp only [Nat.add_sub_cancel]
          rw [Ar.drop_set _ _ _ (by omega), ← h.2.2.2.2.2, dig_ge hu, show (u / 10).toNat = u.toNat / 10 from by omega, show 48 + ((u.toNat % 10 : Nat) : Int) = 48 + u % 10 from by omega]
          simp
end Go.Proofs.Ytogainbkidgkhaa.Ext
