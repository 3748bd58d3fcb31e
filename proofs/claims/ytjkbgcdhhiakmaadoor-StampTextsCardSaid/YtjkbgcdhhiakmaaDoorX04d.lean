import Derived.Test.YtjkbgcdhhiakmaaDoorProg
import Derived.Test.YtjkbgcdhhiakmaaDoorVMore
import Derived.Test.YtjkbgcdhhiakmaaDoorBase
import Derived.Test.YtjkbgcdhhiakmaaDoorPl
import Derived.Test.YtjkbgcdhhiakmaaDoorAr
import Derived.Test.YtjkbgcdhhiakmaaDoorM08
import Derived.Deep.CutBlock
import Derived.Deep.DeepCutAuto
/- A contract of package stamp: a number in digits. -/
namespace Go.Proofs.YtjkbgcdhhiakmaaDoor.Ext
open Go.RowKit Go.Proofs.YtjkbgcdhhiakmaaDoorW.PrintWords Go.Proofs.YtjkbgcdhhiakmaaDoorW.PrintLast Go.Proofs.YtjkbgcdhhiakmaaDoorW.PrintMore Go.Proofs.YtjkbgcdhhiakmaaDoor.Base Go.Proofs.YtjkbgcdhhiakmaaDoor.M08 Go.Proofs.YtjkbgcdhhiakmaaDoor.Ar

/-- A number's digits, as a string. -/
def dgs (n : Int) : ByteArray := strOfNums (dig n.toNat)
theorem infou8d : (Tryd.prog.info? 5).map (fun i => (i.zero, i.size, i.bytes)) = some (some (.int .u8 0), 1, 1) := by kernel_rfl
set_option maxRecDepth 100000 in
set_option maxHeartbeats 1000000 in
theorem stamp_digits_c (U : Int) (w : World) (hU : 0 ≤ U ∧ U < 4294967296) : Calls Tryd.prog 28 #[.int .u32 U] w fun e w' => e = .returned (.string (dgs U)) ∧ Below w.heap.size w w' := by
  have HB := Aside0.mk (Below.refl w.heap.size w)
  have HT := Aside0.mk hU
  have HD : Aside0 ((dig U.toNat).length ≤ 10) := ⟨dig_length 9 U.toNat (by omega)⟩
  clear hU
  go_enter Tryd.func28, Tryd.ntmps28
  go_wp2
  go_loopg [4, 0] 9 (fun kq v4 v0 W' => ∃ (u : Int) (l : List Int), v4 = .int .i64 ((kq : Int) + 1) ∧ v0 = .int .u32 u ∧ Aside0 (kq ≤ 9 ∧ 0 ≤ u ∧ u < 4294967296 ∧ u < 10 ^ (kq + 1) ∧ l.length = 10 ∧ dig u.toNat ++ l.drop (kq + 1) = dig U.toNat) ∧ Aside0 (BLK W' w.heap.size 71 l) ∧ Aside0 (Below w.heap.size w W'))
  case atStart => exact ⟨U, List.replicate 10 0, rfl, rfl, ⟨by omega, HT.out.1, by have := HT.out; omega, by have := HT.out; omega, rfl, by simp⟩, ⟨⟨blk_new _ _⟩⟩, ⟨below_alloc HB.out _⟩⟩
  case round =>
    obtain ⟨u, l, rfl, rfl, HK, HL, HBW⟩ := hrel
    have hk : gk ≤ 9 := HK.out.1
    have hu0 : 0 ≤ u := HK.out.2.1
    have hu1 : u < 4294967296 := HK.out.2.2.1
    have hc0 := HL.out.at_ (i := gk) (by have := HK.out.2.2.2.2.1; omega)
    have hf0 := blk_frozen HL.out.out gk
    have HL' := Aside0.mk (HL.out.set_ gk (48 + u % 10))
    have HBW' := Aside0.mk (HBW.out.setCell (p := ⟨w.heap.size, gk, none⟩) (Nat.le_refl _) (.int .u8 (48 + u % 10)))
    by_cases cu : u / 10 = 0
    · have cb : (u / 10 == 0) = true := beq_iff_eq.mpr cu
      have HE : Aside0 ((l.set gk (48 + u % 10)).drop gk = dig U.toNat ∧ (l.set gk (48 + u % 10)).length = 10) := ⟨by
        have h := HK.out
        refine ⟨?_, by rw [List.length_set]; exact h.2.2.2.2.1⟩
        rw [← h.2.2.2.2.2, dig_lt (by omega), Ar.drop_set _ _ _ (by omega), show u % 10 = ((u.toNat : Nat) : Int) from by omega]
        rfl⟩
      clear cu
      have hsl := fun W : World => sliceAt_from (P := Tryd.prog) Tryd.underlying71 infou8d w.heap.size 0 .i64 gk (by omega) W
      have hR := HL'.out.reads (a := gk) (by rw [HE.out.2]; omega) (by rw [HE.out.2]; omega)
      rw [HE.out.2, HE.out.1] at hR
      have hcv := fun c : Nat => string_of_reads (P := Tryd.prog) (c := c) Tryd.underlying72 Tryd.underlying5 Tryd.underlying9 hR
      clear hR
      go_wp2
      go_ret
      exact ⟨rfl, HBW'.out⟩
    · have cb : (u / 10 == 0) = false := beq_eq_false_iff_ne.mpr cu
      have HE : Aside0 (gk ≠ 0 ∧ ¬ u / 10 = 0) := ⟨by have := HK.out.2.2.2.1; rintro rfl; omega, cu⟩
      clear cu
      go_wp2
      go_roundg (gk - 1)
      case measure => have := HE.out; omega
      case rel =>
        obtain ⟨k1, rfl⟩ : ∃ k1, gk = k1 + 1 := ⟨gk - 1, by have := HE.out; omega⟩
        refine ⟨u / 10, l.set (k1 + 1) (48 + u % 10), by first | rfl | (simp; done), rfl, ⟨?_⟩, HL', HBW'⟩
        have h := HK.out
        have hp : (10 : Int) ^ (k1 + 1 + 1) = 10 ^ (k1 + 1) * 10 := Int.pow_succ ..
        refine ⟨by omega, by omega, by omega, by simp only [Nat.add_sub_cancel]; omega, by rw [List.length_set]; exact h.2.2.2.2.1, ?_⟩
        have hu : ¬ u.toNat < 10 := by have := HE.out.2; omega
        simp only [Nat.add_sub_cancel]
        rw [Ar.drop_set _ _ _ (by omega), ← h.2.2.2.2.2, dig_ge hu, show (u / 10).toNat = u.toNat / 10 from by omega, show 48 + ((u.toNat % 10 : Nat) : Int) = 48 + u % 10 from by omega]
        simp
end Go.Proofs.YtjkbgcdhhiakmaaDoor.Ext
