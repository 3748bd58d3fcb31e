import Derived.Test.YtmpgknemhmoboaaProg
import Derived.Test.YtmpgknemhmoboaaWMore
import Derived.Test.YtmpgknemhmoboaaM02
import Derived.WalkKit
import Derived.KernelRfl
import Derived.Deep.LoopGhost
import Derived.Deep.QuietTactic
import Derived.BigQuiet
import Derived.OwnWalk
/- Contracts of package code and of the document's answer for it: numbers and texts in bytes. -/
namespace Go.Proofs.Ytmpgknemhmoboaa.C02
open Go.RowKit Go.Proofs.YtmpgknemhmoboaaW.PrintWords Go.Proofs.YtmpgknemhmoboaaW.PrintLast Go.Proofs.YtmpgknemhmoboaaW.PrintMore Go.Proofs.Ytmpgknemhmoboaa.M02

theorem info5 : (Try.prog.info? 5).map (fun i => (i.zero, i.size, i.bytes)) = some (some (.int .u8 0), 1, 1) := by kernel_rfl

set_option maxHeartbeats 1000000 in
theorem code_Num (v : Int) (w : World) (h0 : 0 ≤ v) (h1 : v < 18446744073709551616) :
    Calls Try.prog 50 #[.int .u64 v] w fun e w' => e = .returned (.string (strOfNums (leb 9 v))) ∧ Below w.heap.size w w' := by
  have HB := Aside0.mk (Below.refl w.heap.size w)
  have H' : Aside0 (0 ≤ v ∧ v < 128 ^ (9 + 1) ∧ [] ++ leb 9 v = leb 9 v) := ⟨⟨h0, by omega, rfl⟩⟩
  clear h0 h1
  go_enter Try.func50, Try.ntmps50
  go_wp2
  go_loopg [0, 3] 9 (fun kq v0 v3 w' => ∃ (x : Int) (acc : List Int), v0 = .int .u64 x ∧ Aside0 (0 ≤ x ∧ x < 128 ^ (kq + 1) ∧ acc ++ leb kq x = leb 9 v) ∧ Aside0 (kq ≤ 9 ∧ acc.length + kq ≤ 9) ∧ Aside0 (Kd.R (Kd.int .u8) 5 w' w.heap.size (fun _ => True) v3 acc) ∧ Aside0 (Below w.heap.size w w'))
  case atStart => exact ⟨v, [], rfl, H', ⟨by simp⟩, ⟨Kd.R_nil _ _ _ _ _⟩, HB⟩
  case round =>
    clear H' HB
    obtain ⟨x, acc, rfl, H, HK, HO, HB⟩ := hrel
    by_cases c : x ≥ 128
    · have c0 : decide (128 ≤ x) = true := decide_eq_true c
      cases gk with
      | zero => exact absurd H.out.2.1 (by omega)
      | succ k1 =>
        have hx := H.out.1
        have e1 := Aside0.mk (or128 hx)
        clear hx c
        go_wp2_with (first | ((with_reducible refine gate_builtin (b := .append) (xs := #[.tmp 6, .tmp 10]) rfl ?_); at_builtin; refine Kd.R_append (Kd.int .u8) (w0 := w) w.heap.size rfl (.tmp 6) (.tmp 10) 88 5 (.int .u8 0) 1 rfl Try.underlying88 info5 rfl (by decide) (by omega) u3 acc (Go.bits .or .u8 (x % 256) 128) [.int .u8 (Go.bits .or .u8 (x % 256) 128)] (fun _ => True) (fun _ => False) rfl rfl ?aP (fun _ hk => hk.elim) ?aF ?aO ?aB ?aS ?aL ?_; (case aP => exact rfl); (case aB => exact (by repeat (first | (with_reducible first | exact HB.out | apply below_alloc | apply pw_below_drewN | apply below_drew1) | exact HB.out))); (case aF => exact (fun _ _ => trivial)); (case aO => exact (by (with_reducible repeat (first | apply Kd.R_alloc | apply Kd.R_drewN | apply Kd.R_drew)); exact HO.out)); (case aS => exact (below_size (by repeat (first | (with_reducible first | exact HB.out | apply below_alloc | apply pw_below_drewN | apply below_drew1) | exact HB.out)))); (case aL => (have := HK.out; omega)); intro va_ wa_ ho hb hg hat; have n0_ := Aside0.mk (hb); have n1_ := Aside0.mk (ho); clear HB; clear HO; have HB := n0_; have HO := n1_; clear n0_ n1_; clear ho hb hg hat))
        go_roundg k1
        case measure => omega
        case rel =>
          have hh := H.out
          have hc : x ≥ 128 := by simpa using c0
          rw [leb_more hc] at hh
          exact ⟨x / 128, acc ++ [Go.bits .or .u8 (x % 256) 128], rfl, ⟨by omega, by have : (128 : Int) ^ (k1 + 1 + 1) = 128 ^ (k1 + 1) * 128 := Int.pow_succ ..; omega, by rw [e1.out, ← hh.2.2]; simp⟩, ⟨by have := HK.out; simp; omega⟩, HO, HB⟩
    · have c0 : decide (128 ≤ x) = false := decide_eq_false c
      have hh := H.out
      rw [leb_last c] at hh
      have HL := Aside0.mk hh.2.2
      clear hh c
      go_wp2_with (first | ((with_reducible refine gate_builtin (b := .append) (xs := #[.tmp 14, .tmp 17]) rfl ?_); at_builtin; refine Kd.R_append (Kd.int .u8) (w0 := w) w.heap.size rfl (.tmp 14) (.tmp 17) 88 5 (.int .u8 0) 1 rfl Try.underlying88 info5 rfl (by decide) (by omega) u3 acc (x % 256) [.int .u8 (x % 256)] (fun _ => True) (fun _ => False) rfl rfl ?aP (fun _ hk => hk.elim) ?aF ?aO ?aB ?aS ?aL ?_; (case aP => exact rfl); (case aB => exact (by repeat (first | (with_reducible first | exact HB.out | apply below_alloc | apply pw_below_drewN | apply below_drew1) | exact HB.out))); (case aF => exact (fun _ _ => trivial)); (case aO => exact (by (with_reducible repeat (first | apply Kd.R_alloc | apply Kd.R_drewN | apply Kd.R_drew)); exact HO.out)); (case aS => exact (below_size (by repeat (first | (with_reducible first | exact HB.out | apply below_alloc | apply pw_below_drewN | apply below_drew1) | exact HB.out)))); (case aL => (have := HK.out; omega)); intro va_ wa_ ho hb hg hat; have n0_ := Aside0.mk (hb); have n1_ := Aside0.mk (ho); clear HB; clear HO; have HB := n0_; have HO := n1_; clear n0_ n1_; clear ho hb hg hat; have hcv7 := own_string (P := Try.prog) Try.underlying88 Try.underlying5 Try.underlying9 (Kd.own_of_R HO.out)))
      go_ret
      exact ⟨by rw [← HL.out]; rfl, HB.out⟩


set_option maxHeartbeats 1000000 in
theorem ref_Num (v : Int) (w : World) (h0 : 0 ≤ v) (h1 : v < 18446744073709551616) :
    Calls Try.prog 53 #[.int .u64 v] w fun e w' => e = .returned (.string (strOfNums (leb 9 v))) ∧ Below w.heap.size w w' := by
  have HB := Aside0.mk (Below.refl w.heap.size w)
  have H' : Aside0 (0 ≤ v ∧ v < 128 ^ (9 + 1) ∧ [] ++ leb 9 v = leb 9 v) := ⟨⟨h0, by omega, rfl⟩⟩
  have H1 : Aside0 (v < 18446744073709551616) := ⟨h1⟩
  clear h0 h1
  go_enter Try.func53, Try.ntmps53
  go_wp2
  go_loopg [0, 3] 9 (fun kq v0 v3 w' => ∃ (x : Int) (acc : List Int), v0 = .int .u64 x ∧ Aside0 (0 ≤ x ∧ x < 128 ^ (kq + 1) ∧ acc ++ leb kq x = leb 9 v) ∧ Aside0 (kq ≤ 9 ∧ acc.length + kq ≤ 9 ∧ x < 18446744073709551616) ∧ Aside0 (Kd.R (Kd.int .u8) 5 w' w.heap.size (fun _ => True) v3 acc) ∧ Aside0 (Below w.heap.size w w'))
  case atStart => exact ⟨v, [], rfl, H', ⟨by have := H1.out; simp; omega⟩, ⟨Kd.R_nil _ _ _ _ _⟩, HB⟩
  case round =>
    clear H' HB
    obtain ⟨x, acc, rfl, H, HK, HO, HB⟩ := hrel
    by_cases c : x ≥ 128
    · have c0 : decide (128 ≤ x) = true := decide_eq_true c
      cases gk with
      | zero => exact absurd H.out.2.1 (by omega)
      | succ k1 =>
        have hx := H.out.1
        have e1 := Aside0.mk (tmod128 hx)
        have e2 := Aside0.mk (tdiv128 hx HK.out.2.2)
        clear hx c
        go_wp2_with (first | ((with_reducible refine gate_builtin (b := .append) (xs := #[.tmp 6, .tmp 11]) rfl ?_); at_builtin; refine Kd.R_append (Kd.int .u8) (w0 := w) w.heap.size rfl (.tmp 6) (.tmp 11) 88 5 (.int .u8 0) 1 rfl Try.underlying88 info5 rfl (by decide) (by omega) u3 acc ((Int.tmod x 128 + 128) % 256) [.int .u8 ((Int.tmod x 128 + 128) % 256)] (fun _ => True) (fun _ => False) rfl rfl ?aP (fun _ hk => hk.elim) ?aF ?aO ?aB ?aS ?aL ?_; (case aP => exact rfl); (case aB => exact (by repeat (first | (with_reducible first | exact HB.out | apply below_alloc | apply pw_below_drewN | apply below_drew1) | exact HB.out))); (case aF => exact (fun _ _ => trivial)); (case aO => exact (by (with_reducible repeat (first | apply Kd.R_alloc | apply Kd.R_drewN | apply Kd.R_drew)); exact HO.out)); (case aS => exact (below_size (by repeat (first | (with_reducible first | exact HB.out | apply below_alloc | apply pw_below_drewN | apply below_drew1) | exact HB.out)))); (case aL => (have := HK.out; omega)); intro va_ wa_ ho hb hg hat; have n0_ := Aside0.mk (hb); have n1_ := Aside0.mk (ho); clear HB; clear HO; have HB := n0_; have HO := n1_; clear n0_ n1_; clear ho hb hg hat))
        go_roundg k1
        case measure => omega
        case rel =>
          have hh := H.out
          have hc : x ≥ 128 := by simpa using c0
          rw [leb_more hc] at hh
          exact ⟨IntKind.u64.wrap (Int.tdiv x 128), acc ++ [(Int.tmod x 128 + 128) % 256], rfl, ⟨by rw [e2.out]; omega, by rw [e2.out]; have : (128 : Int) ^ (k1 + 1 + 1) = 128 ^ (k1 + 1) * 128 := Int.pow_succ ..; omega, by rw [e1.out, e2.out, ← hh.2.2]; simp⟩, ⟨by rw [e2.out]; have := HK.out; simp; omega⟩, HO, HB⟩
    · have c0 : decide (128 ≤ x) = false := decide_eq_false c
      have hh := H.out
      rw [leb_last c] at hh
      have HL := Aside0.mk hh.2.2
      clear hh c
      go_wp2_with (first | ((with_reducible refine gate_builtin (b := .append) (xs := #[.tmp 15, .tmp 18]) rfl ?_); at_builtin; refine Kd.R_append (Kd.int .u8) (w0 := w) w.heap.size rfl (.tmp 15) (.tmp 18) 88 5 (.int .u8 0) 1 rfl Try.underlying88 info5 rfl (by decide) (by omega) u3 acc (x % 256) [.int .u8 (x % 256)] (fun _ => True) (fun _ => False) rfl rfl ?aP (fun _ hk => hk.elim) ?aF ?aO ?aB ?aS ?aL ?_; (case aP => exact rfl); (case aB => exact (by repeat (first | (with_reducible first | exact HB.out | apply below_alloc | apply pw_below_drewN | apply below_drew1) | exact HB.out))); (case aF => exact (fun _ _ => trivial)); (case aO => exact (by (with_reducible repeat (first | apply Kd.R_alloc | apply Kd.R_drewN | apply Kd.R_drew)); exact HO.out)); (case aS => exact (below_size (by repeat (first | (with_reducible first | exact HB.out | apply below_alloc | apply pw_below_drewN | apply below_drew1) | exact HB.out)))); (case aL => (have := HK.out; omega)); intro va_ wa_ ho hb hg hat; have n0_ := Aside0.mk (hb); have n1_ := Aside0.mk (ho); clear HB; clear HO; have HB := n0_; have HO := n1_; clear n0_ n1_; clear ho hb hg hat; have hcv7 := own_string (P := Try.prog) Try.underlying88 Try.underlying5 Try.underlying9 (Kd.own_of_R HO.out)))
      go_ret
      exact ⟨by rw [← HL.out]; rfl, HB.out⟩


end Go.Proofs.Ytmpgknemhmoboaa.C02
