/- watershedlaw02.CodeBack returns true for every input: numbers and texts that are written one behind the other are read as they were, up to the last byte (of each list the first 20; where a text among them has more than 1000 bytes the law lets the input go). -/
import Derived.Test.YtnapckkbnpocgaaRows
import Derived.WalkKit
import Derived.ProofKit
import Derived.OpenShut
import Derived.ShutString
import Derived.ChangeOld
import Derived.Below
import Derived.SizedLaws
import Derived.Deep.CutBlock
import Derived.Deep.DeepCutAuto
import Derived.Test.YtnapckkbnpocgaaW02
import Derived.Test.YtnapckkbnpocgaaOpen
namespace Go.Proofs.Ytnapckkbnpocgaa
set_option linter.unusedSimpArgs false
open Go.RowKit C02 M02 Base Go.Proofs.YtnapckkbnpocgaaW.PrintWords Go.Proofs.YtnapckkbnpocgaaW.PrintLast Go.Proofs.YtnapckkbnpocgaaW.PrintMore

def fv (v : Int) : List Int := leb 9 v
def fn (n : Int) : List Int := leb 9 (sgn n)
def ft (t : ByteArray) : List Int := leb 9 t.size ++ bytesOf t

/-- What the loops write: behind what was written already, the first x of a list. -/
def strV {α : Type} (P : List Int) (f : α → List Int) (xs : List α) (x : Nat) : ByteArray := strOfNums (P ++ cat f xs x)
theorem more_str {α : Type} (f : α → List Int) (xs : List α) (x : Nat) (h : x < xs.length) (d : α) (P : List Int) : strV P f xs x ++ strOfNums (f (xs.getD x d)) = strV P f xs (x + 1) := by
  unfold strV
  rw [← strOfNums_append, cat_succ f xs x h d, List.append_assoc]
theorem more_size {α : Type} (f : α → List Int) (xs : List α) (x B N : Nat) (hB : ∀ y ∈ xs.take (x + 1), (f y).length ≤ B) (hx : x < 20) (hl : x < xs.length) (d : α) (P : List Int) (hP : P.length ≤ N) (hN : N + 20 * B + B ≤ 1000000) :
    (strV P f xs x).size + (strOfNums (f (xs.getD x d))).size ≤ 9223372036854775807 := by
  unfold strV
  rw [strOfNums_size, strOfNums_size, List.length_append]
  have h1 := cat_length f xs B x (fun y hy => hB y (List.take_subset_take_left _ (Nat.le_succ x) hy))
  have h2 : (f (xs.getD x d)).length ≤ B := hB _ (by
    rw [List.getD_eq_getElem?_getD, List.getElem?_eq_getElem hl]
    simp only [Option.getD_some]
    exact List.mem_take_iff_getElem.2 ⟨x, by omega, rfl⟩)
  have h3 : x * B ≤ 20 * B := Nat.mul_le_mul_right _ (by omega)
  omega
theorem fv_len (v : Int) : (fv v).length ≤ 10 := leb_length 9 v
theorem fn_len (v : Int) : (fn v).length ≤ 10 := leb_length 9 _
theorem ft_len (t : ByteArray) (h : t.size ≤ 1000) : (ft t).length ≤ 1010 := by
  unfold ft
  rw [List.length_append, bytesOf_length]
  have := leb_length 9 (t.size : Int)
  omega
theorem ft_str (t : ByteArray) : strOfNums (ft t) = strOfNums (leb 9 t.size) ++ t := by
  unfold ft
  rw [strOfNums_append, strOfNums_bytesOf]
theorem take_all {α : Type} {p : α → Prop} {xs : List α} {x : Nat} (h : ∀ y ∈ xs.take x, p y) (hl : x < xs.length) (d : α) (hd : p (xs.getD x d)) : ∀ y ∈ xs.take (x + 1), p y := by
  rw [List.take_succ_eq_append_getElem hl]
  intro y hy
  rcases List.mem_append.1 hy with hy | hy
  · exact h y hy
  · rw [List.mem_singleton] at hy
    subst hy
    rw [List.getD_eq_getElem?_getD, List.getElem?_eq_getElem hl] at hd
    exact hd

set_option maxRecDepth 100000 in
set_option maxHeartbeats 8000000 in
theorem CodeBack_walk (vs : List Int) (Av : Option Addr) (cv : Nat) (ns : List Int) (An : Option Addr) (cn : Nat) (ts : List ByteArray) (At : Option Addr) (ct : Nat) (w : World)
    (hv : vs.length ≤ cv ∧ Kd.C (Kd.int .u64) w Av vs.length vs ∧ vs.length ≤ 9223372036854775807 ∧ ∀ x ∈ vs, (Lit.int .u64 x).wf = true)
    (hn : ns.length ≤ cn ∧ Kd.C (Kd.int .i64) w An ns.length ns ∧ ns.length ≤ 9223372036854775807 ∧ ∀ x ∈ ns, (Lit.int .i64 x).wf = true)
    (ht : ts.length ≤ ct ∧ Kd.C Kd.string w At ts.length ts ∧ ts.length ≤ 9223372036854775807 ∧ ∀ x ∈ ts, x.size ≤ 9223372036854775807) :
    Calls Try.prog 9 #[.slice Av vs.length cv, .slice An ns.length cn, .slice At ts.length ct] w fun e w' => e = .returned (.bool true) ∧ Below w.heap.size w w' := by
  have HB := Aside0.mk (Below.refl w.heap.size w)
  have HXv := Aside0.mk hv
  have HXn := Aside0.mk hn
  have HXt := Aside0.mk ht
  obtain ⟨mv, hmv⟩ : ∃ m : Nat, m = min vs.length 20 := ⟨_, rfl⟩
  obtain ⟨mn, hmn⟩ : ∃ m : Nat, m = min ns.length 20 := ⟨_, rfl⟩
  obtain ⟨mt, hmt⟩ : ∃ m : Nat, m = min ts.length 20 := ⟨_, rfl⟩
  have HMv : Aside0 (mv ≤ vs.length ∧ mv ≤ 20 ∧ ∀ x : Int, 0 ≤ x → ((x < vs.length ∧ x < 20) ↔ x < mv)) := ⟨by omega, by omega, fun x hx => by omega⟩
  have HMn : Aside0 (mn ≤ ns.length ∧ mn ≤ 20 ∧ ∀ x : Int, 0 ≤ x → ((x < ns.length ∧ x < 20) ↔ x < mn)) := ⟨by omega, by omega, fun x hx => by omega⟩
  have HMt : Aside0 (mt ≤ ts.length ∧ mt ≤ 20 ∧ ∀ x : Int, 0 ≤ x → ((x < ts.length ∧ x < 20) ↔ x < mt)) := ⟨by omega, by omega, fun x hx => by omega⟩
  clear hv hn ht hmv hmn hmt
  go_enter Try.func9, Try.ntmps9
  go_wp2_with fail
  refine (works _).mono ?_
  rintro e w1 ⟨rfl, hb⟩
  replace HB := Aside0.mk (below_step HB.out hb)
  clear hb
  go_wp2_with fail
  go_loopg [7, 8] (mv + 1) (fun kq v7 vi W' => ∃ x : Int, vi = .int .i64 x ∧ v7 = .string (strV [] fv vs x.toNat) ∧ Aside0 (0 ≤ x ∧ x ≤ mv ∧ x + kq = mv + 1) ∧ Aside0 (Below w.heap.size w W'))
  case atStart => exact ⟨0, rfl, by first | rfl | (simp [strV, cat]; done) | (simp [strV, cat]; rfl), ⟨by omega⟩, HB⟩
  case round =>
    clear HB
    obtain ⟨x, rfl, rfl, HK, HB⟩ := hrel
    go_upto_region 5 with (fail)
    go_cut [24] (fun vc wc => vc = .bool (decide (x < (mv : Int))) ∧ wc = wr)
    case first =>
      have hx0 := HK.out.1
      have hl := HXv.out.2.2.1
      by_cases c1 : x < vs.length
      · have cb1 : decide (x < (vs.length : Int)) = true := decide_eq_true c1
        by_cases c2 : x < 20
        · have cb2 : decide (x < 20) = true := decide_eq_true c2
          have HE : Aside0 (decide (x < (mv : Int)) = true) := ⟨decide_eq_true ((HMv.out.2.2 x hx0).1 ⟨c1, c2⟩)⟩
          clear c1 c2 hx0 hl
          go_wp2
          go_meet
          case rel => exact ⟨by rw [HE.out], rfl⟩
        · have cb2 : decide (x < 20) = false := decide_eq_false c2
          have HE : Aside0 (decide (x < (mv : Int)) = false) := ⟨decide_eq_false (fun h => c2 ((HMv.out.2.2 x hx0).2 h).2)⟩
          clear c1 c2 hx0 hl
          go_wp2
          go_meet
          case rel => exact ⟨by rw [HE.out], rfl⟩
      · have cb1 : decide (x < (vs.length : Int)) = false := decide_eq_false c1
        have HE : Aside0 (decide (x < (mv : Int)) = false) := ⟨decide_eq_false (fun h => c1 ((HMv.out.2.2 x hx0).2 h).1)⟩
        clear c1 hx0 hl
        go_wp2
        go_meet
        case rel => exact ⟨by rw [HE.out], rfl⟩
    case rest =>
      obtain ⟨rfl, rfl⟩ := hcut
      by_cases c : x < (mv : Int)
      · have cb : decide (x < (mv : Int)) = true := decide_eq_true c
        rw [cb]
        have hx0 := HK.out.1
        have hlt : x < vs.length := ((HMv.out.2.2 x hx0).2 c).1
        have hx20 : x < 20 := ((HMv.out.2.2 x hx0).2 c).2
        obtain ⟨ad, had, hcell⟩ := Open.at_num HXv.out.2.1 x hx0 hlt
        have hbl := World.block_lt_of_cell? w _ hcell
        replace hcell := ((HB.out).cell hbl).trans hcell
        obtain ⟨el, hel⟩ : ∃ el, el = vs.getD x.toNat 0 := ⟨_, rfl⟩
        have HM : Aside0 (el ∈ vs) := ⟨by rw [hel, List.getD_eq_getElem?_getD, List.getElem?_eq_getElem (by omega)]; exact List.getElem_mem _⟩
        rw [← hel] at hcell
        have HEL := Aside0.mk hel
        have HLT := Aside0.mk (And.intro hx0 (And.intro hlt hx20))
        subst had
        have HCX := Aside0.mk c
        have hxlo : 0 ≤ x := hx0
        have hxhi : x ≤ 20 := by omega
        clear hel hx20
        have hel := bounds_u64 (HXv.out.2.2.2 el HM.out)
        have hq := HLT.out
        have HSTR : Aside0 (strV [] fv vs x.toNat ++ strOfNums (leb 9 el) = strV [] fv vs (x.toNat + 1)) := ⟨by rw [HEL.out]; exact more_str fv vs x.toNat (by omega) 0 []⟩
        have hsz : (strV [] fv vs x.toNat).size + (strOfNums (leb 9 el)).size ≤ 9223372036854775807 := by rw [HEL.out]; exact more_size fv vs x.toNat 10 0 (fun y _ => fv_len y) (by omega) (by omega) 0 [] (by simp) (by omega)
        clear hq
        replace hx0 := eq_true hxlo
        replace hlt := eq_true hlt
        have hel0 := hel.1
        clear c cb
        go_wp2_with fail
        refine (code_Num _ _ (by omega) (by omega)).mono ?_
        rintro e w2 ⟨rfl, hb⟩
        have HB2 := Aside0.mk (below_step HB.out hb)
        clear hb hbl
        go_wp2
        go_roundg (gk - 1)
        case measure => have := HK.out; omega
        case rel =>
          have hk := HK.out
          have hcx := HCX.out
          refine ⟨x + 1, rfl, ?_, ⟨by omega⟩, HB2⟩
          rw [HSTR.out, show (x + 1).toNat = x.toNat + 1 by omega]
      · have cb : decide (x < (mv : Int)) = false := decide_eq_false c
        rw [cb]
        obtain rfl : x = mv := by have := HK.out; omega
        clear c cb HK
        rw [show ((mv : Nat) : Int).toNat = mv from Int.toNat_natCast _]
        go_wp2_with fail
        go_loopg [7, 9] (mn + 1) (fun kq v7 vi W' => ∃ x : Int, vi = .int .i64 x ∧ v7 = .string (strV (cat fv vs mv) fn ns x.toNat) ∧ Aside0 (0 ≤ x ∧ x ≤ mn ∧ x + kq = mn + 1) ∧ Aside0 (Below w.heap.size w W'))
        case atStart => exact ⟨0, rfl, by first | rfl | (simp [strV, cat]; done) | (simp [strV, cat]; rfl), ⟨by omega⟩, HB⟩
        case round =>
          clear HB
          obtain ⟨x, rfl, rfl, HK, HB⟩ := hrel
          go_upto_region 9 with (fail)
          go_cut [41] (fun vc wc => vc = .bool (decide (x < (mn : Int))) ∧ wc = wr)
          case first =>
            have hx0 := HK.out.1
            have hl := HXn.out.2.2.1
            by_cases c1 : x < ns.length
            · have cb1 : decide (x < (ns.length : Int)) = true := decide_eq_true c1
              by_cases c2 : x < 20
              · have cb2 : decide (x < 20) = true := decide_eq_true c2
                have HE : Aside0 (decide (x < (mn : Int)) = true) := ⟨decide_eq_true ((HMn.out.2.2 x hx0).1 ⟨c1, c2⟩)⟩
                clear c1 c2 hx0 hl
                go_wp2
                go_meet
                case rel => exact ⟨by rw [HE.out], rfl⟩
              · have cb2 : decide (x < 20) = false := decide_eq_false c2
                have HE : Aside0 (decide (x < (mn : Int)) = false) := ⟨decide_eq_false (fun h => c2 ((HMn.out.2.2 x hx0).2 h).2)⟩
                clear c1 c2 hx0 hl
                go_wp2
                go_meet
                case rel => exact ⟨by rw [HE.out], rfl⟩
            · have cb1 : decide (x < (ns.length : Int)) = false := decide_eq_false c1
              have HE : Aside0 (decide (x < (mn : Int)) = false) := ⟨decide_eq_false (fun h => c1 ((HMn.out.2.2 x hx0).2 h).1)⟩
              clear c1 hx0 hl
              go_wp2
              go_meet
              case rel => exact ⟨by rw [HE.out], rfl⟩
          case rest =>
            obtain ⟨rfl, rfl⟩ := hcut
            by_cases c : x < (mn : Int)
            · have cb : decide (x < (mn : Int)) = true := decide_eq_true c
              rw [cb]
              have hx0 := HK.out.1
              have hlt : x < ns.length := ((HMn.out.2.2 x hx0).2 c).1
              have hx20 : x < 20 := ((HMn.out.2.2 x hx0).2 c).2
              obtain ⟨ad, had, hcell⟩ := Open.at_num HXn.out.2.1 x hx0 hlt
              have hbl := World.block_lt_of_cell? w _ hcell
              replace hcell := ((HB.out).cell hbl).trans hcell
              obtain ⟨el, hel⟩ : ∃ el, el = ns.getD x.toNat 0 := ⟨_, rfl⟩
              have HM : Aside0 (el ∈ ns) := ⟨by rw [hel, List.getD_eq_getElem?_getD, List.getElem?_eq_getElem (by omega)]; exact List.getElem_mem _⟩
              rw [← hel] at hcell
              have HEL := Aside0.mk hel
              have HLT := Aside0.mk (And.intro hx0 (And.intro hlt hx20))
              subst had
              have HCX := Aside0.mk c
              have hxlo : 0 ≤ x := hx0
              have hxhi : x ≤ 20 := by omega
              clear hel hx20
              have hel := bounds_i64 (HXn.out.2.2.2 el HM.out)
              have hq := HLT.out
              have HSTR : Aside0 (strV (cat fv vs mv) fn ns x.toNat ++ strOfNums (leb 9 (sgn el)) = strV (cat fv vs mv) fn ns (x.toNat + 1)) := ⟨by rw [HEL.out]; exact more_str fn ns x.toNat (by omega) 0 (cat fv vs mv)⟩
              have hsz : (strV (cat fv vs mv) fn ns x.toNat).size + (strOfNums (leb 9 (sgn el))).size ≤ 9223372036854775807 := by rw [HEL.out]; exact more_size fn ns x.toNat 10 200 (fun y _ => fn_len y) (by omega) (by omega) 0 (cat fv vs mv) (by have := cat_length fv vs 10 mv (fun y _ => fv_len y); have := HMv.out.2.1; omega) (by omega)
              clear hq
              replace hx0 := eq_true hxlo
              replace hlt := eq_true hlt
              have hel0 := hel.1
              clear c cb
              go_wp2_with fail
              refine (code_Signed _ _ (by omega) (by omega)).mono ?_
              rintro e w2 ⟨rfl, hb⟩
              have HB2 := Aside0.mk (below_step HB.out hb)
              clear hb hbl
              go_wp2
              go_roundg (gk - 1)
              case measure => have := HK.out; omega
              case rel =>
                have hk := HK.out
                have hcx := HCX.out
                refine ⟨x + 1, rfl, ?_, ⟨by omega⟩, HB2⟩
                rw [HSTR.out, show (x + 1).toNat = x.toNat + 1 by omega]
            · have cb : decide (x < (mn : Int)) = false := decide_eq_false c
              rw [cb]
              obtain rfl : x = mn := by have := HK.out; omega
              clear c cb HK
              rw [show ((mn : Nat) : Int).toNat = mn from Int.toNat_natCast _]
              go_wp2_with fail
              go_loopg [7, 10] (mt + 1) (fun kq v7 vi W' => ∃ x : Int, vi = .int .i64 x ∧ v7 = .string (strV (cat fv vs mv ++ cat fn ns mn) ft ts x.toNat) ∧ Aside0 (0 ≤ x ∧ x ≤ mt ∧ x + kq = mt + 1) ∧ Aside0 (∀ y ∈ ts.take x.toNat, y.size ≤ 1000) ∧ Aside0 (Below w.heap.size w W'))
              case atStart => exact ⟨0, rfl, by first | rfl | (simp [strV, cat]; done) | (simp [strV, cat]; rfl), ⟨by omega⟩, ⟨by simp⟩, HB⟩
              case round =>
                clear HB
                obtain ⟨x, rfl, rfl, HK, HSH, HB⟩ := hrel
                go_upto_region 13 with (fail)
                go_cut [58] (fun vc wc => vc = .bool (decide (x < (mt : Int))) ∧ wc = wr)
                case first =>
                  have hx0 := HK.out.1
                  have hl := HXt.out.2.2.1
                  by_cases c1 : x < ts.length
                  · have cb1 : decide (x < (ts.length : Int)) = true := decide_eq_true c1
                    by_cases c2 : x < 20
                    · have cb2 : decide (x < 20) = true := decide_eq_true c2
                      have HE : Aside0 (decide (x < (mt : Int)) = true) := ⟨decide_eq_true ((HMt.out.2.2 x hx0).1 ⟨c1, c2⟩)⟩
                      clear c1 c2 hx0 hl
                      go_wp2
                      go_meet
                      case rel => exact ⟨by rw [HE.out], rfl⟩
                    · have cb2 : decide (x < 20) = false := decide_eq_false c2
                      have HE : Aside0 (decide (x < (mt : Int)) = false) := ⟨decide_eq_false (fun h => c2 ((HMt.out.2.2 x hx0).2 h).2)⟩
                      clear c1 c2 hx0 hl
                      go_wp2
                      go_meet
                      case rel => exact ⟨by rw [HE.out], rfl⟩
                  · have cb1 : decide (x < (ts.length : Int)) = false := decide_eq_false c1
                    have HE : Aside0 (decide (x < (mt : Int)) = false) := ⟨decide_eq_false (fun h => c1 ((HMt.out.2.2 x hx0).2 h).1)⟩
                    clear c1 hx0 hl
                    go_wp2
                    go_meet
                    case rel => exact ⟨by rw [HE.out], rfl⟩
                case rest =>
                  obtain ⟨rfl, rfl⟩ := hcut
                  by_cases c : x < (mt : Int)
                  · have cb : decide (x < (mt : Int)) = true := decide_eq_true c
                    rw [cb]
                    have hx0 := HK.out.1
                    have hlt : x < ts.length := ((HMt.out.2.2 x hx0).2 c).1
                    have hx20 : x < 20 := ((HMt.out.2.2 x hx0).2 c).2
                    obtain ⟨ad, had, hcell⟩ := Open.at_text HXt.out.2.1 x hx0 hlt
                    have hbl := World.block_lt_of_cell? w _ hcell
                    replace hcell := ((HB.out).cell hbl).trans hcell
                    obtain ⟨el, hel⟩ : ∃ el, el = ts.getD x.toNat ByteArray.empty := ⟨_, rfl⟩
                    have HM : Aside0 (el ∈ ts) := ⟨by rw [hel, List.getD_eq_getElem?_getD, List.getElem?_eq_getElem (by omega)]; exact List.getElem_mem _⟩
                    rw [← hel] at hcell
                    have HEL := Aside0.mk hel
                    have HLT := Aside0.mk (And.intro hx0 (And.intro hlt hx20))
                    subst had
                    have HCX := Aside0.mk c
                    have hxlo : 0 ≤ x := hx0
                    have hxhi : x ≤ 20 := by omega
                    clear hel hx20
                    by_cases cl : (el.size : Int) > 1000
                    · have clb : decide (1000 < (el.size : Int)) = true := decide_eq_true cl
                      have clb2 : decide (1000 < el.size) = true := decide_eq_true (by omega)
                      replace hx0 := eq_true hxlo
                      replace hlt := eq_true hlt
                      clear c cb cl hbl
                      go_wp2
                      go_ret
                      exact ⟨rfl, HB.out⟩
                    · have clb : decide (1000 < (el.size : Int)) = false := decide_eq_false cl
                      have clb2 : decide (1000 < el.size) = false := decide_eq_false (by omega)
                      have HSH2 : Aside0 (∀ y ∈ ts.take (x.toNat + 1), y.size ≤ 1000) := ⟨take_all HSH.out (by omega) ByteArray.empty (by rw [← HEL.out]; omega)⟩
                      have hel : el.size ≤ 1000 := by omega
                      have hq := HLT.out
                      have HSTR : Aside0 (strV (cat fv vs mv ++ cat fn ns mn) ft ts x.toNat ++ strOfNums (ft el) = strV (cat fv vs mv ++ cat fn ns mn) ft ts (x.toNat + 1)) := ⟨by rw [HEL.out]; exact more_str ft ts x.toNat (by omega) ByteArray.empty (cat fv vs mv ++ cat fn ns mn)⟩
                      have hsz : (strV (cat fv vs mv ++ cat fn ns mn) ft ts x.toNat).size + (strOfNums (ft el)).size ≤ 9223372036854775807 := by rw [HEL.out]; exact more_size ft ts x.toNat 1010 400 (fun y hy => ft_len y (HSH2.out y hy)) (by omega) (by omega) ByteArray.empty (cat fv vs mv ++ cat fn ns mn) (by rw [List.length_append]; have := cat_length fv vs 10 mv (fun y _ => fv_len y); have := cat_length fn ns 10 mn (fun y _ => fn_len y); have := HMv.out.2.1; have := HMn.out.2.1; omega) (by omega)
                      clear hq
                      replace hx0 := eq_true hxlo
                      replace hlt := eq_true hlt
                      have HF := Aside0.mk (ft_str el)
                      clear c cb cl
                      go_wp2_with fail
                      refine (code_Text _ _ (by omega)).mono ?_
                      rintro e w2 ⟨rfl, hb⟩
                      have HB2 := Aside0.mk (below_step HB.out hb)
                      clear hb hbl
                      rw [← HF.out]
                      go_wp2
                      go_roundg (gk - 1)
                      case measure => have := HK.out; omega
                      case rel =>
                        have hk := HK.out
                        have hcx := HCX.out
                        refine ⟨x + 1, rfl, ?_, ⟨by omega⟩, ⟨by rw [show (x + 1).toNat = x.toNat + 1 by omega]; exact HSH2.out⟩, HB2⟩
                        rw [HSTR.out, show (x + 1).toNat = x.toNat + 1 by omega]
                  · have cb : decide (x < (mt : Int)) = false := decide_eq_false c
                    rw [cb]
                    obtain rfl : x = mt := by have := HK.out; omega
                    clear c cb HK
                    rw [show ((mt : Nat) : Int).toNat = mt from Int.toNat_natCast _]
                    go_wp2_with fail
                    refine (rd_New _ _ (by
                      unfold strV
                      rw [strOfNums_size, List.length_append, List.length_append]
                      have := cat_length fv vs 10 mv (fun y _ => fv_len y)
                      have := cat_length fn ns 10 mn (fun y _ => fn_len y)
                      have := cat_length ft ts 1010 mt (fun y hy => ft_len y (HSH.out y hy))
                      have := HMv.out.2.1
                      have := HMn.out.2.1
                      have := HMt.out.2.1
                      omega)).mono ?_
                    rintro e w3 ⟨g, hg, rfl, hR, hb⟩
                    have HG : Aside0 (w.heap.size ≤ g) := ⟨by have := HB.out.size; omega⟩
                    replace HB := Aside0.mk (below_step HB.out hb)
                    have HR : Aside0 (RD w3 g (rest fv vs mv 0 ++ (rest fn ns mn 0 ++ (rest ft ts mt 0 ++ []))) 0) := ⟨by
                      unfold strV at hR
                      rw [bytesOf_strOfNums _ (by
                        intro b hb
                        simp only [List.mem_append] at hb
                        rcases hb with (hb | hb) | hb
                        · exact cat_range fv (fun y => leb_range 9 y) vs mv b hb
                        · exact cat_range fn (fun y => leb_range 9 _) ns mn b hb
                        · exact cat_range ft (fun y b hb => by
                            rcases List.mem_append.1 hb with hb | hb
                            · exact leb_range 9 _ b hb
                            · exact bytes_range y b hb) ts mt b hb)] at hR
                      rw [rest_zero, rest_zero, rest_zero, List.append_nil, ← List.append_assoc]
                      exact hR⟩
                    clear hR hb hg
                    go_wp2_with fail
                    go_loopg [12] (mv + 1) (fun kq vi W' => ∃ x : Int, vi = .int .i64 x ∧ Aside0 (0 ≤ x ∧ x ≤ mv ∧ x + kq = mv + 1) ∧ Aside0 (RD W' g (rest fv vs mv x.toNat ++ (rest fn ns mn 0 ++ (rest ft ts mt 0 ++ []))) 0) ∧ Aside0 (Below w.heap.size w W'))
                    case atStart => exact ⟨0, rfl, ⟨by omega⟩, HR, HB⟩
                    case round =>
                      clear HB HR
                      obtain ⟨x, rfl, HK, HR, HB⟩ := hrel
                      go_upto_region 20 with (fail)
                      go_cut [83] (fun vc wc => vc = .bool (decide (x < (mv : Int))) ∧ wc = wr)
                      case first =>
                        have hx0 := HK.out.1
                        have hl := HXv.out.2.2.1
                        by_cases c1 : x < vs.length
                        · have cb1 : decide (x < (vs.length : Int)) = true := decide_eq_true c1
                          by_cases c2 : x < 20
                          · have cb2 : decide (x < 20) = true := decide_eq_true c2
                            have HE : Aside0 (decide (x < (mv : Int)) = true) := ⟨decide_eq_true ((HMv.out.2.2 x hx0).1 ⟨c1, c2⟩)⟩
                            clear c1 c2 hx0 hl
                            go_wp2
                            go_meet
                            case rel => exact ⟨by rw [HE.out], rfl⟩
                          · have cb2 : decide (x < 20) = false := decide_eq_false c2
                            have HE : Aside0 (decide (x < (mv : Int)) = false) := ⟨decide_eq_false (fun h => c2 ((HMv.out.2.2 x hx0).2 h).2)⟩
                            clear c1 c2 hx0 hl
                            go_wp2
                            go_meet
                            case rel => exact ⟨by rw [HE.out], rfl⟩
                        · have cb1 : decide (x < (vs.length : Int)) = false := decide_eq_false c1
                          have HE : Aside0 (decide (x < (mv : Int)) = false) := ⟨decide_eq_false (fun h => c1 ((HMv.out.2.2 x hx0).2 h).1)⟩
                          clear c1 hx0 hl
                          go_wp2
                          go_meet
                          case rel => exact ⟨by rw [HE.out], rfl⟩
                      case rest =>
                        obtain ⟨rfl, rfl⟩ := hcut
                        by_cases c : x < (mv : Int)
                        · have cb : decide (x < (mv : Int)) = true := decide_eq_true c
                          rw [cb]
                          have hx0 := HK.out.1
                          have hlt : x < vs.length := ((HMv.out.2.2 x hx0).2 c).1
                          have hx20 : x < 20 := ((HMv.out.2.2 x hx0).2 c).2
                          obtain ⟨ad, had, hcell⟩ := Open.at_num HXv.out.2.1 x hx0 hlt
                          have hbl := World.block_lt_of_cell? w _ hcell
                          replace hcell := ((HB.out).cell hbl).trans hcell
                          obtain ⟨el, hel⟩ : ∃ el, el = vs.getD x.toNat 0 := ⟨_, rfl⟩
                          have HM : Aside0 (el ∈ vs) := ⟨by rw [hel, List.getD_eq_getElem?_getD, List.getElem?_eq_getElem (by omega)]; exact List.getElem_mem _⟩
                          rw [← hel] at hcell
                          have HEL := Aside0.mk hel
                          have HLT := Aside0.mk (And.intro hx0 (And.intro hlt hx20))
                          subst had
                          have HCX := Aside0.mk c
                          have hxlo : 0 ≤ x := hx0
                          have hxhi : x ≤ 20 := by omega
                          clear hel hx20
                          have hel := bounds_u64 (HXv.out.2.2.2 el HM.out)
                          have HRS : Aside0 (rest fv vs mv x.toNat ++ (rest fn ns mn 0 ++ (rest ft ts mt 0 ++ [])) = fv el ++ (rest fv vs mv (x.toNat + 1) ++ (rest fn ns mn 0 ++ (rest ft ts mt 0 ++ [])))) := ⟨by rw [HEL.out, rest_succ fv vs mv x.toNat (by omega) (by omega) 0, List.append_assoc]⟩
                          replace HR := Aside0.mk (HRS.out ▸ HR.out)
                          have HRD : Aside0 (rdNum (fv el ++ (rest fv vs mv (x.toNat + 1) ++ (rest fn ns mn 0 ++ (rest ft ts mt 0 ++ [])))) 0 = (el, rest fv vs mv (x.toNat + 1) ++ (rest fn ns mn 0 ++ (rest ft ts mt 0 ++ [])), 0)) := ⟨rdNum_leb _ (by omega) (by omega)⟩
                          have hne : ad.block ≠ g := fun h => by have := HG.out; have h2 := hbl; rw [blk_add] at h2; omega
                          have HE2 := Aside0.mk hel
                          replace hx0 := eq_true hxlo
                          replace hlt := eq_true hlt
                          clear c cb hbl
                          go_wp2_with fail
                          refine start_ (n := 7) (S := fun w' => w'.cell? (ad.add x.toNat) = some (.int .u64 el)) (ds := []) #[false, false, false, false, false, false, false] (by kernel_rfl) rfl rfl (hcell) (fun hHeld => ?_)
                          refine pure_ (i := 0) (N := some 86) (v := ?_) (a' := ?_) #[true, false, false, false, false, false, false] rfl rfl (by kernel_rfl) (fun _ _ _ h => h) (Or.inl ⟨by rfl, ?_⟩) ?_ ?_
                          rotate_left
                          · intro w'
                            go_simp
                            with_reducible rfl
                          rotate_left
                          · simp only [Act.put, List.setIfInBounds_toArray, List.set_cons_zero, List.set_cons_succ, i64_w, i32_w]
                            rfl
                          refine pure_ (i := 2) (N := some 88) (v := ?_) (a' := ?_) #[true, false, true, false, false, false, false] rfl rfl (by kernel_rfl) (fun _ _ _ h => h) (Or.inl ⟨by rfl, ?_⟩) ?_ ?_
                          rotate_left
                          · intro w'
                            go_simp
                            with_reducible rfl
                          rotate_left
                          · simp only [Act.put, List.setIfInBounds_toArray, List.set_cons_zero, List.set_cons_succ, i64_w, i32_w]
                            rfl
                          refine pure_ (i := 3) (N := some 89) (v := ?_) (a' := ?_) #[true, false, true, true, false, false, false] rfl rfl (by kernel_rfl) (fun _ _ _ h => h) (Or.inl ⟨by rfl, ?_⟩) ?_ ?_
                          rotate_left
                          · intro w'
                            go_simp
                            with_reducible rfl
                          rotate_left
                          · simp only [Act.put, List.setIfInBounds_toArray, List.set_cons_zero, List.set_cons_succ, i64_w, i32_w]
                            rfl
                          refine pure_ (i := 4) (N := some 90) (v := ?_) (a' := ?_) #[true, false, true, true, true, false, false] rfl rfl (by kernel_rfl) (fun _ _ _ h => h) (Or.inl ⟨by rfl, ?_⟩) ?_ ?_
                          rotate_left
                          · intro w'
                            go_simp
                            with_reducible rfl
                          rotate_left
                          · simp only [Act.put, List.setIfInBounds_toArray, List.set_cons_zero, List.set_cons_succ, i64_w, i32_w]
                            rfl
                          refine take_ (i := 5) (N := some 91) (v := ?_) (a' := ?_) #[true, false, true, true, true, true, false] rfl rfl (by kernel_rfl) (fun _ _ _ h => h) (Or.inl ⟨by rfl, ?_⟩) hHeld ?_ ?_
                          rotate_left
                          · intro w' s0
                            go_simp
                            with_reducible rfl
                          rotate_left
                          · simp only [Act.put, List.setIfInBounds_toArray, List.set_cons_zero, List.set_cons_succ, i64_w, i32_w]
                            rfl
                          refine one_ (i := 1) (N := some 87) #[true, true, true, true, true, true, false] rfl rfl (by kernel_rfl) (by decide) (fun K hK => ?_)
                          refine goes_ Try.func28 (by kernel_rfl) rfl #[.pointer (some ⟨g, 0, none⟩)] (by rfl) rfl rfl (by simp only [List.map_toArray, List.map_cons, List.map_nil]; rfl) ?_
                          with_reducible refine (rd_Num _ _ _ _ (HR.out.below (below_drew (Below.refl _ _)))).mono ?_
                          rintro en wa ⟨rfl, hRa, hUa⟩
                          refine ⟨_, rfl, ?_⟩
                          rw [HRD.out] at hRa ⊢
                          have HRa := Aside0.mk hRa
                          have HBa := Aside0.mk (hUa.after1 (below_drew HB.out) HG.out)
                          have hcell2 := hUa.cell (show World.cell? (World.drew _) _ = _ from hcell) (by rw [blk_add]; exact hne)
                          refine hK.out _ _ (hcell2) (fun hHeld => ?_)
                          clear hK K
                          refine norm_ (a' := ?_) ?_ ?_
                          rotate_left
                          · show Act.put _ (some 87) _ = _
                            simp only [Act.put, List.setIfInBounds_toArray, List.set_cons_zero, List.set_cons_succ, i64_w, i32_w]
                            rfl
                          refine pure_ (i := 6) (N := some 92) (v := ?_) (a' := ?_) #[true, true, true, true, true, true, true] rfl rfl (by kernel_rfl) (fun _ _ _ h => h) (Or.inl ⟨by rfl, ?_⟩) ?_ ?_
                          rotate_left
                          · intro w'
                            go_simp
                            with_reducible rfl
                          rotate_left
                          · simp only [Act.put, List.setIfInBounds_toArray, List.set_cons_zero, List.set_cons_succ, i64_w, i32_w]
                            rfl
                          refine done_ (by kernel_rfl) ?_
                          go_wp2
                          go_roundg (gk - 1)
                          case measure => have := HK.out; omega
                          case rel =>
                            have hk := HK.out
                            have hcx := HCX.out
                            exact ⟨x + 1, rfl, ⟨by omega⟩, ⟨by rw [show (x + 1).toNat = x.toNat + 1 by omega]; exact HRa.out⟩, HBa⟩
                        · have cb : decide (x < (mv : Int)) = false := decide_eq_false c
                          rw [cb]
                          obtain rfl : x = mv := by have := HK.out; omega
                          clear c cb HK
                          rw [show ((mv : Nat) : Int).toNat = mv from Int.toNat_natCast _, rest_end fv vs mv mv (.inr (Nat.le_refl _)), List.nil_append] at HR
                          go_wp2_with fail
                          go_loopg [13] (mn + 1) (fun kq vi W' => ∃ x : Int, vi = .int .i64 x ∧ Aside0 (0 ≤ x ∧ x ≤ mn ∧ x + kq = mn + 1) ∧ Aside0 (RD W' g (rest fn ns mn x.toNat ++ (rest ft ts mt 0 ++ [])) 0) ∧ Aside0 (Below w.heap.size w W'))
                          case atStart => exact ⟨0, rfl, ⟨by omega⟩, HR, HB⟩
                          case round =>
                            clear HB HR
                            obtain ⟨x, rfl, HK, HR, HB⟩ := hrel
                            go_upto_region 25 with (fail)
                            go_cut [100] (fun vc wc => vc = .bool (decide (x < (mn : Int))) ∧ wc = wr)
                            case first =>
                              have hx0 := HK.out.1
                              have hl := HXn.out.2.2.1
                              by_cases c1 : x < ns.length
                              · have cb1 : decide (x < (ns.length : Int)) = true := decide_eq_true c1
                                by_cases c2 : x < 20
                                · have cb2 : decide (x < 20) = true := decide_eq_true c2
                                  have HE : Aside0 (decide (x < (mn : Int)) = true) := ⟨decide_eq_true ((HMn.out.2.2 x hx0).1 ⟨c1, c2⟩)⟩
                                  clear c1 c2 hx0 hl
                                  go_wp2
                                  go_meet
                                  case rel => exact ⟨by rw [HE.out], rfl⟩
                                · have cb2 : decide (x < 20) = false := decide_eq_false c2
                                  have HE : Aside0 (decide (x < (mn : Int)) = false) := ⟨decide_eq_false (fun h => c2 ((HMn.out.2.2 x hx0).2 h).2)⟩
                                  clear c1 c2 hx0 hl
                                  go_wp2
                                  go_meet
                                  case rel => exact ⟨by rw [HE.out], rfl⟩
                              · have cb1 : decide (x < (ns.length : Int)) = false := decide_eq_false c1
                                have HE : Aside0 (decide (x < (mn : Int)) = false) := ⟨decide_eq_false (fun h => c1 ((HMn.out.2.2 x hx0).2 h).1)⟩
                                clear c1 hx0 hl
                                go_wp2
                                go_meet
                                case rel => exact ⟨by rw [HE.out], rfl⟩
                            case rest =>
                              obtain ⟨rfl, rfl⟩ := hcut
                              by_cases c : x < (mn : Int)
                              · have cb : decide (x < (mn : Int)) = true := decide_eq_true c
                                rw [cb]
                                have hx0 := HK.out.1
                                have hlt : x < ns.length := ((HMn.out.2.2 x hx0).2 c).1
                                have hx20 : x < 20 := ((HMn.out.2.2 x hx0).2 c).2
                                obtain ⟨ad, had, hcell⟩ := Open.at_num HXn.out.2.1 x hx0 hlt
                                have hbl := World.block_lt_of_cell? w _ hcell
                                replace hcell := ((HB.out).cell hbl).trans hcell
                                obtain ⟨el, hel⟩ : ∃ el, el = ns.getD x.toNat 0 := ⟨_, rfl⟩
                                have HM : Aside0 (el ∈ ns) := ⟨by rw [hel, List.getD_eq_getElem?_getD, List.getElem?_eq_getElem (by omega)]; exact List.getElem_mem _⟩
                                rw [← hel] at hcell
                                have HEL := Aside0.mk hel
                                have HLT := Aside0.mk (And.intro hx0 (And.intro hlt hx20))
                                subst had
                                have HCX := Aside0.mk c
                                have hxlo : 0 ≤ x := hx0
                                have hxhi : x ≤ 20 := by omega
                                clear hel hx20
                                have hel := bounds_i64 (HXn.out.2.2.2 el HM.out)
                                have HRS : Aside0 (rest fn ns mn x.toNat ++ (rest ft ts mt 0 ++ []) = fn el ++ (rest fn ns mn (x.toNat + 1) ++ (rest ft ts mt 0 ++ []))) := ⟨by rw [HEL.out, rest_succ fn ns mn x.toNat (by omega) (by omega) 0, List.append_assoc]⟩
                                replace HR := Aside0.mk (HRS.out ▸ HR.out)
                                have HRD : Aside0 (rdSigned (fn el ++ (rest fn ns mn (x.toNat + 1) ++ (rest ft ts mt 0 ++ []))) 0 = (el, rest fn ns mn (x.toNat + 1) ++ (rest ft ts mt 0 ++ []), 0)) := ⟨rdSigned_leb _ (by omega) (by omega)⟩
                                have hne : ad.block ≠ g := fun h => by have := HG.out; have h2 := hbl; rw [blk_add] at h2; omega
                                have HE2 := Aside0.mk hel
                                replace hx0 := eq_true hxlo
                                replace hlt := eq_true hlt
                                clear c cb hbl
                                go_wp2_with fail
                                refine start_ (n := 7) (S := fun w' => w'.cell? (ad.add x.toNat) = some (.int .i64 el)) (ds := []) #[false, false, false, false, false, false, false] (by kernel_rfl) rfl rfl (hcell) (fun hHeld => ?_)
                                refine pure_ (i := 0) (N := some 103) (v := ?_) (a' := ?_) #[true, false, false, false, false, false, false] rfl rfl (by kernel_rfl) (fun _ _ _ h => h) (Or.inl ⟨by rfl, ?_⟩) ?_ ?_
                                rotate_left
                                · intro w'
                                  go_simp
                                  with_reducible rfl
                                rotate_left
                                · simp only [Act.put, List.setIfInBounds_toArray, List.set_cons_zero, List.set_cons_succ, i64_w, i32_w]
                                  rfl
                                refine pure_ (i := 2) (N := some 105) (v := ?_) (a' := ?_) #[true, false, true, false, false, false, false] rfl rfl (by kernel_rfl) (fun _ _ _ h => h) (Or.inl ⟨by rfl, ?_⟩) ?_ ?_
                                rotate_left
                                · intro w'
                                  go_simp
                                  with_reducible rfl
                                rotate_left
                                · simp only [Act.put, List.setIfInBounds_toArray, List.set_cons_zero, List.set_cons_succ, i64_w, i32_w]
                                  rfl
                                refine pure_ (i := 3) (N := some 106) (v := ?_) (a' := ?_) #[true, false, true, true, false, false, false] rfl rfl (by kernel_rfl) (fun _ _ _ h => h) (Or.inl ⟨by rfl, ?_⟩) ?_ ?_
                                rotate_left
                                · intro w'
                                  go_simp
                                  with_reducible rfl
                                rotate_left
                                · simp only [Act.put, List.setIfInBounds_toArray, List.set_cons_zero, List.set_cons_succ, i64_w, i32_w]
                                  rfl
                                refine pure_ (i := 4) (N := some 107) (v := ?_) (a' := ?_) #[true, false, true, true, true, false, false] rfl rfl (by kernel_rfl) (fun _ _ _ h => h) (Or.inl ⟨by rfl, ?_⟩) ?_ ?_
                                rotate_left
                                · intro w'
                                  go_simp
                                  with_reducible rfl
                                rotate_left
                                · simp only [Act.put, List.setIfInBounds_toArray, List.set_cons_zero, List.set_cons_succ, i64_w, i32_w]
                                  rfl
                                refine take_ (i := 5) (N := some 108) (v := ?_) (a' := ?_) #[true, false, true, true, true, true, false] rfl rfl (by kernel_rfl) (fun _ _ _ h => h) (Or.inl ⟨by rfl, ?_⟩) hHeld ?_ ?_
                                rotate_left
                                · intro w' s0
                                  go_simp
                                  with_reducible rfl
                                rotate_left
                                · simp only [Act.put, List.setIfInBounds_toArray, List.set_cons_zero, List.set_cons_succ, i64_w, i32_w]
                                  rfl
                                refine one_ (i := 1) (N := some 104) #[true, true, true, true, true, true, false] rfl rfl (by kernel_rfl) (by decide) (fun K hK => ?_)
                                refine goes_ Try.func32 (by kernel_rfl) rfl #[.pointer (some ⟨g, 0, none⟩)] (by rfl) rfl rfl (by simp only [List.map_toArray, List.map_cons, List.map_nil]; rfl) ?_
                                with_reducible refine (rd_Signed _ _ _ _ (HR.out.below (below_drew (Below.refl _ _)))).mono ?_
                                rintro en wa ⟨rfl, hRa, hUa⟩
                                refine ⟨_, rfl, ?_⟩
                                rw [HRD.out] at hRa ⊢
                                have HRa := Aside0.mk hRa
                                have HBa := Aside0.mk (hUa.after1 (below_drew HB.out) HG.out)
                                have hcell2 := hUa.cell (show World.cell? (World.drew _) _ = _ from hcell) (by rw [blk_add]; exact hne)
                                refine hK.out _ _ (hcell2) (fun hHeld => ?_)
                                clear hK K
                                refine norm_ (a' := ?_) ?_ ?_
                                rotate_left
                                · show Act.put _ (some 104) _ = _
                                  simp only [Act.put, List.setIfInBounds_toArray, List.set_cons_zero, List.set_cons_succ, i64_w, i32_w]
                                  rfl
                                refine pure_ (i := 6) (N := some 109) (v := ?_) (a' := ?_) #[true, true, true, true, true, true, true] rfl rfl (by kernel_rfl) (fun _ _ _ h => h) (Or.inl ⟨by rfl, ?_⟩) ?_ ?_
                                rotate_left
                                · intro w'
                                  go_simp
                                  with_reducible rfl
                                rotate_left
                                · simp only [Act.put, List.setIfInBounds_toArray, List.set_cons_zero, List.set_cons_succ, i64_w, i32_w]
                                  rfl
                                refine done_ (by kernel_rfl) ?_
                                go_wp2
                                go_roundg (gk - 1)
                                case measure => have := HK.out; omega
                                case rel =>
                                  have hk := HK.out
                                  have hcx := HCX.out
                                  exact ⟨x + 1, rfl, ⟨by omega⟩, ⟨by rw [show (x + 1).toNat = x.toNat + 1 by omega]; exact HRa.out⟩, HBa⟩
                              · have cb : decide (x < (mn : Int)) = false := decide_eq_false c
                                rw [cb]
                                obtain rfl : x = mn := by have := HK.out; omega
                                clear c cb HK
                                rw [show ((mn : Nat) : Int).toNat = mn from Int.toNat_natCast _, rest_end fn ns mn mn (.inr (Nat.le_refl _)), List.nil_append] at HR
                                go_wp2_with fail
                                go_loopg [14] (mt + 1) (fun kq vi W' => ∃ x : Int, vi = .int .i64 x ∧ Aside0 (0 ≤ x ∧ x ≤ mt ∧ x + kq = mt + 1) ∧ Aside0 (RD W' g (rest ft ts mt x.toNat ++ []) 0) ∧ Aside0 (Below w.heap.size w W'))
                                case atStart => exact ⟨0, rfl, ⟨by omega⟩, HR, HB⟩
                                case round =>
                                  clear HB HR
                                  obtain ⟨x, rfl, HK, HR, HB⟩ := hrel
                                  go_upto_region 30 with (fail)
                                  go_cut [117] (fun vc wc => vc = .bool (decide (x < (mt : Int))) ∧ wc = wr)
                                  case first =>
                                    have hx0 := HK.out.1
                                    have hl := HXt.out.2.2.1
                                    by_cases c1 : x < ts.length
                                    · have cb1 : decide (x < (ts.length : Int)) = true := decide_eq_true c1
                                      by_cases c2 : x < 20
                                      · have cb2 : decide (x < 20) = true := decide_eq_true c2
                                        have HE : Aside0 (decide (x < (mt : Int)) = true) := ⟨decide_eq_true ((HMt.out.2.2 x hx0).1 ⟨c1, c2⟩)⟩
                                        clear c1 c2 hx0 hl
                                        go_wp2
                                        go_meet
                                        case rel => exact ⟨by rw [HE.out], rfl⟩
                                      · have cb2 : decide (x < 20) = false := decide_eq_false c2
                                        have HE : Aside0 (decide (x < (mt : Int)) = false) := ⟨decide_eq_false (fun h => c2 ((HMt.out.2.2 x hx0).2 h).2)⟩
                                        clear c1 c2 hx0 hl
                                        go_wp2
                                        go_meet
                                        case rel => exact ⟨by rw [HE.out], rfl⟩
                                    · have cb1 : decide (x < (ts.length : Int)) = false := decide_eq_false c1
                                      have HE : Aside0 (decide (x < (mt : Int)) = false) := ⟨decide_eq_false (fun h => c1 ((HMt.out.2.2 x hx0).2 h).1)⟩
                                      clear c1 hx0 hl
                                      go_wp2
                                      go_meet
                                      case rel => exact ⟨by rw [HE.out], rfl⟩
                                  case rest =>
                                    obtain ⟨rfl, rfl⟩ := hcut
                                    by_cases c : x < (mt : Int)
                                    · have cb : decide (x < (mt : Int)) = true := decide_eq_true c
                                      rw [cb]
                                      have hx0 := HK.out.1
                                      have hlt : x < ts.length := ((HMt.out.2.2 x hx0).2 c).1
                                      have hx20 : x < 20 := ((HMt.out.2.2 x hx0).2 c).2
                                      obtain ⟨ad, had, hcell⟩ := Open.at_text HXt.out.2.1 x hx0 hlt
                                      have hbl := World.block_lt_of_cell? w _ hcell
                                      replace hcell := ((HB.out).cell hbl).trans hcell
                                      obtain ⟨el, hel⟩ : ∃ el, el = ts.getD x.toNat ByteArray.empty := ⟨_, rfl⟩
                                      have HM : Aside0 (el ∈ ts) := ⟨by rw [hel, List.getD_eq_getElem?_getD, List.getElem?_eq_getElem (by omega)]; exact List.getElem_mem _⟩
                                      rw [← hel] at hcell
                                      have HEL := Aside0.mk hel
                                      have HLT := Aside0.mk (And.intro hx0 (And.intro hlt hx20))
                                      subst had
                                      have HCX := Aside0.mk c
                                      have hxlo : 0 ≤ x := hx0
                                      have hxhi : x ≤ 20 := by omega
                                      clear hel hx20
                                      have hel : el.size ≤ 1000 := HSH.out el (by rw [HEL.out, List.getD_eq_getElem?_getD, List.getElem?_eq_getElem (by omega)]; exact List.mem_take_iff_getElem.2 ⟨x.toNat, by omega, rfl⟩)
                                      have HRS : Aside0 (rest ft ts mt x.toNat ++ [] = ft el ++ (rest ft ts mt (x.toNat + 1) ++ [])) := ⟨by rw [HEL.out, rest_succ ft ts mt x.toNat (by omega) (by omega) ByteArray.empty, List.append_assoc]⟩
                                      replace HR := Aside0.mk (HRS.out ▸ HR.out)
                                      have HRD : Aside0 (rdText 1000 (ft el ++ (rest ft ts mt (x.toNat + 1) ++ [])) 0 = (bytesOf el, rest ft ts mt (x.toNat + 1) ++ [], 0)) := ⟨by unfold ft; rw [List.append_assoc, ← bytesOf_length]; exact rdText_leb _ _ (by rw [bytesOf_length]; omega) (by omega)⟩
                                      have hne : ad.block ≠ g := fun h => by have := HG.out; have h2 := hbl; rw [blk_add] at h2; omega
                                      have HE2 := Aside0.mk hel
                                      replace hx0 := eq_true hxlo
                                      replace hlt := eq_true hlt
                                      clear c cb hbl
                                      go_wp2_with fail
                                      refine start_ (n := 7) (S := fun w' => w'.cell? (ad.add x.toNat) = some (.string el)) (ds := []) #[false, false, false, false, false, false, false] (by kernel_rfl) rfl rfl (hcell) (fun hHeld => ?_)
                                      refine pure_ (i := 0) (N := some 120) (v := ?_) (a' := ?_) #[true, false, false, false, false, false, false] rfl rfl (by kernel_rfl) (fun _ _ _ h => h) (Or.inl ⟨by rfl, ?_⟩) ?_ ?_
                                      rotate_left
                                      · intro w'
                                        go_simp
                                        with_reducible rfl
                                      rotate_left
                                      · simp only [Act.put, List.setIfInBounds_toArray, List.set_cons_zero, List.set_cons_succ, i64_w, i32_w]
                                        rfl
                                      refine pure_ (i := 2) (N := some 122) (v := ?_) (a' := ?_) #[true, false, true, false, false, false, false] rfl rfl (by kernel_rfl) (fun _ _ _ h => h) (Or.inl ⟨by rfl, ?_⟩) ?_ ?_
                                      rotate_left
                                      · intro w'
                                        go_simp
                                        with_reducible rfl
                                      rotate_left
                                      · simp only [Act.put, List.setIfInBounds_toArray, List.set_cons_zero, List.set_cons_succ, i64_w, i32_w]
                                        rfl
                                      refine pure_ (i := 3) (N := some 123) (v := ?_) (a' := ?_) #[true, false, true, true, false, false, false] rfl rfl (by kernel_rfl) (fun _ _ _ h => h) (Or.inl ⟨by rfl, ?_⟩) ?_ ?_
                                      rotate_left
                                      · intro w'
                                        go_simp
                                        with_reducible rfl
                                      rotate_left
                                      · simp only [Act.put, List.setIfInBounds_toArray, List.set_cons_zero, List.set_cons_succ, i64_w, i32_w]
                                        rfl
                                      refine pure_ (i := 4) (N := some 124) (v := ?_) (a' := ?_) #[true, false, true, true, true, false, false] rfl rfl (by kernel_rfl) (fun _ _ _ h => h) (Or.inl ⟨by rfl, ?_⟩) ?_ ?_
                                      rotate_left
                                      · intro w'
                                        go_simp
                                        with_reducible rfl
                                      rotate_left
                                      · simp only [Act.put, List.setIfInBounds_toArray, List.set_cons_zero, List.set_cons_succ, i64_w, i32_w]
                                        rfl
                                      refine take_ (i := 5) (N := some 125) (v := ?_) (a' := ?_) #[true, false, true, true, true, true, false] rfl rfl (by kernel_rfl) (fun _ _ _ h => h) (Or.inl ⟨by rfl, ?_⟩) hHeld ?_ ?_
                                      rotate_left
                                      · intro w' s0
                                        go_simp
                                        with_reducible rfl
                                      rotate_left
                                      · simp only [Act.put, List.setIfInBounds_toArray, List.set_cons_zero, List.set_cons_succ, i64_w, i32_w]
                                        rfl
                                      refine one_ (i := 1) (N := some 121) #[true, true, true, true, true, true, false] rfl rfl (by kernel_rfl) (by decide) (fun K hK => ?_)
                                      refine goes_ Try.func34 (by kernel_rfl) rfl #[.pointer (some ⟨g, 0, none⟩), .int .i64 1000] (by rfl) rfl rfl (by simp only [List.map_toArray, List.map_cons, List.map_nil]; rfl) ?_
                                      with_reducible refine (rd_Text _ _ _ _ _ (HR.out.below (below_drew (Below.refl _ _))) (by omega)).mono ?_
                                      rintro en wa ⟨rfl, hRa, hUa⟩
                                      refine ⟨_, rfl, ?_⟩
                                      rw [HRD.out] at hRa ⊢
                                      simp only [strOfNums_bytesOf]
                                      have HRa := Aside0.mk hRa
                                      have HBa := Aside0.mk (hUa.after1 (below_drew HB.out) HG.out)
                                      have hcell2 := hUa.cell (show World.cell? (World.drew _) _ = _ from hcell) (by rw [blk_add]; exact hne)
                                      refine hK.out _ _ (hcell2) (fun hHeld => ?_)
                                      clear hK K
                                      refine norm_ (a' := ?_) ?_ ?_
                                      rotate_left
                                      · show Act.put _ (some 121) _ = _
                                        simp only [Act.put, List.setIfInBounds_toArray, List.set_cons_zero, List.set_cons_succ, i64_w, i32_w]
                                        rfl
                                      refine pure_ (i := 6) (N := some 126) (v := ?_) (a' := ?_) #[true, true, true, true, true, true, true] rfl rfl (by kernel_rfl) (fun _ _ _ h => h) (Or.inl ⟨by rfl, ?_⟩) ?_ ?_
                                      rotate_left
                                      · intro w'
                                        go_simp
                                        with_reducible rfl
                                      rotate_left
                                      · simp only [Act.put, List.setIfInBounds_toArray, List.set_cons_zero, List.set_cons_succ, i64_w, i32_w]
                                        rfl
                                      refine done_ (by kernel_rfl) ?_
                                      go_wp2
                                      go_roundg (gk - 1)
                                      case measure => have := HK.out; omega
                                      case rel =>
                                        have hk := HK.out
                                        have hcx := HCX.out
                                        exact ⟨x + 1, rfl, ⟨by omega⟩, ⟨by rw [show (x + 1).toNat = x.toNat + 1 by omega]; exact HRa.out⟩, HBa⟩
                                    · have cb : decide (x < (mt : Int)) = false := decide_eq_false c
                                      rw [cb]
                                      obtain rfl : x = mt := by have := HK.out; omega
                                      clear c cb HK
                                      rw [show ((mt : Nat) : Int).toNat = mt from Int.toNat_natCast _, rest_end ft ts mt mt (.inr (Nat.le_refl _)), List.nil_append] at HR
                                      go_wp2_with fail
                                      refine (rd_End _ _ _ _ HR.out).mono ?_
                                      rintro en wa ⟨rfl, hRa, hUa⟩
                                      rw [show rdEnd [] 0 = 0 from rfl] at hRa ⊢
                                      have HRa := Aside0.mk hRa
                                      have HBa := Aside0.mk (hUa.after1 HB.out HG.out)
                                      clear hRa hUa
                                      go_wp2_with fail
                                      refine (rd_Left _ _ _ _ HRa.out).mono ?_
                                      rintro en wb ⟨rfl, rfl⟩
                                      go_wp2
                                      go_ret
                                      exact ⟨by first | rfl | (simp; done), HBa.out⟩
namespace codeBack
open Go.ChangeShapes Go.WideShapes Go.ChangeAt Go.RowKit
open Go.ChangeMaps (open_string shut_string)
set_option linter.unusedVariables false
theorem laidOut : laidOutB Try.prog = true := by kernel_rfl
theorem own : ownKnob Try.prog.godebug = none := by kernel_rfl
set_option maxRecDepth 100000 in
theorem lifted (os : Os) (started : os.Started) (H : Type) (enc : TypeId × Value → H) :
    ReturnsInHanded {} Try.checked os 9 .any (Rows.codeBackSpec.pre6 enc Try.prog Try.f9 Rows.codeBackRow.domain false) (Rows.codeBackSpec.post enc Try.prog Try.f9 false true false false) := by
  refine returnsInHanded_of_change_sized (C := Try.checked) own started (by kernel_rfl) Try.func9
    (ChangeSpec.witness6 (enc := enc) (C := Try.checked) false ⟨#[], #[.slice none 0 0, .slice none 0 0, .slice none 0 0], []⟩ 8 (by kernel_rfl) (by kernel_rfl) (by kernel_rfl) (by kernel_rfl)) ?_
  intro W base args ds gs before hval0 hW hcnd hsz0 _
  have hsz : (DataW.weightsEach Try.prog (Try.f9.params.toList ++ Rows.codeBackSpec.plain.varTypes Try.prog) (ds ++ gs)).all (· ≤ reachBytes) = true := hsz0
  have hval : ∀ (j : Nat) t v, Try.f9.params[j]? = some t → args[j]? = some v → Value.okWide Try.prog W .any base t v := hval0
  have hW' := hW
  obtain ⟨p, q, hA0, hV, rfl, hfz, hnd⟩ := hW
  have hA : DataW.TrodAll enc Try.prog W 0 (fun _ => true) true Try.f9.params.toList args.toList ds p := hA0
  rw [Try.params9] at hA hval hsz
  obtain ⟨v0, vs0, d0, ds0, p0, q0, hargs, rfl, rfl, h0, r0⟩ := trodAll_cons hA
  obtain ⟨v1, vs1, d1, ds1, p1, q1, rfl, rfl, rfl, h1, r1⟩ := trodAll_cons r0
  obtain ⟨v2, vs2, d2, ds2, p2, q2, rfl, rfl, rfl, h2, r2⟩ := trodAll_cons r1
  obtain ⟨rfl, rfl, rfl⟩ := trodAll_nil r2
  obtain rfl : args = #[v0, v1, v2] := by cases args; simp_all
  obtain ⟨rfl, rfl⟩ := trodVars_none hV
  have k0 := h0
  obtain ⟨a0, A0, c0, rfl, w0⟩ := Open.open_slice Try.underlying55 (Open.opens_slice Try.underlying55 (by kernel_rfl) (Open.opens_int (k := .u64) (by kernel_rfl))) (hval 0 55 v0 rfl rfl) h0
  have k1 := h1
  obtain ⟨a1, A1, c1, rfl, w1⟩ := Open.open_slice Try.underlying56 (Open.opens_slice Try.underlying56 (by kernel_rfl) (Open.opens_int (k := .i64) (by kernel_rfl))) (hval 1 56 v1 rfl rfl) h1
  have k2 := h2
  obtain ⟨a2, A2, c2, rfl, w2⟩ := Open.open_slice Try.underlying57 (Open.opens_slice Try.underlying57 (by kernel_rfl) (Open.opens_string (by kernel_rfl))) (hval 2 57 v2 rfl rfl) h2
  clear hA0 hval0 hsz0 hsz
  refine (CodeBack_walk a0 A0 c0 a1 A1 c1 a2 A2 c2 W w0 w1 w2).mono fun e W' ⟨he, bel⟩ => ?_
  subst he
  exact ⟨_, rfl, _, _, _, [], _, [], hW', trodAll_mk1 (shut_bool Try.underlying4 _), (trodAll_cons_mk (Open.trod_below laidOut (by kernel_rfl) (of_decide_eq_true (by kernel_rfl)) k0 bel) (trodAll_cons_mk (Open.trod_below laidOut (by kernel_rfl) (of_decide_eq_true (by kernel_rfl)) k1 bel) (trodAll_cons_mk (Open.trod_below laidOut (by kernel_rfl) (of_decide_eq_true (by kernel_rfl)) k2 bel) trodAll_mk0))), rfl, bel.frame _, fun h => by cases h⟩
theorem over : Rows.codeBackRow.holds Try.pinned (OpenSpec.ofChange Rows.codeBackSpec) :=
  OpenClaim.holds_of_wide 9 Try.f9 rfl rfl rfl rfl rfl rfl rfl ⟨rfl, rfl, rfl, rfl, rfl⟩ rfl rfl rfl rfl rfl (by kernel_rfl) Try.func9 (by kernel_rfl)
    (of_decide_eq_true (by kernel_rfl)) (by unfold Func.isWrapper; first | (rw [if_pos (by decide +kernel)]; kernel_rfl) | (rw [if_neg (by decide +kernel)]; exact ⟨rfl, rfl⟩))
    (fun os started H enc _ => lifted os started H enc)
theorem proved : Rows.CodeBackSaid := over
#print axioms proved
end codeBack
/-- The row, under a short name, for the claim. -/
theorem codeBack_holds : Rows.CodeBackSaid := codeBack.proved
end Go.Proofs.Ytnapckkbnpocgaa
