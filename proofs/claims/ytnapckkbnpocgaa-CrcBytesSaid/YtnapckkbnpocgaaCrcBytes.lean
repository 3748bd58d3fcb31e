/- watershedlaw03.CrcBytes returns true for every input: a byte that is turned anywhere in what is sealed, its sum too, is told (a text of more than 2000 bytes, and a turn of nothing, are let go by the law itself). -/
import Derived.Test.YtnapckkbnpocgaaRows
import Derived.WalkKit
import Derived.ProofKit
import Derived.OpenShut
import Derived.ShutString
import Derived.ChangeOld
import Derived.Below
import Derived.SizedLaws
import Derived.Test.YtnapckkbnpocgaaW03b
import Derived.Test.YtnapckkbnpocgaaM02
namespace Go.Proofs.Ytnapckkbnpocgaa
set_option linter.unusedSimpArgs false
open Go.RowKit C03 M03 Base Go.Proofs.YtnapckkbnpocgaaW.PrintWords Go.Proofs.YtnapckkbnpocgaaW.PrintLast Go.Proofs.YtnapckkbnpocgaaW.PrintMore

theorem xor_u8_ne {x t : Int} (hx : 0 ≤ x ∧ x ≤ 255) (ht : 0 ≤ t ∧ t ≤ 255) (h : t ≠ 0) : (0 ≤ Go.bits .xor .u8 x t ∧ Go.bits .xor .u8 x t ≤ 255) ∧ Go.bits .xor .u8 x t ≠ x := by
  rw [u8_xor x t hx.1 (by omega) ht.1 (by omega)]
  obtain ⟨a, rfl⟩ := Int.eq_ofNat_of_zero_le hx.1
  obtain ⟨b, rfl⟩ := Int.eq_ofNat_of_zero_le ht.1
  have hl : a ^^^ b < 256 := Nat.xor_lt_two_pow (n := 8) (by omega) (by omega)
  refine ⟨⟨by omega, by simp only [Int.toNat_natCast]; omega⟩, fun he => h ?_⟩
  simp only [Int.toNat_natCast] at he
  have he2 : a ^^^ b = a := by omega
  have : a ^^^ (a ^^^ b) = a ^^^ a := by rw [he2]
  rw [← Nat.xor_assoc, Nat.xor_self, Nat.zero_xor] at this
  omega

set_option maxRecDepth 100000 in
set_option maxHeartbeats 2000000 in
theorem CrcBytes_walk (s : ByteArray) (at_ : Int) (t : Int) (w : World) (hs : s.size ≤ 140737488351232) (_hat : -9223372036854775808 ≤ at_ ∧ at_ < 9223372036854775808) (ht : 0 ≤ t ∧ t < 256) :
    Calls Try.prog 7 #[.string s, .int .i64 at_, .int .u8 t] w fun e w' => e = .returned (.bool true) ∧ Below w.heap.size w w' := by
  have HB := Aside0.mk (Below.refl w.heap.size w)
  have HS := Aside0.mk hs
  have HT := Aside0.mk ht
  by_cases c : (s.size : Int) > 2000
  · have c0 : decide (2000 < (s.size : Int)) = true := decide_eq_true c
    have c1 : decide (2000 < s.size) = true := decide_eq_true (by omega)
    clear c hs ht
    go_enter Try.func7, Try.ntmps7
    go_wp2_with fail
    refine (works _).mono ?_
    rintro e w1 ⟨rfl, hb⟩
    replace HB := Aside0.mk (below_step HB.out hb)
    clear hb
    go_wp2
    go_ret
    exact ⟨rfl, HB.out⟩
  · have c0 : decide (2000 < (s.size : Int)) = false := decide_eq_false c
    have c1 : decide (2000 < s.size) = false := decide_eq_false (by omega)
    have hz : s.size ≤ 2000 := by omega
    clear c hs
    by_cases ct : t = 0
    · have ctb : (t == 0) = true := beq_iff_eq.mpr ct
      clear ct ht
      go_enter Try.func7, Try.ntmps7
      go_wp2_with fail
      refine (works _).mono ?_
      rintro e w1 ⟨rfl, hb⟩
      replace HB := Aside0.mk (below_step HB.out hb)
      clear hb
      go_wp2
      go_ret
      exact ⟨rfl, HB.out⟩
    · have ctb : (t == 0) = false := beq_eq_false_iff_ne.mpr ct
      obtain ⟨l, hl⟩ : ∃ l, l = bytesOf (sealed s) := ⟨_, rfl⟩
      obtain ⟨z, hzz⟩ : ∃ z, z = (sealed s).size := ⟨_, rfl⟩
      have hlz : l.length = z := by rw [hl, hzz, bytesOf_length]
      have hz4 : z = s.size + 4 := by rw [hzz, sealed_size]
      have hseal : (sealed s).size = z := hzz.symm
      obtain ⟨cu, hcu⟩ : ∃ cu, cu = IntKind.u64.wrap at_ := ⟨_, rfl⟩
      have hcu0 : 0 ≤ cu := by rw [hcu, M02.wrap_u64]; omega
      obtain ⟨k, hk⟩ : ∃ k, k = cu % (z : Int) := ⟨_, rfl⟩
      have hk0 : 0 ≤ k := by rw [hk]; exact Int.emod_nonneg _ (by omega)
      have hkn : k < (z : Int) := by rw [hk]; exact Int.emod_lt_of_pos _ (by omega)
      have hkr := hk.symm
      have hcr := hcu.symm
      obtain ⟨x, hx⟩ : ∃ x, x = l.getD k.toNat 0 := ⟨_, rfl⟩
      have hxr : 0 ≤ x ∧ x ≤ 255 := by
        rw [hx, List.getD_eq_getElem?_getD, List.getElem?_eq_getElem (by omega)]
        exact C02.bytes_range (sealed s) _ (by rw [← hl]; exact List.getElem_mem _)
      have HX := Aside0.mk (xor_u8_ne hxr (t := t) (by omega) ct)
      have HO : Aside0 (opens (strOfNums (l.set k.toNat (Go.bits .xor .u8 x t))) = false) := ⟨by
        rw [hl]
        exact opens_turned s k.toNat _ (by rw [← hl]; omega) HX.out.1 (by rw [← hl, ← hx]; exact HX.out.2)⟩
      have HL := Aside0.mk (And.intro hl hlz)
      have HXE := Aside0.mk hx
      have HZ4 := Aside0.mk hz4
      have hzp : (0 : Int) < z := by omega
      have hzl : (z : Int) ≤ 2004 := by omega
      have kb := fun W => print_bytes (P := Try.prog) 9 35 5 Try.underlying9 Try.underlying35 Try.underlying5 (sealed s) W
      clear ct ht hl hzz hk hcu hx hxr hlz hz4
      go_enter Try.func7, Try.ntmps7
      go_wp2_with fail
      refine (works _).mono ?_
      rintro e w1 ⟨rfl, hb⟩
      replace HB := Aside0.mk (below_step HB.out hb)
      clear hb
      go_wp2_with fail
      refine (crc_Seal _ _ HS.out).mono ?_
      rintro e w2 ⟨rfl, hb⟩
      replace HB := Aside0.mk (below_step HB.out hb)
      have HBB := Aside0.mk (BB.new w2 5 (sealed s) (by omega))
      have HB3 := Aside0.mk (bytes_below HB.out HB.out.size 5 (sealed s))
      have HG := Aside0.mk HB.out.size
      have hfz := HBB.out.frozen (j := k.toNat) (by rw [← HL.out.1]; have := HL.out.2; omega)
      have hce := HBB.out.cell (j := k.toNat) (by rw [← HL.out.1]; have := HL.out.2; omega)
      rw [← HL.out.1, ← HXE.out] at hce
      clear hb
      go_upto_region 6 with (fail)
      generalize hW : Lib.bytesWorld w2 5 (sealed s) = W at HBB HB3 hfz hce ⊢
      generalize hg : w2.heap.size = g at HBB HG hfz hce ⊢
      clear hW
      have hls : (l.set k.toNat (Go.bits .xor .u8 x t)).length = z := by rw [List.length_set]; exact HL.out.2
      have hset := BB.set HBB.out (j := k.toNat) (by rw [← HL.out.1]; have := HL.out.2; omega) (Go.bits .xor .u8 x t)
      rw [← HL.out.1] at hset
      have hcv := fun c => string_of_reads (P := Try.prog) (c := c) Try.underlying35 Try.underlying5 Try.underlying9 hset.reads
      rw [hls] at hcv
      have HSZ : Aside0 ((strOfNums (l.set k.toNat (Go.bits .xor .u8 x t))).size ≤ 140737488351232) := ⟨by rw [strOfNums_size, hls]; omega⟩
      have HB4 := Aside0.mk (HB3.out.setCell (p := ⟨g, k.toNat, none⟩) HG.out (.int .u8 (Go.bits .xor .u8 x t)))
      clear hset hls hg
      go_wp2_with fail
      refine (crc_Open _ _ HSZ.out).mono ?_
      rintro e w5 ⟨rfl, hb⟩
      rw [HO.out]
      replace HB := Aside0.mk (below_step HB4.out hb)
      clear hb
      go_wp2
      go_ret
      exact ⟨by first | rfl | (simp; done), HB.out⟩

namespace crcBytes
open Go.ChangeShapes Go.WideShapes Go.ChangeAt Go.RowKit
open Go.ChangeMaps (open_string shut_string)
set_option linter.unusedVariables false
theorem own : ownKnob Try.prog.godebug = none := by kernel_rfl
set_option maxRecDepth 100000 in
theorem lifted (os : Os) (started : os.Started) (H : Type) (enc : TypeId × Value → H) :
    ReturnsInHanded {} Try.checked os 7 .any (Rows.crcBytesSpec.pre6 enc Try.prog Try.f7 Rows.crcBytesRow.domain false) (Rows.crcBytesSpec.post enc Try.prog Try.f7 false true false false) := by
  refine returnsInHanded_of_change_sized (C := Try.checked) own started (by kernel_rfl) Try.func7
    (ChangeSpec.witness6 (enc := enc) (C := Try.checked) false ⟨#[], #[.string ByteArray.empty, .int .i64 0, .int .u8 0], []⟩ 8 (by kernel_rfl) (by kernel_rfl) (by kernel_rfl) (by kernel_rfl)) ?_
  intro W base args ds gs before hval0 hW hcnd hsz0 _
  have hsz : (DataW.weightsEach Try.prog (Try.f7.params.toList ++ Rows.crcBytesSpec.plain.varTypes Try.prog) (ds ++ gs)).all (· ≤ reachBytes) = true := hsz0
  have hval : ∀ (j : Nat) t v, Try.f7.params[j]? = some t → args[j]? = some v → Value.okWide Try.prog W .any base t v := hval0
  have hW' := hW
  obtain ⟨p, q, hA0, hV, rfl, hfz, hnd⟩ := hW
  have hA : DataW.TrodAll enc Try.prog W 0 (fun _ => true) true Try.f7.params.toList args.toList ds p := hA0
  rw [Try.params7] at hA hval hsz
  obtain ⟨v0, vs0, d0, ds0, p0, q0, hargs, rfl, rfl, h0, r0⟩ := trodAll_cons hA
  obtain ⟨v1, vs1, d1, ds1, p1, q1, rfl, rfl, rfl, h1, r1⟩ := trodAll_cons r0
  obtain ⟨v2, vs2, d2, ds2, p2, q2, rfl, rfl, rfl, h2, r2⟩ := trodAll_cons r1
  obtain ⟨rfl, rfl, rfl⟩ := trodAll_nil r2
  obtain rfl : args = #[v0, v1, v2] := by cases args; simp_all
  obtain ⟨rfl, rfl⟩ := trodVars_none hV
  obtain ⟨a0, rfl, rfl, rfl, y0⟩ := open_string Try.underlying9 (hval 0 9 v0 rfl rfl) h0
  have w0 : a0.size ≤ 140737488351232 := by
    have z := sized_string hsz (j := 0) (t := 9) rfl rfl
    rw [Array.length_toList] at z
    exact z
  obtain ⟨a1, rfl, rfl, rfl, w1⟩ := open_int Try.underlying3 (hval 1 3 v1 rfl rfl) h1
  have b1 : -9223372036854775808 ≤ a1 ∧ a1 < 9223372036854775808 := by have := bounds_i64 w1; omega
  obtain ⟨a2, rfl, rfl, rfl, w2⟩ := open_int Try.underlying5 (hval 2 5 v2 rfl rfl) h2
  have b2 : 0 ≤ a2 ∧ a2 < 256 := by have := bounds_u8 w2; omega
  clear hA0 hval0 hsz0 hsz
  refine (CrcBytes_walk a0 a1 a2 W w0 b1 b2).mono fun e W' ⟨he, bel⟩ => ?_
  subst he
  exact ⟨_, rfl, _, _, _, [], _, [], hW', trodAll_mk1 (shut_bool Try.underlying4 _), (trodAll_cons_mk (shut_string Try.underlying9 y0) (trodAll_cons_mk (shut_int Try.underlying3 w1) (trodAll_cons_mk (shut_int Try.underlying5 w2) trodAll_mk0))), rfl, bel.frame _, fun h => by cases h⟩
theorem over : Rows.crcBytesRow.holds Try.pinned (OpenSpec.ofChange Rows.crcBytesSpec) :=
  OpenClaim.holds_of_wide 7 Try.f7 rfl rfl rfl rfl rfl rfl rfl ⟨rfl, rfl, rfl, rfl, rfl⟩ rfl rfl rfl rfl rfl (by kernel_rfl) Try.func7 (by kernel_rfl)
    (of_decide_eq_true (by kernel_rfl)) (by unfold Func.isWrapper; first | (rw [if_pos (by decide +kernel)]; kernel_rfl) | (rw [if_neg (by decide +kernel)]; exact ⟨rfl, rfl⟩))
    (fun os started H enc _ => lifted os started H enc)
theorem proved : Rows.CrcBytesSaid := over
#print axioms proved
end crcBytes
/-- The row, under a short name, for the claim. -/
theorem crcBytes_holds : Rows.CrcBytesSaid := crcBytes.proved
end Go.Proofs.Ytnapckkbnpocgaa
