import Derived.Test.YtogainbkidgkhaaQ12fx
import Derived.Test.YtogainbkidgkhaaOpen
import Derived.WalkKit
import Derived.ProofKit
/- Plain: what operators do to records, one by one. -/
namespace Go.Proofs.Ytogainbkidgkhaa.P12
set_option linter.unusedSimpArgs false
open Go.RowKit Go.Proofs.YtogainbkidgkhaaW.PrintWords Go.Proofs.YtogainbkidgkhaaW.PrintLast Go.Proofs.YtogainbkidgkhaaW.PrintMore Go.Proofs.Ytogainbkidgkhaa.Q12f

abbrev R := S25
abbrev rdR := rd_T25
theorem rd_at (pre : List R) (x : R) (t : List R) : rdR (pre ++ x :: t) (pre.length : Int) = x := by
  simp [rdR, rd_T25]
theorem wr {x : Int} (h0 : -9223372036854775808 ≤ x) (h1 : x < 9223372036854775808) : wrap64 x = x := by unfold wrap64; omega
/-- The rest of a division that goes down. -/
def flo (x a : Int) : Int × Int × Int := if a < 1 then (0, 0, 1) else if Int.tmod x a < 0 then (wrap64 (wrap64 (Int.tdiv x a) - 1), wrap64 (Int.tmod x a + a), 0) else (wrap64 (Int.tdiv x a), Int.tmod x a, 0)
theorem Floor_f (x a : Int) : num_Floor.f x a = some (flo x a) := by
  unfold num_Floor.f flo
  by_cases h : a < 1
  · simp [h]
  · have : a ≠ 0 := by omega
    simp [h, this]
    split <;> rfl
theorem refFloor_f (x a : Int) : watershedref01_Floor.f x a = some (flo x a) := Floor_f x a
def oneF (kd a b : Int) (x : R) : Int × Int × Bool :=
  if kd = 3 then (x.f0, wrap64 (wrap64 (a * x.f1) + b), true)
  else if kd = 4 then (if (flo x.f1 a).2.2 = 0 then (if (flo x.f1 a).2.1 = b then (x.f0, x.f1, true) else (0, 0, false)) else (0, 0, false))
  else if kd = 5 then (x.f1, x.f0, true)
  else if kd = 6 then (if (flo x.f1 a).2.2 = 0 then ((flo x.f1 a).2.1, x.f1, true) else (0, 0, false))
  else (x.f0, x.f1, true)
theorem refOne_f (nm : ByteArray) (kd c d a b : Int) (x : R) : watershedref12_One.f nm kd c d a b x.f0 x.f1 = some (oneF kd a b x) := by
  unfold watershedref12_One.f oneF
  simp only [refFloor_f, Option.bind_some]
  repeat' split
  all_goals rfl
theorem One_f (k : Nat) (nm : ByteArray) (kd c d a b : Int) (x : R) : oper_One.f (k + 5) nm kd c d a b x.f0 x.f1 = some (oneF kd a b x) := by
  unfold oper_One.f oneF
  by_cases h3 : kd = 3
  · simp [h3]
  · by_cases h5 : kd = 5
    · simp [h5]
    · by_cases h4 : kd = 4
      · subst h4
        simp [oper_One.j0, oper_One.j1, Floor_f]
        by_cases g : (flo x.f1 a).2.2 = 0
        · by_cases g2 : (flo x.f1 a).2.1 = b <;> simp [g, g2]
        · simp [g]
      · by_cases h6 : kd = 6
        · subst h6
          simp [oper_One.j0, oper_One.j1, Floor_f]
          by_cases g : (flo x.f1 a).2.2 = 0 <;> simp [g]
        · have : (kd == 6) = false := beq_eq_false_iff_ne.mpr h6
          simp [h3, h4, h5, h6, this, oper_One.j0]
def eachF (kd a b : Int) : List R → List R
  | [] => []
  | x :: t => if (oneF kd a b x).2.2 = true then ⟨(oneF kd a b x).1, (oneF kd a b x).2.1⟩ :: eachF kd a b t else eachF kd a b t
theorem eachF_append (kd a b : Int) : ∀ l m : List R, eachF kd a b (l ++ m) = eachF kd a b l ++ eachF kd a b m
  | [], m => rfl
  | x :: t, m => by
    rw [List.cons_append, eachF, eachF, eachF_append kd a b t m]
    split <;> rfl
theorem eachF_length (kd a b : Int) : ∀ l : List R, (eachF kd a b l).length ≤ l.length
  | [] => Nat.le_refl _
  | x :: t => by
    have := eachF_length kd a b t
    rw [eachF]
    split <;> simp <;> omega
theorem Each_l (nm : ByteArray) (kd c d a b : Int) (l : List R) (hl : l.length ≤ 1000000000) : ∀ (xs pre acc : List R) (k : Nat), l = pre ++ xs → acc.length ≤ pre.length → xs.length + 8 ≤ k →
    oper_Each.l0 k acc l (l.length : Int) (pre.length : Int) nm kd c d a b = some (acc ++ eachF kd a b xs)
  | [], pre, acc, k, h, ha, hk => by
    subst h
    obtain ⟨k, rfl⟩ : ∃ j, k = j + 1 := ⟨k - 1, by omega⟩
    simp [oper_Each.l0, eachF]
  | x :: t, pre, acc, k, h, ha, hk => by
    have hlen : l.length = pre.length + (t.length + 1) := by rw [h, List.length_append, List.length_cons]
    obtain ⟨k, rfl⟩ : ∃ j, k = j + 6 := ⟨k - 6, by simp only [List.length_cons] at hk; omega⟩
    have hx : rdR l (pre.length : Int) = x := by rw [h]; exact rd_at pre x t
    have ih := fun acc' ha' => Each_l nm kd c d a b l hl t (pre ++ [x]) acc' (k + 5) (by rw [h]; simp) ha' (by simp only [List.length_cons] at hk; omega)
    have hw : wrap64 ((pre.length : Int) + 1) = ((pre ++ [x]).length : Int) := by rw [wr (by omega) (by omega)]; simp
    rw [oper_Each.l0, if_pos (by omega), if_pos (by omega), if_pos (by omega)]
    rw [show (rd_T25 l (pre.length : Int)) = x from hx, One_f k, Option.bind_some, hw]
    by_cases g : (oneF kd a b x).2.2 = true
    · rw [if_pos g, if_pos (by omega), ih _ (by simp; omega), eachF, if_pos g]
      simp
    · rw [if_neg g, ih _ (by simp; omega), eachF, if_neg g]
theorem Each_f (k : Nat) (nm : ByteArray) (kd c d a b : Int) (l : List R) (hl : l.length + 8 ≤ k) (hb : l.length ≤ 1000000000) : oper_Each.f k nm kd c d a b l = some (eachF kd a b l) :=
  Each_l nm kd c d a b l hb l [] [] k rfl (Nat.le_refl _) hl
theorem refEach_l (nm : ByteArray) (kd c d a b : Int) (l : List R) (hl : l.length ≤ 1000000000) : ∀ (xs pre acc : List R) (k : Nat), l = pre ++ xs → acc.length ≤ pre.length → xs.length + 8 ≤ k →
    watershedref12_Each.l0 k l acc (pre.length : Int) nm kd c d a b = some (acc ++ eachF kd a b xs)
  | [], pre, acc, k, h, ha, hk => by
    subst h
    obtain ⟨k, rfl⟩ : ∃ j, k = j + 1 := ⟨k - 1, by omega⟩
    simp [watershedref12_Each.l0, eachF]
  | x :: t, pre, acc, k, h, ha, hk => by
    have hlen : l.length = pre.length + (t.length + 1) := by rw [h, List.length_append, List.length_cons]
    obtain ⟨k, rfl⟩ : ∃ j, k = j + 6 := ⟨k - 6, by simp only [List.length_cons] at hk; omega⟩
    have hx : rdR l (pre.length : Int) = x := by rw [h]; exact rd_at pre x t
    have ih := fun acc' ha' => refEach_l nm kd c d a b l hl t (pre ++ [x]) acc' (k + 5) (by rw [h]; simp) ha' (by simp only [List.length_cons] at hk; omega)
    have hw : wrap64 ((pre.length : Int) + 1) = ((pre ++ [x]).length : Int) := by rw [wr (by omega) (by omega)]; simp
    rw [watershedref12_Each.l0, if_pos (by omega), if_pos (by omega)]
    rw [show (rd_T25 l (pre.length : Int)) = x from hx, refOne_f, Option.bind_some, hw]
    by_cases g : (oneF kd a b x).2.2 = true
    · rw [if_pos g, if_pos (by omega), ih _ (by simp; omega), eachF, if_pos g]
      simp
    · rw [if_neg g, ih _ (by simp; omega), eachF, if_neg g]
theorem refEach_f (k : Nat) (nm : ByteArray) (kd c d a b : Int) (l : List R) (hl : l.length + 8 ≤ k) (hb : l.length ≤ 1000000000) : watershedref12_Each.f k nm kd c d a b l = some (eachF kd a b l) :=
  refEach_l nm kd c d a b l hb l [] [] k rfl (Nat.le_refl _) hl
theorem Alike_l (l : List R) (hl : l.length ≤ 1000000000) : ∀ (d : Nat) (k : Nat) (i : Int), 0 ≤ i → i + d = l.length → d < k → watershedref11_Alike.l0 k l l i = some true
  | 0, k + 1, i, h0, hd, _ => by rw [watershedref11_Alike.l0, if_neg (by omega)]
  | d + 1, k + 1, i, h0, hd, hk => by
    rw [watershedref11_Alike.l0, if_pos (by omega), if_pos h0, if_pos (by omega), if_neg (by simp), wr (by omega) (by omega)]
    exact Alike_l l hl d k (i + 1) (by omega) (by omega) (by omega)
theorem Alike_f (k : Nat) (l : List R) (hk : l.length < k) (hl : l.length ≤ 1000000000) : watershedref11_Alike.f k l l = some true := by
  unfold watershedref11_Alike.f
  rw [if_pos rfl]
  exact Alike_l l hl l.length k 0 (by omega) (by omega) hk
theorem own_f (l : List R) (hl : l.length < 8796093022208) : watershedlaw12_own.f l = some l := by
  unfold watershedlaw12_own.f
  simp [hl]
theorem Keeps_f (x : Int) : oper_Keeps.f x = some (decide (11 ≤ x ∧ x ≤ 14)) := by
  unfold oper_Keeps.f
  by_cases h : 11 ≤ x ∧ x ≤ 14
  · obtain rfl | rfl | rfl | rfl : x = 11 ∨ x = 12 ∨ x = 13 ∨ x = 14 := by omega
    all_goals simp
  · rw [if_neg (by omega), if_neg (by omega), if_neg (by omega), if_neg (by omega), decide_eq_false h]
theorem refKeeps_f (x : Int) : watershedref12_Keeps.f x = some (decide (11 ≤ x ∧ x ≤ 14)) := by
  unfold watershedref12_Keeps.f
  by_cases h : x ≥ 11
  · rw [if_pos h]
    congr 1
    exact decide_eq_decide.2 (by omega)
  · rw [if_neg h, decide_eq_false (by omega)]
theorem To_f (nm : ByteArray) (kd c d a b : Int) : watershedlaw12_To.f nm kd c d a b = some (nm, kd, c, d, a, b) := rfl

abbrev O6 := ByteArray × Int × Int × Int × Int × Int
def kO : Kd O6 := Kd.pair Kd.string (Kd.pair (Kd.int .i64) (Kd.pair (Kd.int .i64) (Kd.pair (Kd.int .i64) (Kd.pair (Kd.int .i64) (Kd.int .i64)))))
theorem opens_O : Open.Opens Try.prog 23 kO (fun _ => True) :=
  Open.Opens.imp (Open.opens_struct Try.underlying23 (by kernel_rfl)
    (Open.opensF_cons (by kernel_rfl) (by rfl) (Open.opens_string (P := Try.prog) (by kernel_rfl))
    (Open.opensF_cons (by kernel_rfl) (by rfl) (Open.opens_int (P := Try.prog) (k := .i64) (by kernel_rfl))
    (Open.opensF_cons (by kernel_rfl) (by rfl) (Open.opens_int (P := Try.prog) (k := .i64) (by kernel_rfl))
    (Open.opensF_cons (by kernel_rfl) (by rfl) (Open.opens_int (P := Try.prog) (k := .i64) (by kernel_rfl))
    (Open.opensF_cons (by kernel_rfl) (by rfl) (Open.opens_int (P := Try.prog) (k := .i64) (by kernel_rfl))
    (Open.opensF_last (by kernel_rfl) (Open.opens_int (P := Try.prog) (k := .i64) (by kernel_rfl)))))))))
    (fun _ _ => trivial)
theorem kO_open {w : World} {x : O6} {cs : List Value} (h : kO.K w x cs) : cs = [.string x.1, .int .i64 x.2.1, .int .i64 x.2.2.1, .int .i64 x.2.2.2.1, .int .i64 x.2.2.2.2.1, .int .i64 x.2.2.2.2.2] := by
  obtain ⟨_, _, rfl, rfl, _, _, rfl, rfl, _, _, rfl, rfl, _, _, rfl, rfl, _, _, rfl, rfl, rfl⟩ := h
  rfl
theorem opens_R : Open.Opens Try.prog 25 k25 (fun _ => True) :=
  Open.Opens.imp (Open.Opens.iso (Open.opens_struct Try.underlying25 (by kernel_rfl)
    (Open.opensF_cons (by kernel_rfl) (by rfl) (Open.opens_int (P := Try.prog) (k := .i64) (by kernel_rfl))
      (Open.opensF_last (by kernel_rfl) (Open.opens_int (P := Try.prog) (k := .i64) (by kernel_rfl))))) (fun x : R => (x.f0, x.f1)) (fun t => ⟨t.1, t.2⟩) (fun _ => rfl)) (fun _ _ => trivial)
theorem kR_open {w : World} {x : R} {cs : List Value} (h : k25.K w x cs) : cs = [.int .i64 x.f0, .int .i64 x.f1] := by
  obtain ⟨_, _, rfl, rfl, rfl⟩ := h
  rfl
end Go.Proofs.Ytogainbkidgkhaa.P12
