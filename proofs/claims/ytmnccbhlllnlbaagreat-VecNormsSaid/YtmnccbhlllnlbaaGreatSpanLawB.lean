/- Plain laws of the operations on intervals: orders of arguments, negatives, 1, squares; common parts, hulls, middles, signs. No program here. -/
import Derived.Test.YtmnccbhlllnlbaaGreatPl
namespace Mnc
open Go

theorem on2_comm {f : Int × Int → Int × Int → (Int × Int) × Int} (h : ∀ a b, f a b = f b a) (a b : Int × Int) : on2 f a b = on2 f b a := by
  unfold on2
  rw [h a b]
  by_cases k : okS a ∧ okS b
  · rw [if_pos k, if_pos k.symm]
  · rw [if_neg k, if_neg (fun g => k g.symm)]
theorem sAdd_comm (a b : Int × Int) : sAdd a b = sAdd b a := on2_comm (fun a b => by rw [Int.add_comm a.1, Int.add_comm a.2]) a b
theorem sMin_comm (a b : Int × Int) : sMin a b = sMin b a := on2_comm (fun a b => by rw [Int.min_comm a.1, Int.min_comm a.2]) a b
theorem sMax_comm (a b : Int × Int) : sMax a b = sMax b a := on2_comm (fun a b => by rw [Int.max_comm a.1, Int.max_comm a.2]) a b
theorem sHull_comm (a b : Int × Int) : sHull a b = sHull b a := on2_comm (fun a b => by rw [Int.min_comm a.1, Int.max_comm a.2]) a b
theorem sMeet_comm (a b : Int × Int) : sMeet a b = sMeet b a := on2_comm (fun a b => by rw [Int.max_comm a.1, Int.min_comm a.2]) a b
theorem min4_comm (a b c d : Int) : min4 a b c d = min4 a c b d := by unfold min4; omega
theorem max4_comm (a b c d : Int) : max4 a b c d = max4 a c b d := by unfold max4; omega
theorem sMul_comm (a b : Int × Int) : sMul a b = sMul b a := on2_comm (fun a b => by
  rw [min4_comm, max4_comm, Int.mul_comm a.1 b.1, Int.mul_comm a.2 b.1, Int.mul_comm a.1 b.2, Int.mul_comm a.2 b.2]) a b
theorem okS_neg {b : Int × Int} (h : okS b) : okS (-b.2, -b.1) := by unfold okS at *; simp only; omega
theorem sAdd_neg {a b : Int × Int} (ha : okS a) (hb : okS b) : sAdd a (-b.2, -b.1) = sSub a b := by
  have e1 : sAdd a (-b.2, -b.1) = _ := on2_ok ha (okS_neg hb)
  have e2 : sSub a b = _ := on2_ok ha hb
  rw [e1, e2]
  simp only
  rw [← Int.sub_eq_add_neg, ← Int.sub_eq_add_neg]
theorem fl_one (x : Int) : fl (x * 4294967296) = x := by rw [fl_def]; omega
theorem cl_one (x : Int) : cl (x * 4294967296) = x := by rw [cl_def]; omega
theorem okS_one : okS (4294967296, 4294967296) := by decide
theorem sMul_one {a : Int × Int} (h : okS a) : sMul a (4294967296, 4294967296) = (a, 0) := by
  have e : sMul a (4294967296, 4294967296) = _ := on2_ok h okS_one
  rw [e]
  simp only [fl_one, cl_one]
  obtain ⟨h1, h2, h3⟩ := h
  rw [show min4 a.1 a.1 a.2 a.2 = a.1 by unfold min4; omega, show max4 a.1 a.1 a.2 a.2 = a.2 by unfold max4; omega, sT_ok h1 h3]
theorem dv_one (up : Bool) (x : Int) : dv up x 4294967296 = x := by
  rw [dv_pos up x (by decide)]
  cases up
  · exact fl_one x
  · exact cl_one x
theorem sDiv_one {a : Int × Int} (h : okS a) : sDiv a (4294967296, 4294967296) = (a, 0) := by
  have e : sDiv a (4294967296, 4294967296) = _ := on2_ok h okS_one
  rw [e, if_neg (by decide)]
  simp only [dv_one]
  obtain ⟨h1, h2, h3⟩ := h
  rw [show min4 a.1 a.1 a.2 a.2 = a.1 by unfold min4; omega, show max4 a.1 a.1 a.2 a.2 = a.2 by unfold max4; omega, sT_ok h1 h3]
theorem sOf_one : sOf 4294967296 4294967296 = ((4294967296, 4294967296), 0) := by decide
theorem sPow_two {a : Int × Int} (h : okS a) : sPow a 2 = sT (fl ((sAbs a).1.1 * (sAbs a).1.1)) (cl ((sAbs a).1.2 * (sAbs a).1.2)) := by
  unfold sPow
  rw [if_pos h, if_neg (by omega), if_neg (by omega), if_pos (by omega)]
  unfold pw
  simp only [Int.reduceToNat, Nat.add_one_sub_one, Int.pow_succ, Int.pow_zero, Int.one_mul]
  rfl
theorem sAbs_val {a : Int × Int} (h : okS a) : (sAbs a).1 = (max (max a.1 (-a.2)) 0, max a.2 (-a.1)) := by
  have e : sAbs a = _ := on1_ok h
  rw [e]
theorem sSqr_in {a : Int × Int} (h : okS a) : rIn (sPow a 2) (sMul a a) := by
  have e : sMul a a = _ := on2_ok h h
  rw [sPow_two h, e, sAbs_val h]
  obtain ⟨h1, h2, h3⟩ := h
  obtain ⟨p, q⟩ := a
  simp only at h1 h2 h3 ⊢
  refine rIn_sT ?_ ?_
  · by_cases k1 : 0 ≤ p
    · rw [show max (max p (-q)) 0 = p by omega]
      unfold min4
      omega
    · by_cases k2 : q ≤ 0
      · rw [show max (max p (-q)) 0 = -q by omega, Int.neg_mul_neg]
        unfold min4
        omega
      · rw [show max (max p (-q)) 0 = 0 by omega, Int.zero_mul]
        have : p * q ≤ 0 := Int.mul_nonpos_of_nonpos_of_nonneg (by omega) (by omega)
        have := fl_mono this
        unfold min4
        omega
  · by_cases k : -p ≤ q
    · rw [show max q (-p) = q by omega]
      unfold max4
      omega
    · rw [show max q (-p) = -p by omega, Int.neg_mul_neg]
      unfold max4
      omega
/-- A number is in the common part exactly if it is in both; in the hull if it is in one. -/
theorem sHas_parts {a b : Int × Int} (ha : okS a) (hb : okS b) (n : Int) :
    (sHas (sMeet a b).1 n).2 = 0 ∧ (sHas (sHull a b).1 n).2 = 0 ∧ (((sMeet a b).2 == 0) && (sHas (sMeet a b).1 n).1) = ((sHas a n).1 && (sHas b n).1) ∧ (((sHas a n).1 || (sHas b n).1) && !(sHas (sHull a b).1 n).1) = false := by
  have e2 : sHull a b = _ := on2_ok ha hb
  have hh : okS (min a.1 b.1, max a.2 b.2) := by unfold okS at *; simp only; omega
  have e1 : sMeet a b = _ := on2_ok ha hb
  rw [e1, e2, sHas_ok hh, sHas_ok ha, sHas_ok hb]
  obtain ⟨a1, a2, a3⟩ := ha
  obtain ⟨b1, b2, b3⟩ := hb
  by_cases j : max a.1 b.1 ≤ min a.2 b.2
  · rw [if_pos j, sHas_ok (show okS (max a.1 b.1, min a.2 b.2) by unfold okS; simp only; omega)]
    refine ⟨rfl, rfl, ?_, ?_⟩
    · simp only [beq_self_eq_true, Bool.true_and, ← Bool.decide_and]
      rw [decide_eq_decide]
      omega
    · simp only [← Bool.decide_and, ← Bool.decide_or, ← decide_not]
      rw [decide_eq_false_iff_not]
      omega
  · rw [if_neg j, sHas_ok (show okS (0, 0) by decide)]
    refine ⟨rfl, rfl, ?_, ?_⟩
    · simp only [← Bool.decide_and]
      rw [show ((4 : Int) == 0) = false from rfl, Bool.false_and, eq_comm, decide_eq_false_iff_not]
      omega
    · simp only [← Bool.decide_and, ← Bool.decide_or, ← decide_not]
      rw [decide_eq_false_iff_not]
      omega
theorem sHas_zero {a : Int × Int} (h : okS a) (n : Int) : (sHas a n).2 = 0 := by rw [sHas_ok h]
theorem sHull_zero {a b : Int × Int} (ha : okS a) (hb : okS b) : (sHull a b).2 = 0 := by
  have e : sHull a b = _ := on2_ok ha hb
  rw [e]
/-- The middle splits the width in halves. -/
theorem sMid_parts {a : Int × Int} (h : okS a) : ∃ m w : Int, sMid a = (m, 0) ∧ sWidth a = (w, 0) ∧ 0 ≤ w ∧ w ≤ 9007199254740992 ∧ m - a.1 = w / 2 ∧ a.2 - m = w - w / 2 := by
  refine ⟨_, _, sNum_ok h, sNum_ok h, ?_⟩
  obtain ⟨h1, h2, h3⟩ := h
  omega
/-- Signs turn with the negative. -/
theorem sSign_parts {a : Int × Int} (h : okS a) : ∃ s t : Int, sSign a = (s, 0) ∧ sSign (-a.2, -a.1) = (t, 0) ∧ ((s = 2 ∧ t = 2) ∨ (s ≠ 2 ∧ t ≠ 2 ∧ t = -s ∧ -1 ≤ s ∧ s ≤ 1)) := by
  refine ⟨_, _, sNum_ok h, sNum_ok (okS_neg h), ?_⟩
  obtain ⟨h1, h2, h3⟩ := h
  obtain ⟨p, q⟩ := a
  simp only [Prod.mk.injEq] at *
  split <;> split <;> (try split) <;> (try split) <;> (try split) <;> omega
/-- Powers of an interval within an interval. -/
theorem pow_nn {x : Int} (h : 0 ≤ x) (n : Nat) : 0 ≤ x ^ n := by
  induction n with
  | zero => simp
  | succ n ih => rw [Int.pow_succ]; exact Int.mul_nonneg ih h
theorem pow_le_pos {x y : Int} (h0 : 0 ≤ x) (h : x ≤ y) (n : Nat) : x ^ n ≤ y ^ n := by
  induction n with
  | zero => simp
  | succ n ih =>
    rw [Int.pow_succ, Int.pow_succ]
    exact Int.mul_le_mul ih h h0 (pow_nn (by omega) n)
theorem pow_one' (x : Int) : x ^ (2 * 0 + 1) = x := by
  rw [show 2 * 0 + 1 = 0 + 1 from rfl, Int.pow_succ, Int.pow_zero, Int.one_mul]
theorem neg_pow_odd (x : Int) (k : Nat) : (-x) ^ (2 * k + 1) = -(x ^ (2 * k + 1)) := by
  induction k with
  | zero => rw [pow_one', pow_one']
  | succ k ih =>
    rw [show 2 * (k + 1) + 1 = (2 * k + 1) + 1 + 1 by omega, Int.pow_succ (-x), Int.pow_succ (-x), ih, Int.pow_succ x (2 * k + 1 + 1), Int.pow_succ x (2 * k + 1)]
    simp only [Int.neg_mul, Int.mul_neg, Int.neg_neg]
theorem pow_le_odd {x y : Int} (h : x ≤ y) (k : Nat) : x ^ (2 * k + 1) ≤ y ^ (2 * k + 1) := by
  by_cases hx : 0 ≤ x
  · exact pow_le_pos hx h _
  · by_cases hy : 0 ≤ y
    · have h1 := pow_nn (x := -x) (by omega) (2 * k + 1)
      rw [neg_pow_odd] at h1
      have h2 := pow_nn hy (2 * k + 1)
      omega
    · have h1 := pow_le_pos (x := -y) (y := -x) (by omega) (by omega) (2 * k + 1)
      rw [neg_pow_odd, neg_pow_odd] at h1
      omega
theorem rnd_up_mono (up : Bool) {x y d : Int} (hd : 0 < d) (h : x ≤ y) : rnd up x d ≤ rnd up y d := by
  cases up
  · exact Int.ediv_le_ediv hd h
  · have := Int.ediv_le_ediv (a := -y) (b := -x) hd (by omega)
    show -((-x) / d) ≤ -((-y) / d)
    omega
theorem pw_in {a b : Int × Int} (n : Nat) (h1 : b.1 ^ n ≤ a.1 ^ n) (h2 : a.2 ^ n ≤ b.2 ^ n) : rIn (pw a n) (pw b n) :=
  rIn_sT (rnd_up_mono _ (Int.pow_pos (by decide)) h1) (rnd_up_mono _ (Int.pow_pos (by decide)) h2)
theorem sPow_narrow {a a' : Int × Int} (ha : okS a) (ha' : okS a') (h : sIn a' a) (k : Int) : rIn (sPow a' k) (sPow a k) := by
  unfold sPow
  rw [if_pos ha, if_pos ha']
  by_cases h1 : k < 0 ∨ 16 < k
  · rw [if_pos h1, if_pos h1]
    intro g
    simp at g
  · rw [if_neg h1, if_neg h1]
    by_cases h2 : k = 0
    · rw [if_pos h2, if_pos h2]
      exact rIn_zero (Int.le_refl _) (Int.le_refl _)
    · rw [if_neg h2, if_neg h2]
      obtain ⟨a1, a2, a3⟩ := ha
      obtain ⟨b1, b2, b3⟩ := ha'
      obtain ⟨i1, i2⟩ := h
      by_cases h3 : k % 2 = 0
      · rw [if_pos h3, if_pos h3]
        rw [sAbs_val ⟨a1, a2, a3⟩, sAbs_val ⟨b1, b2, b3⟩]
        exact pw_in _ (pow_le_pos (by simp only; omega) (by simp only; omega) _) (pow_le_pos (by simp only; omega) (by simp only; omega) _)
      · rw [if_neg h3, if_neg h3]
        obtain ⟨m, hm⟩ : ∃ m, k.toNat = 2 * m + 1 := ⟨k.toNat / 2, by omega⟩
        rw [hm]
        exact pw_in _ (pow_le_odd i1 m) (pow_le_odd i2 m)
end Mnc
