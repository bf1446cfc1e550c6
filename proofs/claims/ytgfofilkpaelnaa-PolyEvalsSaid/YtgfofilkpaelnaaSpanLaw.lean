/- Plain: intervals within intervals. No program here. -/
import Derived.Test.YtgfofilkpaelnaaSpanMath
namespace Mnc
open Go

/-- An interval within another one. -/
def sIn (s t : Int × Int) : Prop := t.1 ≤ s.1 ∧ s.2 ≤ t.2
instance (s t : Int × Int) : Decidable (sIn s t) := by unfold sIn; exact inferInstance
/-- A result within another one, if there is one. -/
def rIn (r q : (Int × Int) × Int) : Prop := q.2 = 0 → r.2 = 0 ∧ sIn r.1 q.1

theorem rIn_sT {lo hi lo' hi' : Int} (h1 : lo ≤ lo') (h2 : hi' ≤ hi) : rIn (sT lo' hi') (sT lo hi) := by
  intro h0
  by_cases k : -4503599627370496 ≤ lo ∧ hi ≤ 4503599627370496
  · rw [sT_ok k.1 k.2, sT_ok (by omega) (by omega)]
    exact ⟨rfl, h1, h2⟩
  · rw [sT_bad k] at h0
    exact absurd h0 (by decide)

theorem fl_mono {x y : Int} (h : x ≤ y) : fl x ≤ fl y := by rw [fl_def, fl_def]; omega
theorem cl_mono {x y : Int} (h : x ≤ y) : cl x ≤ cl y := by rw [cl_def, cl_def]; omega

theorem mul_lo {a b : Int × Int} {x y : Int} (hx : a.1 ≤ x ∧ x ≤ a.2) (hy : b.1 ≤ y ∧ y ≤ b.2) : ∃ u v, (u = a.1 ∨ u = a.2) ∧ (v = b.1 ∨ v = b.2) ∧ u * v ≤ x * y := by
  obtain ⟨u, hu, h1⟩ : ∃ u, (u = a.1 ∨ u = a.2) ∧ u * y ≤ x * y := by
    rcases Int.le_total 0 y with h | h
    · exact ⟨a.1, .inl rfl, Int.mul_le_mul_of_nonneg_right hx.1 h⟩
    · exact ⟨a.2, .inr rfl, Int.mul_le_mul_of_nonpos_right hx.2 h⟩
  obtain ⟨v, hv, h2⟩ : ∃ v, (v = b.1 ∨ v = b.2) ∧ u * v ≤ u * y := by
    rcases Int.le_total 0 u with h | h
    · exact ⟨b.1, .inl rfl, Int.mul_le_mul_of_nonneg_left hy.1 h⟩
    · exact ⟨b.2, .inr rfl, Int.mul_le_mul_of_nonpos_left h hy.2⟩
  exact ⟨u, v, hu, hv, Int.le_trans h2 h1⟩
theorem mul_hi {a b : Int × Int} {x y : Int} (hx : a.1 ≤ x ∧ x ≤ a.2) (hy : b.1 ≤ y ∧ y ≤ b.2) : ∃ u v, (u = a.1 ∨ u = a.2) ∧ (v = b.1 ∨ v = b.2) ∧ x * y ≤ u * v := by
  obtain ⟨u, v, hu, hv, h⟩ := mul_lo (a := (-a.2, -a.1)) (x := -x) ⟨by simp; omega, by simp; omega⟩ hy
  refine ⟨-u, v, by simp at hu; omega, hv, ?_⟩
  rw [Int.neg_mul] at h ⊢
  omega
theorem mul_min {a b : Int × Int} {x y : Int} (hx : a.1 ≤ x ∧ x ≤ a.2) (hy : b.1 ≤ y ∧ y ≤ b.2) : min4 (a.1 * b.1) (a.1 * b.2) (a.2 * b.1) (a.2 * b.2) ≤ x * y := by
  obtain ⟨u, v, hu, hv, h⟩ := mul_lo hx hy
  unfold min4
  rcases hu with rfl | rfl <;> rcases hv with rfl | rfl <;> omega
theorem mul_max {a b : Int × Int} {x y : Int} (hx : a.1 ≤ x ∧ x ≤ a.2) (hy : b.1 ≤ y ∧ y ≤ b.2) : x * y ≤ max4 (a.1 * b.1) (a.1 * b.2) (a.2 * b.1) (a.2 * b.2) := by
  obtain ⟨u, v, hu, hv, h⟩ := mul_hi hx hy
  unfold max4
  rcases hu with rfl | rfl <;> rcases hv with rfl | rfl <;> omega
theorem fl_min4 {p q r s z : Int} (h : min4 p q r s ≤ z) : min4 (fl p) (fl q) (fl r) (fl s) ≤ fl z := by
  unfold min4 at *
  simp only [fl_def]
  omega
theorem cl_max4 {p q r s z : Int} (h : z ≤ max4 p q r s) : cl z ≤ max4 (cl p) (cl q) (cl r) (cl s) := by
  unfold max4 at *
  simp only [cl_def]
  omega

theorem sMul_narrow {a b a' b' : Int × Int} (ha : okS a) (hb : okS b) (ha' : okS a') (hb' : okS b') (h : sIn a' a) (k : sIn b' b) : rIn (sMul a' b') (sMul a b) := by
  rw [sMul, on2_ok ha hb, on2_ok ha' hb']
  unfold sIn at h k
  unfold okS at ha' hb'
  refine rIn_sT ?_ ?_
  · have h1 := fl_min4 (mul_min (a := a) (b := b) (x := a'.1) (y := b'.1) ⟨by omega, by omega⟩ ⟨by omega, by omega⟩)
    have h2 := fl_min4 (mul_min (a := a) (b := b) (x := a'.1) (y := b'.2) ⟨by omega, by omega⟩ ⟨by omega, by omega⟩)
    have h3 := fl_min4 (mul_min (a := a) (b := b) (x := a'.2) (y := b'.1) ⟨by omega, by omega⟩ ⟨by omega, by omega⟩)
    have h4 := fl_min4 (mul_min (a := a) (b := b) (x := a'.2) (y := b'.2) ⟨by omega, by omega⟩ ⟨by omega, by omega⟩)
    generalize min4 (fl (a.1 * b.1)) (fl (a.1 * b.2)) (fl (a.2 * b.1)) (fl (a.2 * b.2)) = m at *
    unfold min4
    omega
  · have h1 := cl_max4 (mul_max (a := a) (b := b) (x := a'.1) (y := b'.1) ⟨by omega, by omega⟩ ⟨by omega, by omega⟩)
    have h2 := cl_max4 (mul_max (a := a) (b := b) (x := a'.1) (y := b'.2) ⟨by omega, by omega⟩ ⟨by omega, by omega⟩)
    have h3 := cl_max4 (mul_max (a := a) (b := b) (x := a'.2) (y := b'.1) ⟨by omega, by omega⟩ ⟨by omega, by omega⟩)
    have h4 := cl_max4 (mul_max (a := a) (b := b) (x := a'.2) (y := b'.2) ⟨by omega, by omega⟩ ⟨by omega, by omega⟩)
    generalize max4 (cl (a.1 * b.1)) (cl (a.1 * b.2)) (cl (a.2 * b.1)) (cl (a.2 * b.2)) = m at *
    unfold max4
    omega

theorem sAdd_narrow {a b a' b' : Int × Int} (ha : okS a) (hb : okS b) (ha' : okS a') (hb' : okS b') (h : sIn a' a) (k : sIn b' b) : rIn (sAdd a' b') (sAdd a b) := by
  rw [sAdd, on2_ok ha hb, on2_ok ha' hb']
  unfold sIn at h k
  exact rIn_sT (by omega) (by omega)
theorem sSub_narrow {a b a' b' : Int × Int} (ha : okS a) (hb : okS b) (ha' : okS a') (hb' : okS b') (h : sIn a' a) (k : sIn b' b) : rIn (sSub a' b') (sSub a b) := by
  rw [sSub, on2_ok ha hb, on2_ok ha' hb']
  unfold sIn at h k
  exact rIn_sT (by omega) (by omega)

theorem ediv_anti {x y z : Int} (hx : 0 ≤ x) (hy : 0 < y) (h : y ≤ z) : x / z ≤ x / y := by
  rw [Int.le_ediv_iff_mul_le hy]
  have h1 := Int.ediv_mul_le x (show z ≠ 0 by omega)
  have h2 : 0 ≤ x / z := Int.ediv_nonneg hx (by omega)
  have h3 := Int.mul_le_mul_of_nonneg_left h h2
  omega
theorem ediv_mono_neg {x y z : Int} (hx : x ≤ 0) (hy : 0 < y) (h : y ≤ z) : x / y ≤ x / z := by
  rw [Int.le_ediv_iff_mul_le (show 0 < z by omega)]
  have h1 := Int.ediv_mul_le x (show y ≠ 0 by omega)
  have h2 : x / y ≤ 0 := by
    have := Int.ediv_le_ediv hy hx
    rwa [Int.zero_ediv] at this
  have h3 := Int.mul_le_mul_of_nonpos_left h2 h
  omega
theorem ediv_corner {x1 x2 y1 y2 x y : Int} (h0 : 0 < y1) (hy : y1 ≤ y ∧ y ≤ y2) (hx : x1 ≤ x ∧ x ≤ x2) : min4 (x1 / y1) (x1 / y2) (x2 / y1) (x2 / y2) ≤ x / y ∧ x / y ≤ max4 (x1 / y1) (x1 / y2) (x2 / y1) (x2 / y2) := by
  have hl := Int.ediv_le_ediv (show 0 < y by omega) hx.1
  have hr := Int.ediv_le_ediv (show 0 < y by omega) hx.2
  constructor
  · rcases Int.le_total 0 x1 with h | h
    · have := ediv_anti h (show 0 < y by omega) hy.2
      unfold min4
      omega
    · have := ediv_mono_neg h h0 hy.1
      unfold min4
      omega
  · rcases Int.le_total 0 x2 with h | h
    · have := ediv_anti h h0 hy.1
      unfold max4
      omega
    · have := ediv_mono_neg h (show 0 < y by omega) hy.2
      unfold max4
      omega
theorem rnd_corner (up : Bool) {x1 x2 y1 y2 x y : Int} (h0 : 0 < y1) (hy : y1 ≤ y ∧ y ≤ y2) (hx : x1 ≤ x ∧ x ≤ x2) : min4 (rnd up x1 y1) (rnd up x1 y2) (rnd up x2 y1) (rnd up x2 y2) ≤ rnd up x y ∧ rnd up x y ≤ max4 (rnd up x1 y1) (rnd up x1 y2) (rnd up x2 y1) (rnd up x2 y2) := by
  cases up
  · exact ediv_corner h0 hy hx
  · have h := ediv_corner (x1 := -x2) (x2 := -x1) (x := -x) h0 hy ⟨by omega, by omega⟩
    unfold rnd
    simp only [if_true]
    unfold min4 max4 at *
    omega
theorem dv_pos (up : Bool) (x : Int) {y : Int} (h : 0 < y) : dv up x y = rnd up (x * 4294967296) y := by
  unfold dv
  rw [if_neg (by omega), show ((y.natAbs : Nat) : Int) = y by omega]
theorem dv_neg (up : Bool) (x : Int) {y : Int} (h : y < 0) : dv up x y = rnd up (-x * 4294967296) (-y) := by
  unfold dv
  rw [if_pos h, show ((y.natAbs : Nat) : Int) = -y by omega, Int.neg_mul]
theorem dv_corner (up : Bool) {a b : Int × Int} {x y : Int} (hz : ¬ (b.1 ≤ 0 ∧ 0 ≤ b.2)) (hy : b.1 ≤ y ∧ y ≤ b.2) (hx : a.1 ≤ x ∧ x ≤ a.2) :
    min4 (dv up a.1 b.1) (dv up a.1 b.2) (dv up a.2 b.1) (dv up a.2 b.2) ≤ dv up x y ∧ dv up x y ≤ max4 (dv up a.1 b.1) (dv up a.1 b.2) (dv up a.2 b.1) (dv up a.2 b.2) := by
  rcases Int.lt_or_le 0 b.1 with h | h
  · rw [dv_pos _ _ h, dv_pos _ _ (show 0 < b.2 by omega), dv_pos _ _ (show 0 < y by omega), dv_pos _ _ h, dv_pos _ _ (show 0 < b.2 by omega)]
    exact rnd_corner up h hy ⟨by omega, by omega⟩
  · rw [dv_neg _ _ (show b.1 < 0 by omega), dv_neg _ _ (show b.2 < 0 by omega), dv_neg _ _ (show y < 0 by omega), dv_neg _ _ (show b.1 < 0 by omega), dv_neg _ _ (show b.2 < 0 by omega)]
    have := rnd_corner up (x1 := -a.2 * 4294967296) (x2 := -a.1 * 4294967296) (y1 := -b.2) (y2 := -b.1) (x := -x * 4294967296) (y := -y) (by omega) ⟨by omega, by omega⟩ ⟨by omega, by omega⟩
    unfold min4 max4 at *
    omega
theorem sDiv_narrow {a b a' b' : Int × Int} (ha : okS a) (hb : okS b) (ha' : okS a') (hb' : okS b') (h : sIn a' a) (k : sIn b' b) : rIn (sDiv a' b') (sDiv a b) := by
  rw [sDiv, on2_ok ha hb, on2_ok ha' hb']
  unfold sIn at h k
  unfold okS at ha' hb'
  by_cases hz : b.1 ≤ 0 ∧ 0 ≤ b.2
  · rw [if_pos hz]
    intro h0
    exact absurd h0 (by decide)
  · rw [if_neg hz, if_neg (by omega)]
    refine rIn_sT ?_ ?_
    · have h1 := (dv_corner false (a := a) (b := b) (x := a'.1) (y := b'.1) hz ⟨by omega, by omega⟩ ⟨by omega, by omega⟩).1
      have h2 := (dv_corner false (a := a) (b := b) (x := a'.1) (y := b'.2) hz ⟨by omega, by omega⟩ ⟨by omega, by omega⟩).1
      have h3 := (dv_corner false (a := a) (b := b) (x := a'.2) (y := b'.1) hz ⟨by omega, by omega⟩ ⟨by omega, by omega⟩).1
      have h4 := (dv_corner false (a := a) (b := b) (x := a'.2) (y := b'.2) hz ⟨by omega, by omega⟩ ⟨by omega, by omega⟩).1
      generalize min4 (dv false a.1 b.1) (dv false a.1 b.2) (dv false a.2 b.1) (dv false a.2 b.2) = m at *
      unfold min4
      omega
    · have h1 := (dv_corner true (a := a) (b := b) (x := a'.1) (y := b'.1) hz ⟨by omega, by omega⟩ ⟨by omega, by omega⟩).2
      have h2 := (dv_corner true (a := a) (b := b) (x := a'.1) (y := b'.2) hz ⟨by omega, by omega⟩ ⟨by omega, by omega⟩).2
      have h3 := (dv_corner true (a := a) (b := b) (x := a'.2) (y := b'.1) hz ⟨by omega, by omega⟩ ⟨by omega, by omega⟩).2
      have h4 := (dv_corner true (a := a) (b := b) (x := a'.2) (y := b'.2) hz ⟨by omega, by omega⟩ ⟨by omega, by omega⟩).2
      generalize max4 (dv true a.1 b.1) (dv true a.1 b.2) (dv true a.2 b.1) (dv true a.2 b.2) = m at *
      unfold max4
      omega

theorem rIn_zero {p q p' q' : Int} (h1 : p ≤ p') (h2 : q' ≤ q) : rIn ((p', q'), 0) ((p, q), 0) := fun _ => ⟨rfl, h1, h2⟩
theorem sMin_narrow {a b a' b' : Int × Int} (ha : okS a) (hb : okS b) (ha' : okS a') (hb' : okS b') (h : sIn a' a) (k : sIn b' b) : rIn (sMin a' b') (sMin a b) := by
  rw [sMin, on2_ok ha hb, on2_ok ha' hb']
  unfold sIn at h k
  exact rIn_zero (by omega) (by omega)
theorem sMax_narrow {a b a' b' : Int × Int} (ha : okS a) (hb : okS b) (ha' : okS a') (hb' : okS b') (h : sIn a' a) (k : sIn b' b) : rIn (sMax a' b') (sMax a b) := by
  rw [sMax, on2_ok ha hb, on2_ok ha' hb']
  unfold sIn at h k
  exact rIn_zero (by omega) (by omega)
theorem sHull_narrow {a b a' b' : Int × Int} (ha : okS a) (hb : okS b) (ha' : okS a') (hb' : okS b') (h : sIn a' a) (k : sIn b' b) : rIn (sHull a' b') (sHull a b) := by
  rw [sHull, on2_ok ha hb, on2_ok ha' hb']
  unfold sIn at h k
  exact rIn_zero (by omega) (by omega)
theorem sAbs_narrow {a a' : Int × Int} (ha : okS a) (ha' : okS a') (h : sIn a' a) : rIn (sAbs a') (sAbs a) := by
  rw [sAbs, on1_ok ha, on1_ok ha']
  unfold sIn at h
  unfold okS at ha ha'
  refine rIn_zero ?_ ?_
  · have : max a.1 (-a.2) ≤ max a'.1 (-a'.2) := by omega
    omega
  · omega
end Mnc
