/- Plain laws of the operations on intervals: orders of arguments, negatives, 1, squares; common parts, hulls, middles, signs. No program here. -/
import Derived.Test.YthhkcfpljgdnhaaPl
namespace Mnc
open Go

theorem on2_comm {f : Int × Int → Int × Int → (Int × Int) × Int} (h : ∀ a b, f a b = f b a) (a b : Int × Int) : on2 f a b = on2 f b a := by
  unfold on2
  rw [h a b]
  by_cases k : okS a ∧ okS b
  · rw [if_pos k, if_pos k.symm]
  · rw [if_neg k, if_neg (fun g => k g.symm)]
theorem sAdd_comm (a b : Int × Int) : sAdd a b = sAdd b a := on2_comm (fun a b => by rw [Int.add_comm a.1, Int.add_comm a.2]) a b
theorem fl_one (x : Int) : fl (x * 4294967296) = x := by rw [fl_def]; omega
theorem cl_one (x : Int) : cl (x * 4294967296) = x := by rw [cl_def]; omega
theorem okS_one : okS (4294967296, 4294967296) := by decide
theorem sMul_one {a : Int × Int} (h : okS a) : sMul a (4294967296, 4294967296) = (a, 0) := by
  have e : sMul a (4294967296, 4294967296) = _ := on2_ok h okS_one
  rw [e]
  simp only [fl_one, cl_one]
  obtain ⟨h1, h2, h3⟩ := h
  rw [show min4 a.1 a.1 a.2 a.2 = a.1 by unfold min4; omega, show max4 a.1 a.1 a.2 a.2 = a.2 by unfold max4; omega, sT_ok h1 h3]
theorem sAbs_val {a : Int × Int} (h : okS a) : (sAbs a).1 = (max (max a.1 (-a.2)) 0, max a.2 (-a.1)) := by
  have e : sAbs a = _ := on1_ok h
  rw [e]
/-- Powers of an interval within an interval. -/
theorem pow_nn {x : Int} (h : 0 ≤ x) (n : Nat) : 0 ≤ x ^ n := by
  induction n with
  | zero => simp
  | succ n ih => rw [Int.pow_succ]; exact Int.mul_nonneg ih h
theorem pow_le_pos {x y : Int} (h0 : 0 ≤ x) (h : x ≤ y) (n : Nat) : x ^ n ≤ y ^ n := by
  induction n with
  | zero => simp
  | succ n ih =>
    rw [Int.pow_succ, Int.pow_succ]
    exact Int.mul_le_mul ih h h0 (pow_nn (by omega) n)
theorem pow_one' (x : Int) : x ^ (2 * 0 + 1) = x := by
  rw [show 2 * 0 + 1 = 0 + 1 from rfl, Int.pow_succ, Int.pow_zero, Int.one_mul]
theorem neg_pow_odd (x : Int) (k : Nat) : (-x) ^ (2 * k + 1) = -(x ^ (2 * k + 1)) := by
  induction k with
  | zero => rw [pow_one', pow_one']
  | succ k ih =>
    rw [show 2 * (k + 1) + 1 = (2 * k + 1) + 1 + 1 by omega, Int.pow_succ (-x), Int.pow_succ (-x), ih, Int.pow_succ x (2 * k + 1 + 1), Int.pow_succ x (2 * k + 1)]
    simp only [Int.neg_mul, Int.mul_neg, Int.neg_neg]
theorem pow_le_odd {x y : Int} (h : x ≤ y) (k : Nat) : x ^ (2 * k + 1) ≤ y ^ (2 * k + 1) := by
  by_cases hx : 0 ≤ x
  · exact pow_le_pos hx h _
  · by_cases hy : 0 ≤ y
    · have h1 := pow_nn (x := -x) (by omega) (2 * k + 1)
      rw [neg_pow_odd] at h1
      have h2 := pow_nn hy (2 * k + 1)
      omega
    · have h1 := pow_le_pos (x := -y) (y := -x) (by omega) (by omega) (2 * k + 1)
      rw [neg_pow_odd, neg_pow_odd] at h1
      omega
theorem rnd_up_mono (up : Bool) {x y d : Int} (hd : 0 < d) (h : x ≤ y) : rnd up x d ≤ rnd up y d := by
  cases up
  · exact Int.ediv_le_ediv hd h
  · have := Int.ediv_le_ediv (a := -y) (b := -x) hd (by omega)
    show -((-x) / d) ≤ -((-y) / d)
    omega
theorem pw_in {a b : Int × Int} (n : Nat) (h1 : b.1 ^ n ≤ a.1 ^ n) (h2 : a.2 ^ n ≤ b.2 ^ n) : rIn (pw a n) (pw b n) :=
  rIn_sT (rnd_up_mono _ (Int.pow_pos (by decide)) h1) (rnd_up_mono _ (Int.pow_pos (by decide)) h2)
theorem sPow_narrow {a a' : Int × Int} (ha : okS a) (ha' : okS a') (h : sIn a' a) (k : Int) : rIn (sPow a' k) (sPow a k) := by
  unfold sPow
  rw [if_pos ha, if_pos ha']
  by_cases h1 : k < 0 ∨ 16 < k
  · rw [if_pos h1, if_pos h1]
    intro g
    simp at g
  · rw [if_neg h1, if_neg h1]
    by_cases h2 : k = 0
    · rw [if_pos h2, if_pos h2]
      exact rIn_zero (Int.le_refl _) (Int.le_refl _)
    · rw [if_neg h2, if_neg h2]
      obtain ⟨a1, a2, a3⟩ := ha
      obtain ⟨b1, b2, b3⟩ := ha'
      obtain ⟨i1, i2⟩ := h
      by_cases h3 : k % 2 = 0
      · rw [if_pos h3, if_pos h3]
        rw [sAbs_val ⟨a1, a2, a3⟩, sAbs_val ⟨b1, b2, b3⟩]
        exact pw_in _ (pow_le_pos (by simp only; omega) (by simp only; omega) _) (pow_le_pos (by simp only; omega) (by simp only; omega) _)
      · rw [if_neg h3, if_neg h3]
        obtain ⟨m, hm⟩ : ∃ m, k.toNat = 2 * m + 1 := ⟨k.toNat / 2, by omega⟩
        rw [hm]
        exact pw_in _ (pow_le_odd i1 m) (pow_le_odd i2 m)
end Mnc
