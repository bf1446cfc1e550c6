/- Plain: what the rounded operations are, mirrored and canonical; the reference's long division and its root. No program here. -/
import Derived.Test.YtgfofilkpaelnaaFixLaw
namespace Mnc
open Go

theorem sgn_not (neg : Bool) (q : Nat × Bool) : sgn (!neg) q = (-(sgn neg q).1, (sgn neg q).2) := by
  unfold sgn
  cases neg <;> (split <;> simp)

theorem quo_zero {d : Nat} (hd : 0 < d) (away : Bool) : quo 0 d away = (0, true) := by
  unfold quo
  rw [if_neg (by simp; omega), if_neg (by simp)]
  simp

theorem sgn_zero (neg : Bool) : sgn neg (0, true) = (0, 0) := by
  rw [sgn_near neg (by omega)]
  cases neg <;> rfl

theorem sgn_bd (neg : Bool) (q : Nat × Bool) : ok (sgn neg q).1 ∧ ((sgn neg q).2 = 0 ∨ (sgn neg q).2 = 6) := by
  unfold sgn ok
  split
  · simp
  · rename_i h
    simp at h
    cases neg <;> simp <;> omega

theorem ok_neg {a : Int} : ok (-a) ↔ ok a := by unfold ok; omega
theorem ok_zero : ok 0 := by unfold ok; omega

theorem mul_bd (up : Bool) (a b : Int) : ok (mul up a b).1 := by
  unfold mul
  split
  · exact (sgn_bd _ _).1
  · exact ok_zero
theorem dvd_bd (up : Bool) (a b : Int) : ok (dvd up a b).1 := by
  unfold dvd
  split
  · split
    · exact ok_zero
    · exact (sgn_bd _ _).1
  · exact ok_zero
theorem scl_bd (up : Bool) (a n d : Int) : ok (scl up a n d).1 := by
  unfold scl
  split
  · exact (sgn_bd _ _).1
  · exact ok_zero
theorem decOf_bd (up : Bool) (a : Int) (k : Nat) : ok (decOf up a k).1 := (sgn_bd _ _).1

theorem mul_mirror (a b : Int) : mul false (-a) b = (-(mul true a b).1, (mul true a b).2) := by
  by_cases h : ok a ∧ ok b
  · rw [mul_ok _ (ok_neg.mpr h.1) h.2, mul_ok _ h.1 h.2]
    by_cases hz : a = 0
    · subst hz
      simp [quo_zero, sgn_zero]
    · have e : decide (-a < 0) = !decide (a < 0) := by
        rw [← decide_not]; apply decide_eq_decide.mpr; omega
      rw [e, Int.natAbs_neg, ← sgn_not]
      generalize decide (a < 0) = x
      generalize decide (b < 0) = y
      cases x <;> cases y <;> rfl
  · rw [mul_bad _ (by rw [ok_neg]; exact h), mul_bad _ h]
    rfl

theorem dvd_mirror (a b : Int) : dvd false a (-b) = (-(dvd true a b).1, (dvd true a b).2) := by
  by_cases h : ok a ∧ ok b
  · by_cases hz : b = 0
    · rw [dvd_zero _ h.1 (ok_neg.mpr h.2) (by omega), dvd_zero _ h.1 h.2 hz]
      rfl
    · rw [dvd_ok _ h.1 (ok_neg.mpr h.2) (by omega), dvd_ok _ h.1 h.2 hz]
      have e : decide (-b < 0) = !decide (b < 0) := by
        rw [← decide_not]; apply decide_eq_decide.mpr; omega
      rw [e, Int.natAbs_neg, ← sgn_not]
      generalize decide (a < 0) = x
      generalize decide (b < 0) = y
      cases x <;> cases y <;> rfl
  · rw [dvd_bad _ (by rw [ok_neg]; exact h), dvd_bad _ h]
    rfl

theorem scl_mirror (a n d : Int) : scl false a (-n) d = (-(scl true a n d).1, (scl true a n d).2) := by
  by_cases h : sclOk a n d
  · have h' : sclOk a (-n) d := by obtain ⟨x1, x2, x3, x4, x5⟩ := h; exact ⟨x1, by omega, by omega, x4, x5⟩
    rw [scl_ok _ h', scl_ok _ h]
    by_cases hz : n = 0
    · subst hz
      have : 0 < d.toNat := by unfold sclOk at h; omega
      simp [quo_zero this, sgn_zero]
    · have e : decide (-n < 0) = !decide (n < 0) := by
        rw [← decide_not]; apply decide_eq_decide.mpr; omega
      rw [e, Int.natAbs_neg, ← sgn_not]
      generalize decide (a < 0) = x
      generalize decide (n < 0) = y
      cases x <;> cases y <;> rfl
  · rw [scl_bad _ (fun g => h (by obtain ⟨x1, x2, x3, x4, x5⟩ := g; exact ⟨x1, by omega, by omega, x4, x5⟩)), scl_bad _ h]
    rfl

theorem decOf_mirror (up : Bool) (a : Int) (k : Nat) : decOf up (-a) k = (-(decOf (!up) a k).1, (decOf (!up) a k).2) := by
  unfold decOf
  by_cases hz : a = 0
  · subst hz
    simp [quo_zero (Nat.pow_pos (n := k) (show 0 < 10 by omega)), sgn_zero]
  · have e : decide (-a < 0) = !decide (a < 0) := by
      rw [← decide_not]; apply decide_eq_decide.mpr; omega
    rw [e, Int.natAbs_neg, ← sgn_not]
    generalize decide (a < 0) = x
    cases x <;> cases up <;> rfl

theorem dec_mirror (a : Int) {k : Nat} (h : k < 13) : (dec (-a) k).2.2 = (dec a k).2.2 ∧ (dec (-a) k).1 = -(dec a k).2.1 ∧ (dec (-a) k).2.1 = -(dec a k).1 := by
  rw [dec_in _ h, dec_in _ h, decOf_mirror, decOf_mirror]
  simp only [Bool.not_false, Bool.not_true]
  have h0 := (sgn_bd (decide (a < 0)) (quo (a.natAbs * 4294967296) (10 ^ k) (false != decide (a < 0)))).2
  have h1 := (sgn_bd (decide (a < 0)) (quo (a.natAbs * 4294967296) (10 ^ k) (true != decide (a < 0)))).2
  unfold decOf
  generalize sgn (decide (a < 0)) (quo (a.natAbs * 4294967296) (10 ^ k) (false != decide (a < 0))) = p at *
  generalize sgn (decide (a < 0)) (quo (a.natAbs * 4294967296) (10 ^ k) (true != decide (a < 0))) = q at *
  rcases h0 with h0 | h0 <;> rcases h1 with h1 | h1 <;> simp [h0, h1]

/-- Rounded to one side. -/
def rnd (up : Bool) (x d : Int) : Int := if up then -((-x) / d) else x / d

theorem cl_nat (n d : Nat) (hd : 0 < d) : -((-(n : Int)) / (d : Int)) = (((if n % d = 0 then n / d else n / d + 1) : Nat) : Int) := by
  have e := Nat.div_add_mod n d
  have hr := Nat.mod_lt n hd
  generalize n / d = q at *
  generalize n % d = r at *
  have hd' : (d : Int) ≠ 0 := by omega
  split
  · rename_i hz
    subst hz
    have : (-(n : Int)) = (d : Int) * (-(q : Int)) := by rw [← e]; push_cast; rw [Int.mul_neg]; omega
    rw [this, Int.mul_ediv_cancel_left _ hd']
    omega
  · have : (-(n : Int)) = ((d : Int) - r) + (d : Int) * (-((q : Int) + 1)) := by
      rw [← e]; push_cast; rw [Int.mul_neg, Int.mul_add]; omega
    rw [this, Int.add_mul_ediv_left _ _ hd', Int.ediv_eq_zero_of_lt (by omega) (by omega)]
    push_cast
    omega

theorem fl_nat (n d : Nat) : (n : Int) / (d : Int) = ((n / d : Nat) : Int) := (Int.natCast_ediv n d).symm

/-- The size of a rounded number. -/
def rsz (away : Bool) (n d : Nat) : Nat := if away = true ∧ n % d ≠ 0 then n / d + 1 else n / d
theorem rsz_ge (away : Bool) (n d : Nat) : n / d ≤ rsz away n d := by unfold rsz; split <;> omega

theorem rnd_size (neg up : Bool) (n d : Nat) (hd : 0 < d) : rnd up (if neg then -(n : Int) else (n : Int)) d = if neg then -((rsz (up != neg) n d : Nat) : Int) else ((rsz (up != neg) n d : Nat) : Int) := by
  have hc := cl_nat n d hd
  have hf := fl_nat n d
  unfold rnd rsz
  generalize n / d = q at *
  generalize n % d = r at *
  by_cases hr : r = 0
  · subst hr
    simp only [if_true] at hc
    cases neg <;> cases up <;> simp <;> omega
  · rw [if_neg hr] at hc
    cases neg <;> cases up <;> simp [hr] <;> omega

theorem ok_sign (neg : Bool) (m : Nat) : ok (if neg then -(m : Int) else (m : Int)) ↔ m ≤ 4503599627370496 := by
  unfold ok
  cases neg <;> simp <;> omega

/-- A rounded quotient with its sign is the rounded number, where the last step does not wrap. -/
theorem sgn_quo (neg up : Bool) (n d : Nat) (hd : 0 < d) (hw : n / d ≠ 18446744073709551615 ∨ n % d = 0) :
    sgn neg (quo n d (up != neg)) = fit (rnd up (if neg then -(n : Int) else (n : Int)) d) := by
  have hq : d ≤ n / 18446744073709551616 ↔ 18446744073709551616 ≤ n / d := by
    rw [Nat.le_div_iff_mul_le (by omega), Nat.le_div_iff_mul_le hd, Nat.mul_comm]
  rw [rnd_size neg up n d hd]
  have hge := rsz_ge (up != neg) n d
  by_cases h1 : d ≤ n / 18446744073709551616
  · have e : quo n d (up != neg) = (0, false) := if_pos h1
    rw [e, sgn_false, fit_bad]
    rw [ok_sign]
    have := hq.mp h1
    omega
  · have h2 : n / d < 18446744073709551616 := by omega
    have e : quo n d (up != neg) = (rsz (up != neg) n d, true) := by
      unfold quo rsz
      rw [if_neg h1]
      split
      · rename_i h3
        have h4 : n / d ≠ 18446744073709551615 := by
          rcases hw with h | h
          · exact h
          · exact absurd h h3.2
        rw [Nat.mod_eq_of_lt (by omega)]
      · rfl
    rw [e]
    generalize rsz (up != neg) n d = m at *
    by_cases h5 : m ≤ 4503599627370496
    · rw [sgn_near neg h5, fit_ok ((ok_sign neg m).mpr h5)]
    · rw [sgn_far neg (by omega), fit_bad (fun g => h5 ((ok_sign neg m).mp g))]

theorem sign_mul (a b : Int) : (if (decide (a < 0) != decide (b < 0)) = true then -((a.natAbs * b.natAbs : Nat) : Int) else ((a.natAbs * b.natAbs : Nat) : Int)) = a * b := by
  rw [← Int.natAbs_mul]
  by_cases ha : a < 0 <;> by_cases hb : b < 0
  · have := Int.mul_pos_of_neg_of_neg ha hb; simp [ha, hb]; omega
  · have := Int.mul_nonpos_of_nonpos_of_nonneg (Int.le_of_lt ha) (Int.not_lt.mp hb); simp [ha, hb]; omega
  · have := Int.mul_nonpos_of_nonneg_of_nonpos (Int.not_lt.mp ha) (Int.le_of_lt hb); simp [ha, hb]; omega
  · have := Int.mul_nonneg (Int.not_lt.mp ha) (Int.not_lt.mp hb); simp [ha, hb]; omega

theorem mul_fit (up : Bool) {a b : Int} (ha : ok a) (hb : ok b) (h : a.natAbs * b.natAbs < 39614081257132168796771975168) : mul up a b = fit (rnd up (a * b) 4294967296) := by
  rw [mul_ok up ha hb, sgn_quo _ _ _ _ (by omega) (Or.inl (by omega)), sign_mul]
  rfl
end Mnc
