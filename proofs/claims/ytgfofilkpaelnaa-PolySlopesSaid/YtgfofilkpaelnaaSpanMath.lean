/- Plain: products and quotients at the corners; what between answers. No program here. -/
import Derived.Test.YtgfofilkpaelnaaSpanPlain
namespace Mnc
open Go

theorem fl_le_cl (x : Int) : fl x ≤ cl x := by
  rw [fl_def, cl_def]; omega

theorem mul_pair_ok {a b : Int} (ha : ok a) (hb : ok b) (h1 : ok (fl (a * b))) (h2 : ok (cl (a * b))) : mul false a b = (fl (a * b), 0) ∧ mul true a b = (cl (a * b), 0) := by
  by_cases h : a.natAbs * b.natAbs < 39614081257132168796771975168
  · rw [mul_fit _ ha hb h, mul_fit _ ha hb h]
    exact ⟨fit_ok h1, fit_ok h2⟩
  · exfalso
    have e := sign_mul a b
    have := rnd_far (decide (a < 0) != decide (b < 0)) false (a.natAbs * b.natAbs) 4294967296 (by omega) (by omega)
    rw [e] at this
    exact this h1

theorem mul_pair_bad {a b : Int} (ha : ok a) (hb : ok b) (h : ¬ (ok (fl (a * b)) ∧ ok (cl (a * b)))) : ¬ ((mul false a b).2 = 0 ∧ (mul true a b).2 = 0) := by
  by_cases hn : a.natAbs * b.natAbs < 39614081257132168796771975168
  · rw [mul_fit _ ha hb hn, mul_fit _ ha hb hn]
    rintro ⟨g1, g2⟩
    apply h
    constructor
    · by_cases k : ok (fl (a * b))
      · exact k
      · have e : fit (rnd false (a * b) 4294967296) = (0, 6) := fit_bad k
        rw [e] at g1
        cases g1
    · by_cases k : ok (cl (a * b))
      · exact k
      · have e : fit (rnd true (a * b) 4294967296) = (0, 6) := fit_bad k
        rw [e] at g2
        cases g2
  · rw [mul_ok _ ha hb, mul_ok _ ha hb]
    have key : ∀ s, sgn s (quo (a.natAbs * b.natAbs) 4294967296 false) = (0, 6) := by
      intro s
      unfold quo
      split
      · exact sgn_false _ _
      · rw [if_neg (by simp)]
        exact sgn_far _ (by omega)
    cases hs : (decide (a < 0) != decide (b < 0))
    · simp [key]
    · simp [key]

theorem dv_sign (x y : Int) : (if (decide (x < 0) != decide (y < 0)) = true then -((x.natAbs * 4294967296 : Nat) : Int) else ((x.natAbs * 4294967296 : Nat) : Int)) = if y < 0 then -(x * 4294967296) else x * 4294967296 := by
  by_cases hx : x < 0 <;> by_cases hy : y < 0 <;> simp [hx, hy] <;> omega

theorem dvd_fit (up : Bool) {a b : Int} (ha : ok a) (hb : ok b) (hz : ¬ b = 0) : dvd up a b = fit (dv up a b) := by
  rw [dvd_ok up ha hb hz, sgn_quo _ _ _ _ (by omega) ?_, dv_sign]
  · rfl
  · by_cases hr : a.natAbs * 4294967296 % b.natAbs = 0
    · exact Or.inr hr
    · left
      intro hq
      have e := Nat.div_add_mod (a.natAbs * 4294967296) b.natAbs
      have hm := Nat.mod_lt (a.natAbs * 4294967296) (show 0 < b.natAbs by omega)
      rw [hq] at e
      unfold ok at ha
      omega

/-- What between answers, of two operations with errors. -/
def btw (D U : Int → Int → Int × Int) (a b : Int × Int) : (Int × Int) × Int :=
  if ((D a.1 b.1).2 = 0 ∧ (U a.1 b.1).2 = 0) ∧ ((D a.1 b.2).2 = 0 ∧ (U a.1 b.2).2 = 0) ∧ ((D a.2 b.1).2 = 0 ∧ (U a.2 b.1).2 = 0) ∧ ((D a.2 b.2).2 = 0 ∧ (U a.2 b.2).2 = 0) then
    sT (min4 (D a.1 b.1).1 (D a.1 b.2).1 (D a.2 b.1).1 (D a.2 b.2).1) (max4 (U a.1 b.1).1 (U a.1 b.2).1 (U a.2 b.1).1 (U a.2 b.2).1)
  else ((0, 0), 6)

theorem btw_of {D U : Int → Int → Int × Int} {f g : Int → Int → Int} {a b : Int × Int}
    (hle : ∀ x y, f x y ≤ g x y)
    (hok : ∀ x y, (x = a.1 ∨ x = a.2) → (y = b.1 ∨ y = b.2) → ok (f x y) → ok (g x y) → D x y = (f x y, 0) ∧ U x y = (g x y, 0))
    (hbad : ∀ x y, (x = a.1 ∨ x = a.2) → (y = b.1 ∨ y = b.2) → ¬ (ok (f x y) ∧ ok (g x y)) → ¬ ((D x y).2 = 0 ∧ (U x y).2 = 0)) :
    btw D U a b = sT (min4 (f a.1 b.1) (f a.1 b.2) (f a.2 b.1) (f a.2 b.2)) (max4 (g a.1 b.1) (g a.1 b.2) (g a.2 b.1) (g a.2 b.2)) := by
  unfold btw
  have k : ∀ x y, (x = a.1 ∨ x = a.2) → (y = b.1 ∨ y = b.2) → (((D x y).2 = 0 ∧ (U x y).2 = 0) ↔ (ok (f x y) ∧ ok (g x y))) := by
    intro x y hx hy
    constructor
    · intro h
      by_cases hh : ok (f x y) ∧ ok (g x y)
      · exact hh
      · exact absurd h (hbad x y hx hy hh)
    · intro h
      obtain ⟨e1, e2⟩ := hok x y hx hy h.1 h.2
      rw [e1, e2]
      exact ⟨rfl, rfl⟩
  have l1 := hle a.1 b.1
  have l2 := hle a.1 b.2
  have l3 := hle a.2 b.1
  have l4 := hle a.2 b.2
  have k1 := k a.1 b.1 (.inl rfl) (.inl rfl)
  have k2 := k a.1 b.2 (.inl rfl) (.inr rfl)
  have k3 := k a.2 b.1 (.inr rfl) (.inl rfl)
  have k4 := k a.2 b.2 (.inr rfl) (.inr rfl)
  split
  · rename_i h
    obtain ⟨h1, h2, h3, h4⟩ := h
    rw [k1] at h1
    rw [k2] at h2
    rw [k3] at h3
    rw [k4] at h4
    rw [(hok a.1 b.1 (.inl rfl) (.inl rfl) h1.1 h1.2).1, (hok a.1 b.1 (.inl rfl) (.inl rfl) h1.1 h1.2).2, (hok a.1 b.2 (.inl rfl) (.inr rfl) h2.1 h2.2).1, (hok a.1 b.2 (.inl rfl) (.inr rfl) h2.1 h2.2).2, (hok a.2 b.1 (.inr rfl) (.inl rfl) h3.1 h3.2).1, (hok a.2 b.1 (.inr rfl) (.inl rfl) h3.1 h3.2).2, (hok a.2 b.2 (.inr rfl) (.inr rfl) h4.1 h4.2).1, (hok a.2 b.2 (.inr rfl) (.inr rfl) h4.1 h4.2).2]
  · rename_i h
    rw [sT_bad]
    rw [k1, k2, k3, k4] at h
    clear k k1 k2 k3 k4 hok hbad
    unfold ok at h
    unfold min4 max4
    omega

theorem btw_mul {a b : Int × Int} (ha : okS a) (hb : okS b) : btw (mul false) (mul true) a b = sMul a b := by
  have e : sMul a b = _ := on2_ok ha hb
  rw [e]
  refine btw_of (f := fun x y => fl (x * y)) (g := fun x y => cl (x * y)) (fun _ _ => fl_le_cl _) ?_ ?_
  · intro x y hx hy h1 h2
    have hx' : ok x := by rcases hx with rfl | rfl <;> first | exact ha.lo | exact ha.hi
    have hy' : ok y := by rcases hy with rfl | rfl <;> first | exact hb.lo | exact hb.hi
    exact mul_pair_ok hx' hy' h1 h2
  · intro x y hx hy h
    have hx' : ok x := by rcases hx with rfl | rfl <;> first | exact ha.lo | exact ha.hi
    have hy' : ok y := by rcases hy with rfl | rfl <;> first | exact hb.lo | exact hb.hi
    exact mul_pair_bad hx' hy' h

theorem rnd_le {x d : Int} (hd : 0 < d) : rnd false x d ≤ rnd true x d := by
  unfold rnd
  simp only [Bool.false_eq_true, if_false, if_true]
  have h1 := Int.mul_ediv_add_emod x d
  have h2 := Int.mul_ediv_add_emod (-x) d
  have h3 := Int.emod_nonneg x (show d ≠ 0 by omega)
  have h4 := Int.emod_nonneg (-x) (show d ≠ 0 by omega)
  have h5 : d * (x / d + (-x) / d) ≤ 0 := by rw [Int.mul_add]; omega
  have h6 : x / d + (-x) / d ≤ 0 := by
    apply Int.not_lt.mp
    intro h
    have := Int.mul_pos hd h
    omega
  omega

theorem btw_div {a b : Int × Int} (ha : okS a) (hb : okS b) (hz : ¬ (b.1 ≤ 0 ∧ 0 ≤ b.2)) : btw (dvd false) (dvd true) a b = sDiv a b := by
  have e : sDiv a b = _ := on2_ok ha hb
  rw [e, if_neg hz]
  have hnz : ∀ y, (y = b.1 ∨ y = b.2) → ¬ y = 0 := by
    intro y hy
    unfold okS at hb
    omega
  have hle : ∀ x y, y = 0 ∨ dv false x y ≤ dv true x y := by
    intro x y
    by_cases h : y = 0
    · exact .inl h
    · exact .inr (rnd_le (by omega))
  refine btw_of (f := fun x y => if y = 0 then 0 else dv false x y) (g := fun x y => if y = 0 then 0 else dv true x y) ?_ ?_ ?_ |>.trans ?_
  · intro x y
    rcases hle x y with h | h
    · simp [h]
    · show (if y = 0 then 0 else dv false x y) ≤ (if y = 0 then 0 else dv true x y)
      split <;> omega
  · intro x y hx hy h1 h2
    have hx' : ok x := by rcases hx with rfl | rfl <;> first | exact ha.lo | exact ha.hi
    have hy' : ok y := by rcases hy with rfl | rfl <;> first | exact hb.lo | exact hb.hi
    simp only [if_neg (hnz y hy)] at h1 h2 ⊢
    rw [dvd_fit _ hx' hy' (hnz y hy), dvd_fit _ hx' hy' (hnz y hy)]
    exact ⟨fit_ok h1, fit_ok h2⟩
  · intro x y hx hy h
    have hx' : ok x := by rcases hx with rfl | rfl <;> first | exact ha.lo | exact ha.hi
    have hy' : ok y := by rcases hy with rfl | rfl <;> first | exact hb.lo | exact hb.hi
    simp only [if_neg (hnz y hy)] at h
    rw [dvd_fit _ hx' hy' (hnz y hy), dvd_fit _ hx' hy' (hnz y hy)]
    rintro ⟨g1, g2⟩
    apply h
    constructor
    · by_cases k : ok (dv false x y)
      · exact k
      · rw [fit_bad k] at g1
        cases g1
    · by_cases k : ok (dv true x y)
      · exact k
      · rw [fit_bad k] at g2
        cases g2
  · simp only [if_neg (hnz b.1 (.inl rfl)), if_neg (hnz b.2 (.inr rfl))]
end Mnc
