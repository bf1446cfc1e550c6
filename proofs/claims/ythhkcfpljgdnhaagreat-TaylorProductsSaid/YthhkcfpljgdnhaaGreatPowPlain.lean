/- Plain: numbers to the base 2^64, and powers. No program here. -/
import Derived.Test.YthhkcfpljgdnhaaGreatPl
namespace Mnc
open Go

/-- The number of some digits. -/
def dval : List Nat → Nat
 | [] => 0
 | d :: r => d + 18446744073709551616 * dval r
def dok (l : List Nat) : Prop := ∀ d ∈ l, d < 18446744073709551616
theorem dval_append (a b : List Nat) : dval (a ++ b) = dval a + 18446744073709551616 ^ a.length * dval b := by
 induction a with
 | nil => simp [dval]
 | cons d r ih =>
  show d + 18446744073709551616 * dval (r ++ b) = d + 18446744073709551616 * dval r + 18446744073709551616 ^ (r.length + 1) * dval b
  rw [ih, Nat.pow_succ, Nat.mul_add, Nat.add_assoc]
  congr 2
  ac_rfl
theorem dval_lt (l : List Nat) (h : dok l) : dval l < 18446744073709551616 ^ l.length := by
 induction l with
 | nil => simp [dval]
 | cons d r ih =>
  have h1 := ih (fun x hx => h x (by simp [hx]))
  have h2 := h d (by simp)
  show d + 18446744073709551616 * dval r < 18446744073709551616 ^ (r.length + 1)
  rw [Nat.pow_succ, Nat.mul_comm (_ ^ _)]
  have := Nat.mul_le_mul_left 18446744073709551616 (show dval r + 1 ≤ 18446744073709551616 ^ r.length from h1)
  omega

/-- One round of the product of a number with one digit. -/
structure TmAt (ds : List Nat) (n : Nat) (acc : List Nat) (c k : Nat) : Prop where
 len : acc.length = k
 cb : c < 18446744073709551616
 oks : dok acc
 eq : dval acc + 18446744073709551616 ^ k * c = dval (ds.take k) * n
theorem tmAt_start (ds : List Nat) (n : Nat) : TmAt ds n [] 0 0 := ⟨rfl, by omega, fun d hd => by simp at hd, by simp [dval]⟩
theorem tm_bd {x n c : Nat} (hx : x < 18446744073709551616) (hn : n < 18446744073709551616) (hc : c < 18446744073709551616) : (x * n + c) / 18446744073709551616 < 18446744073709551616 := by
 have h := Nat.mul_le_mul (show x ≤ 18446744073709551615 by omega) (show n ≤ 18446744073709551615 by omega)
 rw [Nat.div_lt_iff_lt_mul (by omega)]
 omega
theorem tmAt_next {ds acc : List Nat} {n c k x : Nat} (h : TmAt ds n acc c k) (hx : ds[k]? = some x) (hxo : x < 18446744073709551616) (hn : n < 18446744073709551616) : TmAt ds n (acc ++ [(x * n + c) % 18446744073709551616]) ((x * n + c) / 18446744073709551616) (k + 1) where
 len := by simp [h.len]
 cb := tm_bd hxo hn h.cb
 oks := fun d hd => by
  rcases List.mem_append.1 hd with hd | hd
  ·exact h.oks d hd
  ·simp at hd
   subst hd
   exact Nat.mod_lt _ (by omega)
 eq := by
  have hk := (List.getElem?_eq_some_iff.1 hx).1
  have e := h.eq
  have hd := Nat.div_add_mod (x * n + c) 18446744073709551616
  rw [dval_append, List.take_add_one, hx, dval_append, h.len, Nat.pow_succ, Nat.add_mul, ← e]
  simp only [Option.toList_some, List.length_take, Nat.min_eq_left (Nat.le_of_lt hk)]
  show dval acc + 18446744073709551616 ^ k * ((x * n + c) % 18446744073709551616 + 18446744073709551616 * 0) + 18446744073709551616 ^ k * 18446744073709551616 * ((x * n + c) / 18446744073709551616) = dval acc + 18446744073709551616 ^ k * c + 18446744073709551616 ^ k * (x + 18446744073709551616 * 0) * n
  generalize 18446744073709551616 ^ k = P at *
  generalize (x * n + c) % 18446744073709551616 = r at *
  generalize (x * n + c) / 18446744073709551616 = q at *
  rw [Nat.mul_zero, Nat.add_zero, Nat.add_zero, Nat.add_assoc, Nat.add_assoc, Nat.mul_assoc P, Nat.mul_assoc P, ← Nat.mul_add, ← Nat.mul_add]
  congr 2
  omega
theorem tmAt_end {ds acc : List Nat} {n c k : Nat} (h : TmAt ds n acc c k) (hk : ds.length = k) : dval (acc ++ [c]) = dval ds * n ∧ dok (acc ++ [c]) := by
 constructor
 ·rw [dval_append, h.len]
  have e := h.eq
  rw [List.take_of_length_le (by omega)] at e
  rw [← e]
  simp [dval]
 ·intro d hd
  rcases List.mem_append.1 hd with hd | hd
  ·exact h.oks d hd
  ·simp at hd
   subst hd
   exact h.cb

/-- The digit at a place. -/
def dat (l : List Nat) (i : Nat) : Nat := l.getD i 0
theorem dat_lt {l : List Nat} (h : dok l) (i : Nat) : dat l i < 18446744073709551616 := by
 unfold dat
 rw [List.getD_eq_getElem?_getD]
 cases hx : l[i]? with
 | none => simp
 | some x => exact h x (List.mem_of_getElem? hx)
theorem dval_drop (l : List Nat) (s : Nat) : dval (l.drop s) = dat l s + 18446744073709551616 * dval (l.drop (s + 1)) := by
 rcases Nat.lt_or_ge s l.length with h | h
 ·rw [List.drop_eq_getElem_cons h]
  show l[s] + _ = _
  congr 1
  unfold dat
  rw [List.getD_eq_getElem?_getD, List.getElem?_eq_getElem h]
  rfl
 ·rw [List.drop_of_length_le h, List.drop_of_length_le (by omega)]
  unfold dat
  rw [List.getD_eq_getElem?_getD, List.getElem?_eq_none h]
  rfl
theorem dval_split (l : List Nat) (h : dok l) (s : Nat) : dval l / 18446744073709551616 ^ s = dval (l.drop s) ∧ dval l % 18446744073709551616 ^ s = dval (l.take s) := by
 have e : dval l = dval (l.take s) + 18446744073709551616 ^ s * dval (l.drop s) := by
  rcases Nat.le_total s l.length with hs | hs
  ·conv => lhs; rw [← List.take_append_drop s l]
   rw [dval_append, List.length_take, Nat.min_eq_left hs]
  ·rw [List.take_of_length_le hs, List.drop_of_length_le hs]
   simp [dval]
 have hlt : dval (l.take s) < 18446744073709551616 ^ s := by
  have := dval_lt (l.take s) (fun d hd => h d (List.mem_of_mem_take hd))
  exact Nat.lt_of_lt_of_le this (Nat.pow_le_pow_right (by omega) (by simp; omega))
 rw [e]
 constructor
 ·rw [Nat.add_mul_div_left _ _ (Nat.pow_pos (by omega)), Nat.div_eq_of_lt hlt, Nat.zero_add]
 ·rw [Nat.add_mul_mod_self_left, Nat.mod_eq_of_lt hlt]

/-- Is something left below a place? -/
def dleft (l : List Nat) (s : Nat) : Bool := (l.take s).any (fun d => decide (0 < d))
theorem dleft_zero (l : List Nat) (s : Nat) : dleft l s = decide (dval (l.take s) ≠ 0) := by
 unfold dleft
 induction l.take s with
 | nil => rfl
 | cons d r ih =>
  rw [List.any_cons, ih]
  show (decide (0 < d) || decide (dval r ≠ 0)) = decide (d + 18446744073709551616 * dval r ≠ 0)
  rw [Bool.eq_iff_iff]
  simp
  omega
theorem dleft_succ (l : List Nat) (s : Nat) (h : s < l.length) : dleft l (s + 1) = (dleft l s || decide (0 < dat l s)) := by
 unfold dleft dat
 rw [List.take_add_one, List.getElem?_eq_getElem h, List.any_append, List.getD_eq_getElem?_getD, List.getElem?_eq_getElem h]
 simp
theorem dleft_past (l : List Nat) (s : Nat) (h : l.length ≤ s) : dleft l (s + 1) = (dleft l s || decide (0 < dat l s)) := by
 unfold dleft dat
 rw [List.take_of_length_le h, List.take_of_length_le (by omega), List.getD_eq_getElem?_getD, List.getElem?_eq_none h]
 simp
theorem dleft_next (l : List Nat) (s : Nat) : dleft l (s + 1) = (dleft l s || decide (0 < dat l s)) := by
 rcases Nat.lt_or_ge s l.length with h | h
 ·exact dleft_succ l s h
 ·exact dleft_past l s h
theorem dval_zero_iff (l : List Nat) : dval l = 0 ↔ ∀ d ∈ l, d = 0 := by
 induction l with
 | nil => simp [dval]
 | cons d r ih =>
  show d + 18446744073709551616 * dval r = 0 ↔ _
  simp only [List.mem_cons, forall_eq_or_imp]
  rw [← ih]
  omega

/-- What high answers, by a whole number of digits: the quotient, whether something is left; or nothing if it does not fit. -/
theorem high_0 (l : List Nat) (h : dok l) (s : Nat) : dval l / 2 ^ (64 * s) = dat l s + 18446744073709551616 * dval (l.drop (s + 1)) ∧ (dval l % 2 ^ (64 * s) ≠ 0 ↔ dleft l s = true) := by
 have e : (2 : Nat) ^ (64 * s) = 18446744073709551616 ^ s := by rw [Nat.pow_mul]
 obtain ⟨h1, h2⟩ := dval_split l h s
 rw [e, h1, h2, dleft_zero, ← dval_drop]
 simp
theorem high_32 (l : List Nat) (h : dok l) (s : Nat) : dval l / 2 ^ (64 * s + 32) = dat l s / 4294967296 + 4294967296 * (dat l (s + 1) + 18446744073709551616 * dval (l.drop (s + 2))) ∧ (dval l % 2 ^ (64 * s + 32) ≠ 0 ↔ (dleft l s || decide (0 < dat l s % 4294967296)) = true) := by
 have e : (2 : Nat) ^ (64 * s + 32) = 18446744073709551616 ^ s * 4294967296 := by rw [Nat.pow_add, Nat.pow_mul]
 obtain ⟨h1, h2⟩ := dval_split l h s
 have d1 := dval_drop l s
 have d2 : dval (l.drop (s + 1)) = dat l (s + 1) + 18446744073709551616 * dval (l.drop (s + 2)) := dval_drop l (s + 1)
 rw [e, ← Nat.div_div_eq_div_mul, h1, d1, d2]
 constructor
 ·omega
 ·rw [Nat.mod_mul, h1, h2, dleft_zero, d1, d2]
  have hp : 0 < 18446744073709551616 ^ s := Nat.pow_pos (by omega)
  simp only [Bool.or_eq_true, decide_eq_true_eq]
  have e2 : (dat l s + 18446744073709551616 * (dat l (s + 1) + 18446744073709551616 * dval (l.drop (s + 2)))) % 4294967296 = dat l s % 4294967296 := by omega
  rw [e2]
  generalize dat l s % 4294967296 = r
  generalize dval (l.take s) = t
  generalize 18446744073709551616 ^ s = P at *
  constructor
  ·intro hh
   by_cases ht : t = 0
   ·right
    apply Nat.pos_of_ne_zero
    rintro rfl
    simp [ht] at hh
   ·exact .inl ht
  ·rintro (hh | hh)
   ·omega
   ·have := Nat.mul_le_mul_left P (show 1 ≤ r from hh)
    omega

theorem pow_sign (v : Int) (n : Nat) : v ^ n = if (decide (v < 0) && decide (n % 2 = 1)) = true then -((v.natAbs ^ n : Nat) : Int) else ((v.natAbs ^ n : Nat) : Int) := by
 induction n with
 | zero => simp
 | succ n ih =>
  rw [Int.pow_succ, ih, Nat.pow_succ]
  by_cases hv : v < 0
  ·have hm : v = -((v.natAbs : Nat) : Int) := by omega
   by_cases hn : n % 2 = 1
   ·have hn2 : ¬ (n + 1) % 2 = 1 := by omega
    simp only [hv, hn, hn2, decide_true, decide_false, Bool.and_self, Bool.and_false, if_true, Bool.false_eq_true, if_false]
    push_cast
    conv => lhs; rhs; rw [hm]
    rw [Int.neg_mul_neg]
   ·have hn2 : (n + 1) % 2 = 1 := by omega
    simp only [hv, hn, hn2, decide_true, decide_false, Bool.and_self, Bool.and_false, if_true, Bool.false_eq_true, if_false]
    push_cast
    conv => lhs; rhs; rw [hm]
    rw [Int.mul_neg]
  ·have hm : ((v.natAbs : Nat) : Int) = v := by omega
   simp only [hv, decide_false, Bool.false_and, Bool.false_eq_true, if_false]
   push_cast
   rw [hm]

/-- What power answers. -/
def pDen (n : Nat) : Nat := 2 ^ (32 * (n - 1))
theorem pDen_pos (n : Nat) : 0 < pDen n := Nat.pow_pos (by omega)
theorem pDen_eq (n : Nat) : ((4294967296 : Int) ^ (n - 1)) = ((pDen n : Nat) : Int) := by
 unfold pDen
 rw [Nat.pow_mul, show (2 : Nat) ^ 32 = 4294967296 from rfl, Int.natCast_pow]
 rfl
def pwr (v : Int) (n : Nat) : Int × Int × Int := if v.natAbs ^ n / pDen n ≤ 4503599627370496 then (rnd false (v ^ n) (pDen n), rnd true (v ^ n) (pDen n), 0) else (0, 0, 6)
theorem pwr_ok {v : Int} {n : Nat} (h : v.natAbs ^ n / pDen n ≤ 4503599627370496) : pwr v n = (rnd false (v ^ n) (pDen n), rnd true (v ^ n) (pDen n), 0) := if_pos h
theorem pwr_bad {v : Int} {n : Nat} (h : ¬ v.natAbs ^ n / pDen n ≤ 4503599627370496) : pwr v n = (0, 0, 6) := if_neg h
/-- The signs of the rounded powers. -/
theorem pwr_rnd (v : Int) (n : Nat) (up : Bool) : rnd up (v ^ n) (pDen n) = if (decide (v < 0) && decide (n % 2 = 1)) = true then -((rsz (up != (decide (v < 0) && decide (n % 2 = 1))) (v.natAbs ^ n) (pDen n) : Nat) : Int) else ((rsz (up != (decide (v < 0) && decide (n % 2 = 1))) (v.natAbs ^ n) (pDen n) : Nat) : Int) := by
 rw [pow_sign]
 exact rnd_size _ up _ _ (pDen_pos n)

theorem rnd_mono (up : Bool) {x y d : Int} (hd : 0 < d) (h : x ≤ y) : rnd up x d ≤ rnd up y d := by
 have h1 := Int.ediv_le_ediv hd h
 have h2 := Int.ediv_le_ediv hd (show -y ≤ -x by omega)
 unfold rnd
 cases up <;> simp <;> omega
theorem ipow_mono {a b : Int} (n : Nat) (h : a ≤ b) (hs : n % 2 = 1 ∨ 0 ≤ a) : a ^ n ≤ b ^ n := by
 have hp : ∀ x y : Nat, x ≤ y → ((x ^ n : Nat) : Int) ≤ ((y ^ n : Nat) : Int) := fun x y hxy => Int.ofNat_le.2 (Nat.pow_le_pow_left hxy n)
 rw [pow_sign a, pow_sign b]
 have ha0 : (0 : Int) ≤ ((a.natAbs ^ n : Nat) : Int) := Int.natCast_nonneg _
 have hb0 : (0 : Int) ≤ ((b.natAbs ^ n : Nat) : Int) := Int.natCast_nonneg _
 have h1 := hp a.natAbs b.natAbs
 have h2 := hp b.natAbs a.natAbs
 rcases hs with hn | ha
 ·simp only [hn, decide_true, Bool.and_true]
  by_cases ha : a < 0 <;> by_cases hb : b < 0 <;> simp only [ha, hb, decide_true, decide_false, if_true, Bool.false_eq_true, if_false] <;> omega
 ·simp only [show ¬ a < 0 by omega, show ¬ b < 0 by omega, decide_false, Bool.false_and, Bool.false_eq_true, if_false]
  omega
theorem pw_eq (a : Int × Int) (n : Nat) : pw a n = sT (rnd false (a.1 ^ n) (pDen n)) (rnd true (a.2 ^ n) (pDen n)) := by
 unfold pw
 rw [pDen_eq]
theorem pwr_far {v : Int} {n : Nat} (h : ¬ v.natAbs ^ n / pDen n ≤ 4503599627370496) (up : Bool) : rnd up (v ^ n) (pDen n) < -4503599627370496 ∨ 4503599627370496 < rnd up (v ^ n) (pDen n) := by
 rw [pwr_rnd]
 have := rsz_ge (up != (decide (v < 0) && decide (n % 2 = 1))) (v.natAbs ^ n) (pDen n)
 split <;> omega
theorem pw_bad {a : Int × Int} {n : Nat} (h : a.1 ≤ a.2) (hs : n % 2 = 1 ∨ 0 ≤ a.1) (hb : ¬ (a.1.natAbs ^ n / pDen n ≤ 4503599627370496 ∧ a.2.natAbs ^ n / pDen n ≤ 4503599627370496)) : pw a n = ((0, 0), 6) := by
 rw [pw_eq, sT_bad]
 have hd : (0 : Int) < ((pDen n : Nat) : Int) := by have := pDen_pos n; omega
 have hm := ipow_mono n h hs
 have m1 := rnd_mono false hd hm
 have m2 := rnd_mono true hd hm
 have r1 := rnd_le (x := a.1 ^ n) hd
 have r2 := rnd_le (x := a.2 ^ n) hd
 rcases Classical.not_and_iff_not_or_not.1 hb with hb | hb
 ·have h1 := pwr_far hb false
  have h2 := pwr_far hb true
  have s1 := pwr_rnd a.1 n false
  have s2 := pwr_rnd a.1 n true
  split at s1 <;> omega
 ·have h1 := pwr_far hb false
  have h2 := pwr_far hb true
  have s1 := pwr_rnd a.2 n false
  have s2 := pwr_rnd a.2 n true
  split at s1 <;> omega
theorem pw_ok {a : Int × Int} {n : Nat} (h1 : a.1.natAbs ^ n / pDen n ≤ 4503599627370496) (h2 : a.2.natAbs ^ n / pDen n ≤ 4503599627370496) : pw a n = sT (pwr a.1 n).1 (pwr a.2 n).2.1 := by
 rw [pw_eq, pwr_ok h1, pwr_ok h2]
end Mnc
