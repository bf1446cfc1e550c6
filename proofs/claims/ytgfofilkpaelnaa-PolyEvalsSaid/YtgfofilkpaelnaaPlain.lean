/- Plain arithmetic under the walks: fixed-point numbers, rounded quotients. No program here. -/
import Derived.RowKit
import Derived.Calls
namespace Mnc
open Go

theorem ret_int {k : IntKind} {a b : Int} (h : a = b) : Ending.returned (.int k a) = .returned (.int k b) := by rw [h]

theorem ret2 {k k' : IntKind} {a b : Int} {p : Int × Int} (h : p = (a, b)) : Ending.returned (.tuple #[.int k a, .int k' b]) = .returned (.tuple #[.int k p.1, .int k' p.2]) := by rw [h]

/-- A fixed-point number. -/
def ok (a : Int) : Prop := -4503599627370496 ≤ a ∧ a ≤ 4503599627370496
instance (a : Int) : Decidable (ok a) := by unfold ok; exact inferInstance

/-- What Check answers. -/
def chk (a : Int) : Int := if ok a then 0 else 2
theorem chk_ok {a : Int} (h : ok a) : chk a = 0 := if_pos h
theorem chk_bad {a : Int} (h : ¬ ok a) : chk a = 2 := if_neg h

def chk2 (a b : Int) : Int := if ok a ∧ ok b then 0 else 2
theorem chk2_ok {a b : Int} (ha : ok a) (hb : ok b) : chk2 a b = 0 := if_pos ⟨ha, hb⟩
theorem chk2_l {a b : Int} (ha : ¬ ok a) : chk2 a b = 2 := if_neg fun h => ha h.1
theorem chk2_r {a b : Int} (hb : ¬ ok b) : chk2 a b = 2 := if_neg fun h => hb h.2

/-- An exact result, if it is a fixed-point number. -/
def fit (a : Int) : Int × Int := if ok a then (a, 0) else (0, 6)
theorem fit_ok {a : Int} (h : ok a) : fit a = (a, 0) := if_pos h
theorem fit_bad {a : Int} (h : ¬ ok a) : fit a = (0, 6) := if_neg h

def add (a b : Int) : Int × Int := if ok a ∧ ok b then fit (a + b) else (0, 2)
theorem add_ok {a b : Int} (ha : ok a) (hb : ok b) : add a b = fit (a + b) := if_pos ⟨ha, hb⟩
theorem add_bad {a b : Int} (h : ¬ (ok a ∧ ok b)) : add a b = (0, 2) := if_neg h
def sub (a b : Int) : Int × Int := if ok a ∧ ok b then fit (a - b) else (0, 2)
theorem sub_ok {a b : Int} (ha : ok a) (hb : ok b) : sub a b = fit (a - b) := if_pos ⟨ha, hb⟩
theorem sub_bad {a b : Int} (h : ¬ (ok a ∧ ok b)) : sub a b = (0, 2) := if_neg h
def neg (a : Int) : Int × Int := if ok a then (-a, 0) else (0, 2)
theorem neg_ok {a : Int} (ha : ok a) : neg a = (-a, 0) := if_pos ha
theorem neg_bad {a : Int} (h : ¬ ok a) : neg a = (0, 2) := if_neg h
theorem chk2_bad {a b : Int} (h : ¬ (ok a ∧ ok b)) : chk2 a b = 2 := if_neg h
end Mnc
