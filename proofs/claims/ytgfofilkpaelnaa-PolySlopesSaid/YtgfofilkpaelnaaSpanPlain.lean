/- Plain: intervals; what the operations of package span answer. No program here. -/
import Derived.Test.YtgfofilkpaelnaaRefMath
namespace Mnc
open Go

/-- A valid interval. -/
def okS (s : Int × Int) : Prop := -4503599627370496 ≤ s.1 ∧ s.1 ≤ s.2 ∧ s.2 ≤ 4503599627370496
instance (s : Int × Int) : Decidable (okS s) := by unfold okS; exact inferInstance
theorem okS.lo {s : Int × Int} (h : okS s) : ok s.1 := by unfold okS at h; unfold ok; omega
theorem okS.hi {s : Int × Int} (h : okS s) : ok s.2 := by unfold okS at h; unfold ok; omega

def sChk (s : Int × Int) : Int := if okS s then 0 else 20
theorem sChk_ok {s : Int × Int} (h : okS s) : sChk s = 0 := if_pos h
theorem sChk_bad {s : Int × Int} (h : ¬ okS s) : sChk s = 20 := if_neg h
def sChk2 (s t : Int × Int) : Int := if okS s ∧ okS t then 0 else 20
theorem sChk2_ok {s t : Int × Int} (h : okS s) (k : okS t) : sChk2 s t = 0 := if_pos ⟨h, k⟩
theorem sChk2_bad {s t : Int × Int} (h : ¬ (okS s ∧ okS t)) : sChk2 s t = 20 := if_neg h

/-- An interval of a result. -/
def sT (lo hi : Int) : (Int × Int) × Int := if -4503599627370496 ≤ lo ∧ hi ≤ 4503599627370496 then ((lo, hi), 0) else ((0, 0), 6)
theorem sT_ok {lo hi : Int} (h : -4503599627370496 ≤ lo) (k : hi ≤ 4503599627370496) : sT lo hi = ((lo, hi), 0) := if_pos ⟨h, k⟩
theorem sT_bad {lo hi : Int} (h : ¬ (-4503599627370496 ≤ lo ∧ hi ≤ 4503599627370496)) : sT lo hi = ((0, 0), 6) := if_neg h

/-- An operation on two intervals. -/
def on2 (f : Int × Int → Int × Int → (Int × Int) × Int) (a b : Int × Int) : (Int × Int) × Int := if okS a ∧ okS b then f a b else ((0, 0), 20)
theorem on2_ok {f : Int × Int → Int × Int → (Int × Int) × Int} {a b : Int × Int} (h : okS a) (k : okS b) : on2 f a b = f a b := if_pos ⟨h, k⟩
theorem on2_bad {f : Int × Int → Int × Int → (Int × Int) × Int} {a b : Int × Int} (h : ¬ (okS a ∧ okS b)) : on2 f a b = ((0, 0), 20) := if_neg h
def on1 (f : Int × Int → (Int × Int) × Int) (a : Int × Int) : (Int × Int) × Int := if okS a then f a else ((0, 0), 20)
theorem on1_ok {f : Int × Int → (Int × Int) × Int} {a : Int × Int} (h : okS a) : on1 f a = f a := if_pos h
theorem on1_bad {f : Int × Int → (Int × Int) × Int} {a : Int × Int} (h : ¬ okS a) : on1 f a = ((0, 0), 20) := if_neg h

def sAdd : Int × Int → Int × Int → (Int × Int) × Int := on2 fun a b => sT (a.1 + b.1) (a.2 + b.2)
def sSub : Int × Int → Int × Int → (Int × Int) × Int := on2 fun a b => sT (a.1 - b.2) (a.2 - b.1)
def sNeg : Int × Int → (Int × Int) × Int := on1 fun a => ((-a.2, -a.1), 0)
def sAbs : Int × Int → (Int × Int) × Int := on1 fun a => ((max (max a.1 (-a.2)) 0, max a.2 (-a.1)), 0)
def sMin : Int × Int → Int × Int → (Int × Int) × Int := on2 fun a b => ((min a.1 b.1, min a.2 b.2), 0)
def sMax : Int × Int → Int × Int → (Int × Int) × Int := on2 fun a b => ((max a.1 b.1, max a.2 b.2), 0)
def sHull : Int × Int → Int × Int → (Int × Int) × Int := on2 fun a b => ((min a.1 b.1, max a.2 b.2), 0)
def sMeet : Int × Int → Int × Int → (Int × Int) × Int := on2 fun a b => if max a.1 b.1 ≤ min a.2 b.2 then ((max a.1 b.1, min a.2 b.2), 0) else ((0, 0), 4)

def sOf (lo hi : Int) : (Int × Int) × Int := if okS (lo, hi) then ((lo, hi), 0) else ((0, 0), 20)
theorem sOf_ok {lo hi : Int} (h : okS (lo, hi)) : sOf lo hi = ((lo, hi), 0) := if_pos h
theorem sOf_bad {lo hi : Int} (h : ¬ okS (lo, hi)) : sOf lo hi = ((0, 0), 20) := if_neg h
def sHas (s : Int × Int) (v : Int) : Bool × Int := if okS s then (decide (s.1 ≤ v ∧ v ≤ s.2), 0) else (false, 20)
theorem sHas_ok {s : Int × Int} (h : okS s) (v : Int) : sHas s v = (decide (s.1 ≤ v ∧ v ≤ s.2), 0) := if_pos h
theorem sHas_bad {s : Int × Int} (h : ¬ okS s) (v : Int) : sHas s v = (false, 20) := if_neg h
def sNum (f : Int × Int → Int) (s : Int × Int) : Int × Int := if okS s then (f s, 0) else (0, 20)
theorem sNum_ok {f : Int × Int → Int} {s : Int × Int} (h : okS s) : sNum f s = (f s, 0) := if_pos h
theorem sNum_bad {f : Int × Int → Int} {s : Int × Int} (h : ¬ okS s) : sNum f s = (0, 20) := if_neg h
def sMid : Int × Int → Int × Int := sNum fun s => (s.1 + s.2) / 2
def sWidth : Int × Int → Int × Int := sNum fun s => s.2 - s.1
def sSign : Int × Int → Int × Int := sNum fun s => if 0 < s.1 then 1 else if s.2 < 0 then -1 else if s = (0, 0) then 0 else 2
def sDec (n d : Int) : (Int × Int) × Int := (((dec n d).1, (dec n d).2.1), (dec n d).2.2)

/-- Rounded to units of 1 / One. -/
def fl (x : Int) : Int := rnd false x 4294967296
def cl (x : Int) : Int := rnd true x 4294967296
theorem fl_def (x : Int) : fl x = x / 4294967296 := rfl
theorem cl_def (x : Int) : cl x = -((-x) / 4294967296) := rfl
def min4 (a b c d : Int) : Int := min (min a b) (min c d)
def max4 (a b c d : Int) : Int := max (max a b) (max c d)

def sMul : Int × Int → Int × Int → (Int × Int) × Int := on2 fun a b =>
  sT (min4 (fl (a.1 * b.1)) (fl (a.1 * b.2)) (fl (a.2 * b.1)) (fl (a.2 * b.2))) (max4 (cl (a.1 * b.1)) (cl (a.1 * b.2)) (cl (a.2 * b.1)) (cl (a.2 * b.2)))

/-- A quotient, rounded; the divisor is not 0. -/
def dv (up : Bool) (x y : Int) : Int := rnd up (if y < 0 then -(x * 4294967296) else x * 4294967296) (y.natAbs : Int)
def sDiv : Int × Int → Int × Int → (Int × Int) × Int := on2 fun a b => if b.1 ≤ 0 ∧ 0 ≤ b.2 then ((0, 0), 7) else
  sT (min4 (dv false a.1 b.1) (dv false a.1 b.2) (dv false a.2 b.1) (dv false a.2 b.2)) (max4 (dv true a.1 b.1) (dv true a.1 b.2) (dv true a.2 b.1) (dv true a.2 b.2))

def sSqrt : Int × Int → (Int × Int) × Int := on1 fun a => if a.1 < 0 then ((0, 0), 2) else (((rt false a.1).1, (rt true a.2).1), 0)

/-- The power of an interval, n from 1 on. -/
def pw (a : Int × Int) (n : Nat) : (Int × Int) × Int := sT (rnd false (a.1 ^ n) (4294967296 ^ (n - 1))) (rnd true (a.2 ^ n) (4294967296 ^ (n - 1)))
def sPow (a : Int × Int) (n : Int) : (Int × Int) × Int :=
  if okS a then (if n < 0 ∨ 16 < n then ((0, 0), 2) else if n = 0 then ((4294967296, 4294967296), 0) else if n % 2 = 0 then pw (sAbs a).1 n.toNat else pw a n.toNat) else ((0, 0), 20)
end Mnc
