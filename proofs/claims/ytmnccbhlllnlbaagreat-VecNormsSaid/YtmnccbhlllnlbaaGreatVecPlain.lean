/- Plain: vectors of intervals; what the operations of package vec answer. No program here. -/
import Derived.Test.YtmnccbhlllnlbaaGreatPl
namespace Mnc
open Go

/-- A vector of three intervals. -/
abbrev V3 := (Int × Int) × (Int × Int) × (Int × Int)
def V3.val (a : V3) : Value := .agg #[.int .i64 a.1.1, .int .i64 a.1.2, .int .i64 a.2.1.1, .int .i64 a.2.1.2, .int .i64 a.2.2.1, .int .i64 a.2.2.2]
def v30 : V3 := ((0, 0), (0, 0), (0, 0))
/-- The first of two errors. -/
def fst2 (a b : Int) : Int := if a = 0 then b else a
theorem fst2_zero (b : Int) : fst2 0 b = b := rfl
theorem fst2_left {a : Int} (h : a ≠ 0) (b : Int) : fst2 a b = a := if_neg h
theorem fst2_self (a : Int) : fst2 a 0 = a := by
  unfold fst2
  split <;> simp_all
def okV (a : V3) : Prop := okS a.1 ∧ okS a.2.1 ∧ okS a.2.2
instance (a : V3) : Decidable (okV a) := by unfold okV; exact inferInstance
/-- The error behind the checks of a vector. -/
def vNote (e : Int) (a : V3) : Int := fst2 (fst2 (fst2 e (sChk a.1)) (sChk a.2.1)) (sChk a.2.2)
def each3 (f : Int × Int → Int × Int → (Int × Int) × Int) (a b : V3) : V3 := ((f a.1 b.1).1, (f a.2.1 b.2.1).1, (f a.2.2 b.2.2).1)
def err3 (f : Int × Int → Int × Int → (Int × Int) × Int) (e : Int) (a b : V3) : Int := fst2 (fst2 (fst2 e (f a.1 b.1).2) (f a.2.1 b.2.1).2) (f a.2.2 b.2.2).2
/-- A vector as a list; each's result and error behind k rounds. -/
def vl (a : V3) : List (Int × Int) := [a.1, a.2.1, a.2.2]
def outL (f : Int × Int → Int × Int → (Int × Int) × Int) (a b : V3) (k : Nat) : List (Int × Int) :=
  [if 0 < k then (f a.1 b.1).1 else (0, 0), if 1 < k then (f a.2.1 b.2.1).1 else (0, 0), if 2 < k then (f a.2.2 b.2.2).1 else (0, 0)]
def errL (f : Int × Int → Int × Int → (Int × Int) × Int) (e : Int) (a b : V3) (k : Nat) : Int :=
  if k = 0 then e else if k = 1 then fst2 e (f a.1 b.1).2 else if k = 2 then fst2 (fst2 e (f a.1 b.1).2) (f a.2.1 b.2.1).2 else err3 f e a b
theorem out_next {f : Int × Int → Int × Int → (Int × Int) × Int} {e : Int} {a b : V3} {k : Nat} {x y : Int × Int} (hk : k < 3) (hx : (vl a)[k]? = some x) (hy : (vl b)[k]? = some y) :
    outL f a b (k + 1) = (outL f a b k).set k (f x y).1 ∧ errL f e a b (k + 1) = fst2 (errL f e a b k) (f x y).2 := by
  obtain rfl | rfl | rfl : k = 0 ∨ k = 1 ∨ k = 2 := by omega
  all_goals
    simp [vl] at hx hy
    subst hx hy
    exact ⟨rfl, rfl⟩
theorem outL_at {f : Int × Int → Int × Int → (Int × Int) × Int} {a b : V3} {k : Nat} (hk : k < 3) : ∃ z, (outL f a b k)[k]? = some z := by
  obtain rfl | rfl | rfl : k = 0 ∨ k = 1 ∨ k = 2 := by omega
  all_goals exact ⟨_, rfl⟩
theorem vl_at (a : V3) {k : Nat} (hk : k < 3) : ∃ z, (vl a)[k]? = some z := by
  obtain rfl | rfl | rfl : k = 0 ∨ k = 1 ∨ k = 2 := by omega
  all_goals exact ⟨_, rfl⟩
def toldV (r : V3) (e : Int) : V3 × Int := if e = 0 then (r, 0) else (v30, e)
def toldS (r : Int × Int) (e : Int) : (Int × Int) × Int := if e = 0 then (r, 0) else ((0, 0), e)
def alikeV (s : Int × Int) : V3 := (s, s, s)
def turnV (a : V3) : V3 := (a.2.1, a.2.2, a.1)

def negF (a _ : Int × Int) : (Int × Int) × Int := sNeg a
def sqrF (a _ : Int × Int) : (Int × Int) × Int := sPow a 2
def vOp (f : Int × Int → Int × Int → (Int × Int) × Int) (a b : V3) : V3 × Int := toldV (each3 f a b) (err3 f (vNote (vNote 0 a) b) a b)
def vAdd := vOp sAdd
def vSub := vOp sSub
def vNeg (a : V3) : V3 × Int := toldV (each3 negF a a) (err3 negF (vNote 0 a) a a)
def vScale (a : V3) (s : Int × Int) : V3 × Int := vOp sMul a (alikeV s)
/-- A sum of three, with the error kept. -/
def sum3 (p : V3) : Int × Int := (sAdd (sAdd p.1 p.2.1).1 p.2.2).1
def sumE (e : Int) (p : V3) : Int := fst2 (fst2 e (sAdd p.1 p.2.1).2) (sAdd (sAdd p.1 p.2.1).1 p.2.2).2
def dotS (a b : V3) : Int × Int := sum3 (each3 sMul a b)
def dotE (e : Int) (a b : V3) : Int := sumE (err3 sMul e a b) (each3 sMul a b)
def vDot (a b : V3) : (Int × Int) × Int := toldS (dotS a b) (dotE (vNote (vNote 0 a) b) a b)
def crP (a b : V3) : V3 := each3 sMul (turnV a) (turnV (turnV b))
def crQ (a b : V3) : V3 := each3 sMul (turnV (turnV a)) (turnV b)
def vCross (a b : V3) : V3 × Int := toldV (each3 sSub (crP a b) (crQ a b)) (err3 sSub (err3 sMul (err3 sMul (vNote (vNote 0 a) b) (turnV a) (turnV (turnV b))) (turnV (turnV a)) (turnV b)) (crP a b) (crQ a b))
def normS (a : V3) : Int × Int := (sSqrt (sum3 (each3 sqrF a a))).1
def normE (e : Int) (a : V3) : Int := fst2 (sumE (err3 sqrF e a a) (each3 sqrF a a)) (sSqrt (sum3 (each3 sqrF a a))).2
def vNorm (a : V3) : (Int × Int) × Int := toldS (normS a) (normE (vNote 0 a) a)
def vUnit (a : V3) : V3 × Int := toldV (each3 sDiv a (alikeV (normS a))) (err3 sDiv (normE (vNote 0 a) a) a (alikeV (normS a)))
end Mnc
