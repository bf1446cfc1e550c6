/- Plain: the coefficients of the derivative; what Slope answers. No program here. -/
import Derived.Test.YtgfofilkpaelnaaPolyPlain
import Derived.Test.YtgfofilkpaelnaaSpanPlainB
namespace Mnc
open Go
/-- The coefficients of the derivative, up to the first error. -/
def pScA : List (Int × Int) → Nat → List (Int × Int) → List (Int × Int) × Int
  | [], _, acc => (acc, 0)
  | c :: r, i, acc => if (sScl c ((i : Int) + 1) 1).2 = 0 then pScA r (i + 1) (acc ++ [(sScl c ((i : Int) + 1) 1).1]) else ([], (sScl c ((i : Int) + 1) 1).2)
theorem pScA_ok {c : Int × Int} {r acc : List (Int × Int)} {i : Nat} (h : (sScl c ((i : Int) + 1) 1).2 = 0) : pScA (c :: r) i acc = pScA r (i + 1) (acc ++ [(sScl c ((i : Int) + 1) 1).1]) := if_pos h
theorem pScA_bad {c : Int × Int} {r acc : List (Int × Int)} {i : Nat} (h : ¬ (sScl c ((i : Int) + 1) 1).2 = 0) : pScA (c :: r) i acc = ([], (sScl c ((i : Int) + 1) 1).2) := if_neg h
def pSlope (l : List (Int × Int)) (s : Int × Int) : (Int × Int) × Int :=
  if pChk l s = 0 then (if l = [] then ((0, 0), 0) else if (pScA l.tail 0 []).2 = 0 then pVal (pScA l.tail 0 []).1 s else ((0, 0), (pScA l.tail 0 []).2)) else ((0, 0), pChk l s)

theorem flat_cons (a : Int × Int) (r : List (Int × Int)) : flat (a :: r) = .int .i64 a.1 :: .int .i64 a.2 :: flat r := rfl
theorem flat_set (L : List (Int × Int)) (k : Nat) (x : Int × Int) (h : k < L.length) : ((flat L).set (k * 2) (.int .i64 x.1)).set (k * 2 + 1) (.int .i64 x.2) = flat (L.set k x) := by
  induction L generalizing k with
  | nil => simp at h
  | cons a r ih =>
    cases k with
    | zero => rfl
    | succ k =>
      have e1 : (k + 1) * 2 = k * 2 + 1 + 1 := by omega
      rw [flat_cons, e1, List.set_cons_succ, List.set_cons_succ, List.set_cons_succ, List.set_cons_succ, ih k (by simpa using h), List.set_cons_succ, flat_cons]
end Mnc
