/- Plain: polynomials with interval coefficients; what the operations of package poly answer. No program here. -/
import Derived.Test.YtgfofilkpaelnaaSpanMath
namespace Mnc
open Go

/-- The first error of arguments. -/
def pChk (l : List (Int × Int)) (s : Int × Int) : Int := if 8 < l.length then 3 else if (∀ c ∈ l, okS c) ∧ okS s then 0 else 20
theorem pChk_long {l : List (Int × Int)} {s : Int × Int} (h : 8 < l.length) : pChk l s = 3 := if_pos h
theorem pChk_ok {l : List (Int × Int)} {s : Int × Int} (h : ¬ 8 < l.length) (hl : ∀ c ∈ l, okS c) (hs : okS s) : pChk l s = 0 := by rw [pChk, if_neg h, if_pos ⟨hl, hs⟩]
theorem pChk_bad {l : List (Int × Int)} {s : Int × Int} (h : ¬ 8 < l.length) (hb : ¬ ((∀ c ∈ l, okS c) ∧ okS s)) : pChk l s = 20 := by rw [pChk, if_neg h, if_neg hb]

/-- One step of the value: times s, and one coefficient more. -/
def pStep (s v c : Int × Int) : (Int × Int) × Int := if (sMul v s).2 = 0 then sAdd (sMul v s).1 c else sMul v s
/-- The value of the coefficients that have come, from the last one on, up to the first error. -/
def pAcc (s : Int × Int) : List (Int × Int) → (Int × Int) × Int
  | [] => ((0, 0), 0)
  | c :: r => if (pAcc s r).2 = 0 then pStep s (pAcc s r).1 c else pAcc s r
def pVal (l : List (Int × Int)) (s : Int × Int) : (Int × Int) × Int := pAcc s l
def pEval (l : List (Int × Int)) (s : Int × Int) : (Int × Int) × Int := if pChk l s = 0 then pVal l s else ((0, 0), pChk l s)
theorem pEval_ok {l : List (Int × Int)} {s : Int × Int} (h : pChk l s = 0) : pEval l s = pVal l s := if_pos h
theorem pEval_bad {l : List (Int × Int)} {s : Int × Int} (h : ¬ pChk l s = 0) : pEval l s = ((0, 0), pChk l s) := if_neg h

/-- The cells of a list of intervals. -/
def flat (l : List (Int × Int)) : List Value := l.flatMap fun s => [.int .i64 s.1, .int .i64 s.2]
theorem flat_len (l : List (Int × Int)) : (flat l).length = l.length * 2 := by
  induction l with
  | nil => rfl
  | cons a r ih => simp [flat] at ih ⊢; omega
theorem flat_append (l m : List (Int × Int)) : flat (l ++ m) = flat l ++ flat m := by simp [flat]
theorem flat_one (s : Int × Int) : flat [s] = [.int .i64 s.1, .int .i64 s.2] := rfl
theorem flat_at (l : List (Int × Int)) (i : Nat) (s : Int × Int) (h : l[i]? = some s) : (flat l)[2 * i]? = some (.int .i64 s.1) ∧ (flat l)[2 * i + 1]? = some (.int .i64 s.2) := by
  induction l generalizing i with
  | nil => simp at h
  | cons a r ih =>
    cases i with
    | zero =>
      simp at h
      subst h
      exact ⟨rfl, rfl⟩
    | succ i =>
      simp at h
      obtain ⟨h1, h2⟩ := ih i h
      have e : flat (a :: r) = [.int .i64 a.1, .int .i64 a.2] ++ flat r := rfl
      rw [e, List.getElem?_append_right (by simp; omega), List.getElem?_append_right (by simp; omega)]
      constructor
      · rw [← h1]; congr 1
      · rw [← h2]; congr 1
theorem flat_one_cell (l : List (Int × Int)) : ∀ u ∈ flat l, u.oneCell' = true := by
  intro u hu
  simp only [flat, List.mem_flatMap] at hu
  obtain ⟨s, _, h⟩ := hu
  simp at h
  rcases h with rfl | rfl <;> rfl
end Mnc
