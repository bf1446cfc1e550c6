/- Plain: what the operations of package taylor compute: models of 21 coefficients and a remainder as lists of 22 intervals; a result and its error. No program here. -/
import Derived.Test.YthhkcfpljgdnhaaGreatPl
namespace Mnc
open Go

/-- A computation goes on where there is no error. -/
def thenE {α β : Type} (z : β) (x : α × Int) (f : α → β × Int) : β × Int := if x.2 = 0 then f x.1 else (z, x.2)
theorem thenE_ok {α β : Type} {z : β} {x : α × Int} {f : α → β × Int} (h : x.2 = 0) : thenE z x f = f x.1 := if_pos h
theorem thenE_bad {α β : Type} {z : β} {x : α × Int} {f : α → β × Int} (h : ¬ x.2 = 0) : thenE z x f = (z, x.2) := if_neg h
/-- The pairs of exponents, in the order of their places. -/
def tPairs : List (Nat × Nat) := (List.range 6).flatMap fun s => (List.range (s + 1)).map fun i => (i, s - i)
def tPlace (i j : Nat) : Nat := (i + j) * (i + j + 1) / 2 + i
def tReach (i j : Nat) : Int × Int := if i + j = 0 then (4294967296, 4294967296) else if i % 2 = 0 ∧ j % 2 = 0 then (0, 4294967296) else (-4294967296, 4294967296)
def tAt (a : List (Int × Int)) (p : Nat) : Int × Int := a.getD p (0, 0)
/-- An operation on all parts of two models. -/
def tEach (f : Int × Int → Int × Int → (Int × Int) × Int) : List (Int × Int) → List (Int × Int) → List (Int × Int) × Int
 | x :: a, y :: b => thenE [] (f x y) fun r => thenE [] (tEach f a b) fun t => (r :: t, 0)
 | _, _ => ([], 0)
/-- The sweep of a model, from a place on. -/
def tSweepFrom (a : List (Int × Int)) : List (Nat × Nat) → Nat → Int × Int → (Int × Int) × Int
 | [], _, t => (t, 0)
 | (i, j) :: l, p, t => thenE (0, 0) (sMul (tAt a p) (tReach i j)) fun w => thenE (0, 0) (sAdd t w) fun t => tSweepFrom a l (p + 1) t
def tSweep (a : List (Int × Int)) : (Int × Int) × Int := tSweepFrom a tPairs 0 (0, 0)
def tBound (a : List (Int × Int)) : (Int × Int) × Int := thenE (0, 0) (tSweep a) fun s => sAdd s (tAt a 21)
/-- One step of a product: the sums and, at place 21, the remainder. -/
def tStep (a b : List (Int × Int)) (i j k l p q : Nat) (S : List (Int × Int)) : List (Int × Int) × Int :=
 thenE [] (sMul (tAt a p) (tAt b q)) fun w =>
  if 5 < i + j + k + l then thenE [] (sMul w (tReach (i + k) (j + l))) fun r => thenE [] (sAdd (tAt S 21) r) fun t => (S.set 21 t, 0)
  else thenE [] (sAdd (tAt S (tPlace (i + k) (j + l))) w) fun t => (S.set (tPlace (i + k) (j + l)) t, 0)
def tInner (a b : List (Int × Int)) (i j p : Nat) : List (Nat × Nat) → Nat → List (Int × Int) → List (Int × Int) × Int
 | [], _, S => (S, 0)
 | (k, l) :: r, q, S => thenE [] (tStep a b i j k l p q S) fun S => tInner a b i j p r (q + 1) S
def tOuter (a b : List (Int × Int)) : List (Nat × Nat) → Nat → List (Int × Int) → List (Int × Int) × Int
 | [], _, S => (S, 0)
 | (i, j) :: r, p, S => thenE [] (tInner a b i j p tPairs 0 S) fun S => tOuter a b r (p + 1) S
/-- The remainder grows by a product. -/
def tGrow (S : List (Int × Int)) (x y : Int × Int) : List (Int × Int) × Int := thenE [] (sMul x y) fun r => thenE [] (sAdd (tAt S 21) r) fun t => (S.set 21 t, 0)
def tProduct (a b : List (Int × Int)) : List (Int × Int) × Int :=
 thenE [] (tOuter a b tPairs 0 (List.replicate 22 (0, 0))) fun S =>
  thenE [] (tSweep a) fun s => thenE [] (tGrow S s (tAt b 21)) fun S =>
   thenE [] (tSweep b) fun s => thenE [] (tGrow S (tAt a 21) s) fun S => tGrow S (tAt a 21) (tAt b 21)
def tBy (f : Int × Int → Int × Int → (Int × Int) × Int) (a : List (Int × Int)) (s : Int × Int) : List (Int × Int) × Int := tEach (fun x _ => f x s) a a
/-- The series of a relative part; the numbers stand with the greatest power first. -/
def tSeries (h : List (Int × Int)) : List Int → List (Int × Int) → List (Int × Int) × Int
 | [], m => (m, 0)
 | s :: r, m => thenE [] (tProduct h m) fun m => thenE [] (sAdd (tAt m 0) (s, s)) fun c => tSeries h r (m.set 0 c)
def tRelative (a : List (Int × Int)) : ((List (Int × Int)) × (Int × Int) × (Int × Int)) × Int :=
 thenE ([], (0, 0), (0, 0)) (tBy sDiv (a.set 0 (0, 0)) (tAt a 0)) fun h => thenE ([], (0, 0), (0, 0)) (tBound h) fun b =>
  thenE ([], (0, 0), (0, 0)) (sMul (0, 4294967296) b) fun r => thenE ([], (0, 0), (0, 0)) (sAdd (4294967296, 4294967296) r) fun e => ((h, b, e), 0)
def zeroM : List (Int × Int) := List.replicate 22 (0, 0)
/-- The reciprocal of a valid model. -/
def tInverse (a : List (Int × Int)) : List (Int × Int) × Int :=
 if (tAt a 0).1 ≤ 0 ∧ 0 ≤ (tAt a 0).2 then ([], 7) else
 thenE [] (tRelative a) fun r => if r.2.2.1 ≤ 0 then ([], 7) else
  thenE [] (tSeries r.1 [4294967296, -4294967296, 4294967296, -4294967296, 4294967296] (zeroM.set 0 (-4294967296, -4294967296))) fun m =>
   thenE [] (sPow r.2.1 6) fun six => thenE [] (sPow r.2.2 7) fun sev => thenE [] (sDiv six sev) fun d => thenE [] (sAdd (tAt m 21) d) fun t => tBy sDiv (m.set 21 t) (tAt a 0)
/-- The model 1 + t/16 u of the examples. -/
def tLine (t : Int) : List (Int × Int) := (zeroM.set 0 (4294967296, 4294967296)).set 2 (t * 268435456, t * 268435456)
end Mnc

/- Plain: a product of two models, step by step. No program here. -/
namespace Mnc
open Go
theorem tAt_app21 {T : List (Int × Int)} {r : Int × Int} (h : T.length = 21) : tAt (T ++ [r]) 21 = r := by
 unfold tAt; simp [List.getD, h]
theorem tAt_app {T : List (Int × Int)} {r : Int × Int} {n : Nat} (h : T.length = 21) (hn : n < 21) : tAt (T ++ [r]) n = tAt T n := by
 unfold tAt; simp [List.getD, List.getElem?_append_left (show n < T.length by omega)]
theorem set_app21 {T : List (Int × Int)} {r g : Int × Int} (h : T.length = 21) : (T ++ [r]).set 21 g = T ++ [g] := by
 rw [List.set_append_right _ _ (by omega), h]; rfl
theorem set_app {T : List (Int × Int)} {r g : Int × Int} {n : Nat} (h : T.length = 21) (hn : n < 21) : (T ++ [r]).set n g = T.set n g ++ [r] := by
 rw [List.set_append_left _ _ (by omega)]
theorem tPlace_lt : ∀ u v : Fin 6, u.1 + v.1 ≤ 5 → tPlace u.1 v.1 < 21 := by decide
section
variable {a c T : List (Int × Int)} {t : Int × Int} {i j k m p q : Nat} {l : List (Nat × Nat)}
theorem tStep_x {S : List (Int × Int)} (hx : ¬ (sMul (tAt a p) (tAt c q)).2 = 0) : (tStep a c i j k m p q S).2 = (sMul (tAt a p) (tAt c q)).2 := by
 rw [tStep, thenE_bad hx]
theorem tStep_hi (hT : T.length = 21) (h5 : 5 < i + j + k + m) (hx : (sMul (tAt a p) (tAt c q)).2 = 0) : tStep a c i j k m p q (T ++ [t]) =
  thenE [] (sMul (sMul (tAt a p) (tAt c q)).1 (tReach (i + k) (j + m))) fun r => thenE [] (sAdd t r) fun g => (T ++ [g], 0) := by
 rw [tStep, thenE_ok hx]
 simp only [if_pos h5, tAt_app21 hT, set_app21 hT]
theorem tStep_lo (hT : T.length = 21) (h5 : ¬ 5 < i + j + k + m) (hx : (sMul (tAt a p) (tAt c q)).2 = 0) : tStep a c i j k m p q (T ++ [t]) =
  thenE [] (sAdd (tAt T (tPlace (i + k) (j + m))) (sMul (tAt a p) (tAt c q)).1) fun g => (T.set (tPlace (i + k) (j + m)) g ++ [t], 0) := by
 have hn := tPlace_lt ⟨i + k, by omega⟩ ⟨j + m, by omega⟩ (by dsimp only; omega)
 dsimp only at hn
 rw [tStep, thenE_ok hx]
 simp only [if_neg h5, tAt_app hT hn, set_app hT hn]
theorem tInner_ok {S S' : List (Int × Int)} (h : tStep a c i j k m p q S = (S', 0)) : tInner a c i j p ((k, m) :: l) q S = tInner a c i j p l (q + 1) S' := by
 rw [tInner, h, thenE_ok rfl]
theorem tInner_bad {S : List (Int × Int)} (h : ¬ (tStep a c i j k m p q S).2 = 0) : (tInner a c i j p ((k, m) :: l) q S).2 = (tStep a c i j k m p q S).2 := by
 rw [tInner, thenE_bad h]
theorem tOuter_ok {S S' : List (Int × Int)} (h : tInner a c i j p tPairs 0 S = (S', 0)) : tOuter a c ((i, j) :: l) p S = tOuter a c l (p + 1) S' := by
 rw [tOuter, h, thenE_ok rfl]
theorem tOuter_bad {S : List (Int × Int)} (h : ¬ (tInner a c i j p tPairs 0 S).2 = 0) : (tOuter a c ((i, j) :: l) p S).2 = (tInner a c i j p tPairs 0 S).2 := by
 rw [tOuter, thenE_bad h]
end
end Mnc
namespace Mnc
open Go
theorem thenE_assoc {α β γ : Type} {y : β} {z : γ} {x : α × Int} {f : α → β × Int} {g : β → γ × Int} : thenE z (thenE y x f) g = thenE z x fun v => thenE z (f v) g := by
 by_cases h : x.2 = 0
 ·rw [thenE_ok h, thenE_ok h]
 ·rw [thenE_bad h, thenE_bad h, thenE_bad (show ¬ (y, x.2).2 = 0 from h)]
theorem thenE_pair {α β : Type} {z : β} {x : α} {f : α → β × Int} : thenE z (x, 0) f = f x := thenE_ok rfl
theorem tProduct_bad {a c : List (Int × Int)} (h : ¬ (tOuter a c tPairs 0 zeroM).2 = 0) : (tProduct a c).2 = (tOuter a c tPairs 0 zeroM).2 := by
 rw [tProduct, show List.replicate 22 (0, 0) = zeroM from rfl, thenE_bad h]
theorem tProduct_of {a c T : List (Int × Int)} {r : Int × Int} (hT : T.length = 21) (h : tOuter a c tPairs 0 zeroM = (T ++ [r], 0)) : tProduct a c =
  thenE [] (tSweep a) fun s => thenE [] (sMul s (tAt c 21)) fun x => thenE [] (sAdd r x) fun r1 => thenE [] (tSweep c) fun s => thenE [] (sMul (tAt a 21) s) fun x => thenE [] (sAdd r1 x) fun r2 =>
   thenE [] (sMul (tAt a 21) (tAt c 21)) fun x => thenE [] (sAdd r2 x) fun r3 => (T ++ [r3], 0) := by
 rw [tProduct, show List.replicate 22 (0, 0) = zeroM from rfl, h, thenE_pair]
 simp only [tGrow, thenE_assoc, thenE_pair, tAt_app21 hT, set_app21 hT]
end Mnc
