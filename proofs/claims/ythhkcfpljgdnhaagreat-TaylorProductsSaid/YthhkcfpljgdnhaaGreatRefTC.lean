/- Plain: what the reference of layer 21 computes: its sums up to the first error, and that it is what the program computes. No program here. -/
import Derived.Test.YthhkcfpljgdnhaaGreatTayPl
import Derived.Test.YthhkcfpljgdnhaaGreatPl
namespace Mnc
open Go
/-- The reference keeps the first error. -/
def gt (e : Int) (x : (Int × Int) × Int) : (Int × Int) × Int := if e = 0 then (if x.2 = 0 then x else ((0, 0), x.2)) else ((0, 0), e)
theorem gt_ok {x : (Int × Int) × Int} (h : x.2 = 0) : gt 0 x = (x.1, 0) := by
 unfold gt
 rw [if_pos rfl, if_pos h]
 exact Prod.ext rfl h
theorem gt_bad {x : (Int × Int) × Int} (h : ¬ x.2 = 0) : gt 0 x = ((0, 0), x.2) := by
 unfold gt
 rw [if_pos rfl, if_neg h]
theorem gt_err {e : Int} (h : ¬ e = 0) (x : (Int × Int) × Int) : gt e x = ((0, 0), e) := if_neg h
/-- The error behind a computation. -/
def er (e : Int) (n : Int) : Int := if e = 0 then n else e
/-- The sweep. -/
def rSweepFrom (a : List (Int × Int)) : List (Nat × Nat) → Nat → (Int × Int) × Int → (Int × Int) × Int
 | [], _, s => s
 | (i, j) :: l, p, s => rSweepFrom a l (p + 1) (gt (gt s.2 (sMul (tAt a p) (tReach i j))).2 (sAdd s.1 (gt s.2 (sMul (tAt a p) (tReach i j))).1))
def rSweep (a : List (Int × Int)) (e : Int) : (Int × Int) × Int := rSweepFrom a tPairs 0 ((0, 0), e)
theorem rSweepFrom_err (a : List (Int × Int)) {e : Int} (h : ¬ e = 0) : ∀ (l : List (Nat × Nat)) (p : Nat), rSweepFrom a l p ((0, 0), e) = ((0, 0), e)
 | [], _ => rfl
 | (i, j) :: l, p => by rw [rSweepFrom, gt_err h, gt_err h, rSweepFrom_err a h l (p + 1)]
theorem rSweepFrom_ok (a : List (Int × Int)) : ∀ (l : List (Nat × Nat)) (p : Nat) (t : Int × Int), rSweepFrom a l p (t, 0) = gt 0 (tSweepFrom a l p t)
 | [], _, t => by rw [rSweepFrom, tSweepFrom, gt_ok rfl]
 | (i, j) :: l, p, t => by
  rw [rSweepFrom, tSweepFrom]
  by_cases h : (sMul (tAt a p) (tReach i j)).2 = 0
  ·rw [thenE_ok h, gt_ok h]
   by_cases k : (sAdd t (sMul (tAt a p) (tReach i j)).1).2 = 0
   ·rw [thenE_ok k, gt_ok k]
    exact rSweepFrom_ok a l (p + 1) _
   ·rw [thenE_bad k, gt_bad k, rSweepFrom_err a k]
    exact (gt_bad (x := ((0, 0), _)) k).symm
  ·rw [thenE_bad h, gt_bad h, gt_err h, rSweepFrom_err a h]
   exact (gt_bad (x := ((0, 0), _)) h).symm
theorem rSweep_eq (a : List (Int × Int)) (e : Int) : rSweep a e = gt e (tSweep a) := by
 unfold rSweep tSweep
 by_cases h : e = 0
 ·subst h
  exact rSweepFrom_ok a tPairs 0 (0, 0)
 ·rw [rSweepFrom_err a h, gt_err h]
def rBound (a : List (Int × Int)) (e : Int) : (Int × Int) × Int := gt (rSweep a e).2 (sAdd (rSweep a e).1 (tAt a 21))
theorem rBound_eq (a : List (Int × Int)) (e : Int) : rBound a e = gt e (tBound a) := by
 unfold rBound tBound
 rw [rSweep_eq]
 by_cases h : e = 0
 ·subst h
  by_cases k : (tSweep a).2 = 0
  ·rw [gt_ok k, thenE_ok k]
  ·rw [gt_bad k, thenE_bad k, gt_err k]
   exact (gt_bad (x := ((0, 0), _)) k).symm
 ·rw [gt_err h, gt_err h, gt_err h]
/-- A model and an error. -/
abbrev RS := List (Int × Int) × Int
/-- What a computation on a model's sums does, told by what the program does. -/
structure Rl (S : List (Int × Int)) (r : Int → RS) (t : List (Int × Int) × Int) : Prop where
 err : ∀ e, ¬ e = 0 → (r e).2 = e
 ok : t.2 = 0 → r 0 = (t.1, 0)
 bad : ¬ t.2 = 0 → (r 0).2 = t.2
/-- A place of the sums grows. -/
def rPut (S : RS) (n : Nat) (x : Int × Int) : RS := (S.1.set n (gt S.2 (sAdd (tAt S.1 n) x)).1, (gt S.2 (sAdd (tAt S.1 n) x)).2)
def rStep (a b : List (Int × Int)) (i j k l p q : Nat) (S : RS) : RS :=
 if 5 < i + j + k + l then rPut (S.1, (gt (gt S.2 (sMul (tAt a p) (tAt b q))).2 (sMul (gt S.2 (sMul (tAt a p) (tAt b q))).1 (tReach (i + k) (j + l)))).2) 21 (gt (gt S.2 (sMul (tAt a p) (tAt b q))).2 (sMul (gt S.2 (sMul (tAt a p) (tAt b q))).1 (tReach (i + k) (j + l)))).1
 else rPut (S.1, (gt S.2 (sMul (tAt a p) (tAt b q))).2) (tPlace (i + k) (j + l)) (gt S.2 (sMul (tAt a p) (tAt b q))).1
def rInner (a b : List (Int × Int)) (i j p : Nat) : List (Nat × Nat) → Nat → RS → RS
 | [], _, S => S
 | (k, l) :: r, q, S => rInner a b i j p r (q + 1) (rStep a b i j k l p q S)
def rOuter (a b : List (Int × Int)) : List (Nat × Nat) → Nat → RS → RS
 | [], _, S => S
 | (i, j) :: r, p, S => rOuter a b r (p + 1) (rInner a b i j p tPairs 0 S)
def rGrow (S : RS) (x y : Int × Int) : RS := rPut (S.1, (gt S.2 (sMul x y)).2) 21 (gt S.2 (sMul x y)).1
theorem rPut_len (S : RS) (n : Nat) (x : Int × Int) : (rPut S n x).1.length = S.1.length := by unfold rPut; simp
theorem rStep_len (a b : List (Int × Int)) (i j k l p q : Nat) (S : RS) : (rStep a b i j k l p q S).1.length = S.1.length := by
 unfold rStep
 split <;> rw [rPut_len]
theorem rInner_len (a b : List (Int × Int)) (i j p : Nat) : ∀ (l : List (Nat × Nat)) (q : Nat) (S : RS), (rInner a b i j p l q S).1.length = S.1.length
 | [], _, _ => rfl
 | (k, l) :: r, q, S => by rw [rInner, rInner_len a b i j p r, rStep_len]
theorem rOuter_len (a b : List (Int × Int)) : ∀ (l : List (Nat × Nat)) (p : Nat) (S : RS), (rOuter a b l p S).1.length = S.1.length
 | [], _, _ => rfl
 | (i, j) :: r, p, S => by rw [rOuter, rOuter_len a b r, rInner_len]
theorem rGrow_len (S : RS) (x y : Int × Int) : (rGrow S x y).1.length = S.1.length := by unfold rGrow; rw [rPut_len]
theorem rPut_err {S : RS} (h : ¬ S.2 = 0) (n : Nat) (x : Int × Int) : (rPut S n x).2 = S.2 := by unfold rPut; rw [gt_err h]
theorem rPut_ok {S : List (Int × Int)} {n : Nat} {x : Int × Int} : Rl S (fun e => rPut (S, e) n x) (thenE [] (sAdd (tAt S n) x) fun t => (S.set n t, 0)) where
 err := fun e h => rPut_err (S := (S, e)) h n x
 ok := fun h => by
  unfold thenE at h ⊢
  split at h
  ·rename_i k
   unfold rPut
   rw [gt_ok k, if_pos k]
  ·exact absurd h ‹_›
 bad := fun h => by
  unfold thenE at h ⊢
  split at h
  ·exact absurd rfl h
  ·rename_i k
   unfold rPut
   rw [gt_bad k, if_neg k]
/-- A product first, and the sums with it. -/
theorem Rl.mul {S : List (Int × Int)} {x : (Int × Int) × Int} {r : (Int × Int) → Int → RS} {t : Int × Int → List (Int × Int) × Int} (h : ∀ w, Rl S (r w) (t w)) : Rl S (fun e => r (gt e x).1 (gt e x).2) (thenE [] x t) where
 err := fun e k => by simp only [gt_err k]; exact (h _).err e k
 ok := fun k => by
  by_cases hx : x.2 = 0
  ·rw [thenE_ok hx] at k ⊢
   simp only [gt_ok hx]
   exact (h _).ok k
  ·rw [thenE_bad hx] at k
   exact absurd k hx
 bad := fun k => by
  by_cases hx : x.2 = 0
  ·rw [thenE_ok hx] at k ⊢
   simp only [gt_ok hx]
   exact (h _).bad k
  ·rw [thenE_bad hx]
   simp only [gt_bad hx]
   exact (h _).err _ hx
/-- One computation behind another. -/
theorem Rl.then {S : List (Int × Int)} {r : Int → RS} {t : List (Int × Int) × Int} {r2 : RS → RS} {t2 : List (Int × Int) → List (Int × Int) × Int} (h : Rl S r t) (h2 : ∀ S, Rl S (fun e => r2 (S, e)) (t2 S)) : Rl S (fun e => r2 (r e)) (thenE [] t t2) where
 err := fun e k => by
  have := h.err e k
  have h3 := (h2 (r e).1).err (r e).2 (by rw [this]; exact k)
  exact h3.trans this
 ok := fun k => by
  by_cases ht : t.2 = 0
  ·rw [thenE_ok ht] at k ⊢
   simp only [h.ok ht]
   exact (h2 _).ok k
  ·rw [thenE_bad ht] at k
   exact absurd k ht
 bad := fun k => by
  by_cases ht : t.2 = 0
  ·rw [thenE_ok ht] at k ⊢
   simp only [h.ok ht]
   exact (h2 _).bad k
  ·rw [thenE_bad ht]
   have := h.bad ht
   have h3 := (h2 (r 0).1).err (r 0).2 (by rw [this]; exact ht)
   exact h3.trans this
theorem Rl.id (S : List (Int × Int)) : Rl S (fun e => (S, e)) (S, 0) := ⟨fun _ _ => rfl, fun _ => rfl, fun h => absurd rfl h⟩
theorem rStep_rl (a b : List (Int × Int)) (i j k l p q : Nat) (S : List (Int × Int)) : Rl S (fun e => rStep a b i j k l p q (S, e)) (tStep a b i j k l p q S) := by
 unfold rStep tStep
 by_cases h : 5 < i + j + k + l
 ·simp only [if_pos h]
  exact Rl.mul (r := fun w e => rPut (S, (gt e (sMul w (tReach (i + k) (j + l)))).2) 21 (gt e (sMul w (tReach (i + k) (j + l)))).1) fun w => Rl.mul (r := fun v e => rPut (S, e) 21 v) fun _ => rPut_ok
 ·simp only [if_neg h]
  exact Rl.mul (r := fun w e => rPut (S, e) (tPlace (i + k) (j + l)) w) fun _ => rPut_ok
theorem rInner_rl (a b : List (Int × Int)) (i j p : Nat) : ∀ (l : List (Nat × Nat)) (q : Nat) (S : List (Int × Int)), Rl S (fun e => rInner a b i j p l q (S, e)) (tInner a b i j p l q S)
 | [], _, S => Rl.id S
 | (k, l) :: r, q, S => (rStep_rl a b i j k l p q S).then (r2 := rInner a b i j p r (q + 1)) fun S => rInner_rl a b i j p r (q + 1) S
theorem rOuter_rl (a b : List (Int × Int)) : ∀ (l : List (Nat × Nat)) (p : Nat) (S : List (Int × Int)), Rl S (fun e => rOuter a b l p (S, e)) (tOuter a b l p S)
 | [], _, S => Rl.id S
 | (i, j) :: r, p, S => (rInner_rl a b i j p tPairs 0 S).then (r2 := rOuter a b r (p + 1)) fun S => rOuter_rl a b r (p + 1) S
theorem rGrow_rl (S : List (Int × Int)) (x y : Int × Int) : Rl S (fun e => rGrow (S, e) x y) (tGrow S x y) := Rl.mul (r := fun v e => rPut (S, e) 21 v) fun _ => rPut_ok
/-- The products with the remainders. -/
def rRest (a b : List (Int × Int)) (S : RS) : RS :=
 rGrow (rGrow ((rGrow (S.1, (rSweep a S.2).2) (rSweep a S.2).1 (tAt b 21)).1, (rSweep b (rGrow (S.1, (rSweep a S.2).2) (rSweep a S.2).1 (tAt b 21)).2).2) (tAt a 21) (rSweep b (rGrow (S.1, (rSweep a S.2).2) (rSweep a S.2).1 (tAt b 21)).2).1) (tAt a 21) (tAt b 21)
def rProduct (a b : List (Int × Int)) (e : Int) : RS := rRest a b (rOuter a b tPairs 0 (zeroM, e))
theorem rProduct_len (a b : List (Int × Int)) (e : Int) : (rProduct a b e).1.length = 22 := by
 unfold rProduct rRest
 rw [rGrow_len, rGrow_len, rGrow_len, rOuter_len]
 rfl
theorem rProduct_rl (a b : List (Int × Int)) : Rl zeroM (rProduct a b) (tProduct a b) := by
 unfold tProduct
 refine (rOuter_rl a b tPairs 0 zeroM).then (r2 := rRest a b) fun S => ?_
 have h1 : ∀ w, Rl S (fun e => (fun (S : RS) => rGrow (rGrow (S.1, (rSweep b S.2).2) (tAt a 21) (rSweep b S.2).1) (tAt a 21) (tAt b 21)) (rGrow (S, e) w (tAt b 21))) (thenE [] (tGrow S w (tAt b 21)) fun S => thenE [] (tSweep b) fun s => thenE [] (tGrow S (tAt a 21) s) fun S => tGrow S (tAt a 21) (tAt b 21)) := fun w => by
  refine (rGrow_rl S w (tAt b 21)).then (r2 := fun S => rGrow (rGrow (S.1, (rSweep b S.2).2) (tAt a 21) (rSweep b S.2).1) (tAt a 21) (tAt b 21)) fun S => ?_
  have h2 := Rl.mul (S := S) (x := tSweep b) (r := fun w e => rGrow (rGrow (S, e) (tAt a 21) w) (tAt a 21) (tAt b 21)) (t := fun s => thenE [] (tGrow S (tAt a 21) s) fun S => tGrow S (tAt a 21) (tAt b 21)) fun w => (rGrow_rl S (tAt a 21) w).then (r2 := fun S => rGrow S (tAt a 21) (tAt b 21)) fun S => rGrow_rl S _ _
  simpa only [rSweep_eq] using h2
 have h3 := Rl.mul (S := S) (x := tSweep a) (r := fun w e => (fun (S : RS) => rGrow (rGrow (S.1, (rSweep b S.2).2) (tAt a 21) (rSweep b S.2).1) (tAt a 21) (tAt b 21)) (rGrow (S, e) w (tAt b 21))) h1
 unfold rRest
 simpa only [rSweep_eq] using h3
/-- What is told in the end. -/
def rTold (r : RS) : List (Int × Int) × Int := if r.2 = 0 then r else (zeroM, r.2)
theorem rTold_eq {S : List (Int × Int)} {r : Int → RS} {t : List (Int × Int) × Int} (h : Rl S r t) (u : Unit × Int) : rTold (r u.2) = ((if (thenE [] u fun _ => t).2 = 0 then (thenE [] u fun _ => t).1 else zeroM), (thenE [] u fun _ => t).2) := by
 unfold rTold
 by_cases hu : u.2 = 0
 ·rw [thenE_ok hu, hu]
  by_cases k : t.2 = 0
  ·rw [h.ok k, if_pos rfl, if_pos k]
   exact Prod.ext rfl k.symm
  ·rw [if_neg (by rw [h.bad k]; exact k), if_neg k, h.bad k]
 ·rw [thenE_bad hu, h.err _ hu, if_neg hu]
  simp only [if_neg hu]
end Mnc
