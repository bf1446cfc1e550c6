/- Plain laws of models of small numbers: products have no error and do not depend on the order; times 1 they change nothing; values lie in bounds. No program here. -/
import Derived.Test.YthhkcfpljgdnhaaTayPl
import Derived.Test.YthhkcfpljgdnhaaSpanLawB
import Derived.Test.YthhkcfpljgdnhaaPl
namespace Mnc
open Go
/-- An interval of numbers of at most M. -/
def bd (M : Int) (s : Int × Int) : Prop := -M ≤ s.1 ∧ s.1 ≤ s.2 ∧ s.2 ≤ M
theorem bd.ok {M : Int} {s : Int × Int} (h : bd M s) (hM : M ≤ 4503599627370496) : okS s := by unfold bd at h; unfold okS; omega
theorem bd.up {M N : Int} {s : Int × Int} (h : bd M s) (hM : M ≤ N) : bd N s := by unfold bd at h ⊢; omega
theorem bd_zero {M : Int} (h : 0 ≤ M) : bd M (0, 0) := by unfold bd; omega
def pls (s t : Int × Int) : Int × Int := (s.1 + t.1, s.2 + t.2)
theorem pls_bd {M N : Int} {s t : Int × Int} (h : bd M s) (k : bd N t) : bd (M + N) (pls s t) := by unfold bd pls at *; simp only; omega
theorem sAdd_bd {M N : Int} {s t : Int × Int} (h : bd M s) (k : bd N t) (hM : M + N ≤ 4503599627370496) : sAdd s t = (pls s t, 0) := by
  have h0 : 0 ≤ M := by unfold bd at h; omega
  have k0 : 0 ≤ N := by unfold bd at k; omega
  have := pls_bd h k
  unfold sAdd
  rw [on2_ok (h.ok (by omega)) (k.ok (by omega)), sT_ok (by unfold bd pls at this; simp only at this; omega) (by unfold bd pls at this; simp only at this; omega)]
  rfl
theorem mul_abs {M N x y : Int} (h1 : -M ≤ x) (h2 : x ≤ M) (h3 : -N ≤ y) (h4 : y ≤ N) : -(M * N) ≤ x * y ∧ x * y ≤ M * N := by
  have a1 : 0 ≤ (M - x) * (N + y) := Int.mul_nonneg (by omega) (by omega)
  have a2 : 0 ≤ (M + x) * (N - y) := Int.mul_nonneg (by omega) (by omega)
  have a3 : 0 ≤ (M - x) * (N - y) := Int.mul_nonneg (by omega) (by omega)
  have a4 : 0 ≤ (M + x) * (N + y) := Int.mul_nonneg (by omega) (by omega)
  rw [Int.sub_mul, Int.mul_add, Int.mul_add] at a1
  rw [Int.add_mul, Int.mul_sub, Int.mul_sub] at a2
  rw [Int.sub_mul, Int.mul_sub, Int.mul_sub] at a3
  rw [Int.add_mul, Int.mul_add, Int.mul_add] at a4
  omega
def mulP (a b : Int × Int) : Int × Int := (min4 (fl (a.1 * b.1)) (fl (a.1 * b.2)) (fl (a.2 * b.1)) (fl (a.2 * b.2)), max4 (cl (a.1 * b.1)) (cl (a.1 * b.2)) (cl (a.2 * b.1)) (cl (a.2 * b.2)))
theorem fl_abs {K x : Int} (h1 : -(K * 4294967296) ≤ x) (h2 : x ≤ K * 4294967296) : -K ≤ fl x ∧ fl x ≤ K ∧ -K ≤ cl x ∧ cl x ≤ K := by rw [fl_def, cl_def]; omega
theorem mulP_bd {M N K : Int} {a b : Int × Int} (h : bd M a) (k : bd N b) (hK : M * N ≤ K * 4294967296) : bd K (mulP a b) := by
  unfold bd at h k
  have e : ∀ x y, -M ≤ x → x ≤ M → -N ≤ y → y ≤ N → -K ≤ fl (x * y) ∧ fl (x * y) ≤ K ∧ -K ≤ cl (x * y) ∧ cl (x * y) ≤ K := fun x y a b c d => by
    have := mul_abs a b c d
    exact fl_abs (by omega) (by omega)
  have e1 := e a.1 b.1 (by omega) (by omega) (by omega) (by omega)
  have e2 := e a.1 b.2 (by omega) (by omega) (by omega) (by omega)
  have e3 := e a.2 b.1 (by omega) (by omega) (by omega) (by omega)
  have e4 := e a.2 b.2 (by omega) (by omega) (by omega) (by omega)
  have c1 := fl_le_cl (a.1 * b.1)
  unfold bd mulP min4 max4
  simp only
  omega
theorem sMul_bd {M N K : Int} {a b : Int × Int} (h : bd M a) (k : bd N b) (hM : M ≤ 4503599627370496) (hN : N ≤ 4503599627370496) (hK : M * N ≤ K * 4294967296) (hK2 : K ≤ 4503599627370496) : sMul a b = (mulP a b, 0) := by
  have := mulP_bd h k hK
  unfold sMul
  rw [on2_ok (h.ok hM) (k.ok hN)]
  unfold bd mulP at this
  simp only at this
  exact sT_ok (by omega) (by omega)
theorem mulP_comm (a b : Int × Int) : mulP a b = mulP b a := by
  unfold mulP
  rw [Int.mul_comm a.1 b.1, Int.mul_comm a.1 b.2, Int.mul_comm a.2 b.1, Int.mul_comm a.2 b.2]
  unfold min4 max4
  refine Prod.ext ?_ ?_ <;> simp only <;> omega
theorem reach_bd (i j : Nat) : bd 4294967296 (tReach i j) := by
  unfold tReach
  split
  · unfold bd; simp
  · split <;> (unfold bd; simp)
/-- A part of a model grows. -/
def tPut (S : List (Int × Int)) (v : Nat × (Int × Int)) : List (Int × Int) := S.set v.1 (pls (tAt S v.1) v.2)
theorem tAt_set (S : List (Int × Int)) (n m : Nat) (v : Int × Int) : tAt (S.set n v) m = if n = m ∧ m < S.length then v else tAt S m := by
  unfold tAt
  rw [List.getD_eq_getElem?_getD, List.getD_eq_getElem?_getD, List.getElem?_set]
  by_cases h : n = m
  · subst h
    by_cases k : n < S.length
    · simp [k]
    · simp [k]
  · simp [h]
theorem set_tAt (S : List (Int × Int)) (n : Nat) : S.set n (tAt S n) = S := by
  apply List.ext_getElem?
  intro m
  rw [List.getElem?_set]
  by_cases h : n = m
  · subst h
    by_cases k : n < S.length
    · simp [k, tAt]
    · simp [k]
  · simp [h]
theorem pls_comm3 (s u v : Int × Int) : pls (pls s u) v = pls (pls s v) u := by unfold pls; simp only [Prod.mk.injEq]; omega
theorem tPut_comm (S : List (Int × Int)) (u v : Nat × (Int × Int)) : tPut (tPut S u) v = tPut (tPut S v) u := by
  obtain ⟨n, x⟩ := u
  obtain ⟨m, y⟩ := v
  unfold tPut
  simp only
  by_cases h : n = m
  · subst h
    rw [List.set_set, List.set_set, tAt_set, tAt_set]
    by_cases k : n < S.length
    · rw [if_pos ⟨rfl, k⟩, if_pos ⟨rfl, k⟩, pls_comm3]
    · rw [List.set_eq_of_length_le (by omega), List.set_eq_of_length_le (by omega)]
  · rw [tAt_set, tAt_set, if_neg (by omega), if_neg (by omega), List.set_comm _ _ h]
theorem tPut_bd {M N : Int} {S : List (Int × Int)} (h : ∀ n, bd M (tAt S n)) {u : Nat × (Int × Int)} (k : bd N u.2) : ∀ n, bd (M + N) (tAt (tPut S u) n) := fun n => by
  have k0 : 0 ≤ N := by unfold bd at k; omega
  unfold tPut
  rw [tAt_set]
  split
  · exact pls_bd (h _) k
  · exact (h n).up (by omega)
/-- What a pair of places adds, and where. -/
def tTerm (a b : List (Int × Int)) (x y : (Nat × Nat) × Nat) : Nat × (Int × Int) :=
  if 5 < x.1.1 + x.1.2 + y.1.1 + y.1.2 then (21, mulP (mulP (tAt a x.2) (tAt b y.2)) (tReach (x.1.1 + y.1.1) (x.1.2 + y.1.2))) else (tPlace (x.1.1 + y.1.1) (x.1.2 + y.1.2), mulP (tAt a x.2) (tAt b y.2))
theorem tTerm_comm (a b : List (Int × Int)) (x y : (Nat × Nat) × Nat) : tTerm b a x y = tTerm a b y x := by
  unfold tTerm
  rw [mulP_comm (tAt b x.2), Nat.add_comm x.1.1 y.1.1, Nat.add_comm x.1.2 y.1.2, show x.1.1 + x.1.2 + y.1.1 + y.1.2 = y.1.1 + y.1.2 + x.1.1 + x.1.2 by omega]
section
variable {a b : List (Int × Int)} (ha : ∀ n, bd 2147483648 (tAt a n)) (hb : ∀ n, bd 2147483648 (tAt b n))
include ha hb
theorem term_w (p q : Nat) : bd 1073741824 (mulP (tAt a p) (tAt b q)) ∧ sMul (tAt a p) (tAt b q) = (mulP (tAt a p) (tAt b q), 0) :=
  ⟨mulP_bd (ha p) (hb q) (by omega), sMul_bd (K := 1073741824) (ha p) (hb q) (by omega) (by omega) (by omega) (by omega)⟩
theorem term_bd (x y : (Nat × Nat) × Nat) : bd 1073741824 (tTerm a b x y).2 := by
  unfold tTerm
  split
  · exact mulP_bd (term_w ha hb _ _).1 (reach_bd _ _) (by omega)
  · exact (term_w ha hb _ _).1
theorem tStep_bd {M : Int} (i j k l p q : Nat) {S : List (Int × Int)} (h : ∀ n, bd M (tAt S n)) (hM : M + 1073741824 ≤ 4503599627370496) : tStep a b i j k l p q S = (tPut S (tTerm a b ((i, j), p) ((k, l), q)), 0) := by
  obtain ⟨w1, w2⟩ := term_w ha hb p q
  unfold tStep tTerm
  rw [w2, thenE_pair]
  simp only
  split
  · rename_i h5
    rw [sMul_bd (K := 1073741824) w1 (reach_bd _ _) (by omega) (by omega) (by omega) (by omega), thenE_pair, sAdd_bd (h 21) (mulP_bd w1 (reach_bd _ _) (K := 1073741824) (by omega)) hM, thenE_pair]
    rfl
  · rw [sAdd_bd (h _) w1 hM, thenE_pair]
    rfl
theorem tInner_bd (i j p : Nat) : ∀ (l : List (Nat × Nat)) (q : Nat) (S : List (Int × Int)) (M : Int), (∀ n, bd M (tAt S n)) → M + l.length * 1073741824 ≤ 4503599627370496 →
    tInner a b i j p l q S = ((l.zipIdx q).foldl (fun S y => tPut S (tTerm a b ((i, j), p) y)) S, 0) ∧ ∀ n, bd (M + l.length * 1073741824) (tAt ((l.zipIdx q).foldl (fun S y => tPut S (tTerm a b ((i, j), p) y)) S) n)
  | [], q, S, M, h, _ => ⟨rfl, fun n => (h n).up (by simp)⟩
  | (k, m) :: r, q, S, M, h, hM => by
    have hl : (((k, m) :: r).length : Int) = r.length + 1 := by simp
    rw [hl] at hM ⊢
    have h1 := tPut_bd h (term_bd ha hb ((i, j), p) ((k, m), q))
    obtain ⟨e1, e2⟩ := tInner_bd i j p r (q + 1) _ _ h1 (by omega)
    rw [List.zipIdx_cons, List.foldl_cons, tInner, tStep_bd ha hb i j k m p q h (by omega), thenE_pair]
    exact ⟨e1, fun n => (e2 n).up (by omega)⟩
theorem tOuter_bd : ∀ (l : List (Nat × Nat)) (p : Nat) (S : List (Int × Int)) (M : Int), (∀ n, bd M (tAt S n)) → M + l.length * 22548578304 ≤ 4503599627370496 →
    tOuter a b l p S = ((l.zipIdx p).foldl (fun S x => (tPairs.zipIdx 0).foldl (fun S y => tPut S (tTerm a b x y)) S) S, 0) ∧ ∀ n, bd (M + l.length * 22548578304) (tAt ((l.zipIdx p).foldl (fun S x => (tPairs.zipIdx 0).foldl (fun S y => tPut S (tTerm a b x y)) S) S) n)
  | [], p, S, M, h, _ => ⟨rfl, fun n => (h n).up (by simp)⟩
  | (i, j) :: r, p, S, M, h, hM => by
    have hl : (((i, j) :: r).length : Int) = r.length + 1 := by simp
    rw [hl] at hM ⊢
    have h21 : ((tPairs.length : Nat) : Int) = 21 := rfl
    obtain ⟨g1, g2⟩ := tInner_bd ha hb i j p tPairs 0 S M h (by rw [h21]; omega)
    obtain ⟨e1, e2⟩ := tOuter_bd r (p + 1) _ _ g2 (by rw [h21]; omega)
    rw [List.zipIdx_cons, List.foldl_cons, tOuter, g1, thenE_pair]
    rw [h21] at e2
    exact ⟨e1, fun n => (e2 n).up (by omega)⟩
end
/-- All pairs of places. -/
def tAll : List (((Nat × Nat) × Nat) × ((Nat × Nat) × Nat)) := (tPairs.zipIdx 0).flatMap fun x => (tPairs.zipIdx 0).map fun y => (x, y)
theorem tAll_swap : (tAll.map fun z => (z.2, z.1)).Perm tAll := by decide +kernel
theorem fold_all (f : List (Int × Int) → ((Nat × Nat) × Nat) → ((Nat × Nat) × Nat) → List (Int × Int)) (S : List (Int × Int)) :
    (tPairs.zipIdx 0).foldl (fun S x => (tPairs.zipIdx 0).foldl (fun S y => f S x y) S) S = tAll.foldl (fun S z => f S z.1 z.2) S := by
  unfold tAll
  rw [List.foldl_flatMap]
  congr 1
theorem outer_comm (a b : List (Int × Int)) (S : List (Int × Int)) :
    tAll.foldl (fun S z => tPut S (tTerm b a z.1 z.2)) S = tAll.foldl (fun S z => tPut S (tTerm a b z.1 z.2)) S := by
  rw [show (fun S (z : ((Nat × Nat) × Nat) × ((Nat × Nat) × Nat)) => tPut S (tTerm b a z.1 z.2)) = fun S z => tPut S (tTerm a b z.2 z.1) from funext fun S => funext fun z => by rw [tTerm_comm]]
  have := List.foldl_map (f := fun z : ((Nat × Nat) × Nat) × ((Nat × Nat) × Nat) => (z.2, z.1)) (g := fun S z => tPut S (tTerm a b z.1 z.2)) (l := tAll) (init := S)
  rw [← this]
  exact List.Perm.foldl_eq' tAll_swap (fun x _ y _ z => tPut_comm z _ _) S
theorem sweep_bd {a : List (Int × Int)} (ha : ∀ n, bd 2147483648 (tAt a n)) : ∀ (l : List (Nat × Nat)) (p : Nat) (t : Int × Int) (M : Int), bd M t → M + l.length * 2147483648 ≤ 4503599627370496 → ∃ s, tSweepFrom a l p t = (s, 0) ∧ bd (M + l.length * 2147483648) s
  | [], p, t, M, h, _ => ⟨t, rfl, h.up (by simp)⟩
  | (i, j) :: r, p, t, M, h, hM => by
    have hl : (((i, j) :: r).length : Int) = r.length + 1 := by simp
    rw [hl] at hM ⊢
    have w := mulP_bd (ha p) (reach_bd i j) (K := 2147483648) (by omega)
    obtain ⟨s, e1, e2⟩ := sweep_bd ha r (p + 1) _ _ (pls_bd h w) (by omega)
    refine ⟨s, ?_, e2.up (by omega)⟩
    rw [tSweepFrom, sMul_bd (K := 2147483648) (ha p) (reach_bd i j) (by omega) (by omega) (by omega) (by omega), thenE_pair, sAdd_bd h w (by omega), thenE_pair, e1]
theorem sweep_ok {a : List (Int × Int)} (ha : ∀ n, bd 2147483648 (tAt a n)) : ∃ s, tSweep a = (s, 0) ∧ bd 45097156608 s := by
  have h21 : ((tPairs.length : Nat) : Int) = 21 := rfl
  obtain ⟨s, h1, h2⟩ := sweep_bd ha tPairs 0 (0, 0) 0 (bd_zero (by omega)) (by rw [h21]; omega)
  exact ⟨s, h1, h2.up (by rw [h21]; omega)⟩
theorem tGrow_bd {S : List (Int × Int)} {x y : Int × Int} {M A B K : Int} (h : bd M (tAt S 21)) (hx : bd A x) (hy : bd B y) (hA : A ≤ 4503599627370496) (hB : B ≤ 4503599627370496) (hK : A * B ≤ K * 4294967296) (hM : M + K ≤ 4503599627370496) :
    tGrow S x y = (tPut S (21, mulP x y), 0) := by
  have h0 : 0 ≤ M := by unfold bd at h; omega
  unfold tGrow
  rw [sMul_bd hx hy hA hB hK (by omega), thenE_pair, sAdd_bd h (mulP_bd hx hy hK) hM, thenE_pair]
  rfl
theorem zeroM_at (n : Nat) : tAt zeroM n = (0, 0) := by
  unfold tAt zeroM
  rw [List.getD_eq_getElem?_getD, List.getElem?_replicate]
  split <;> rfl
/-- The product of models of small numbers. -/
theorem product_bd {a b : List (Int × Int)} (ha : ∀ n, bd 2147483648 (tAt a n)) (hb : ∀ n, bd 2147483648 (tAt b n)) {s t : Int × Int} (hs : tSweep a = (s, 0)) (ht : tSweep b = (t, 0)) (ks : bd 45097156608 s) (kt : bd 45097156608 t) :
    tProduct a b = (tPut (tPut (tPut (tAll.foldl (fun S z => tPut S (tTerm a b z.1 z.2)) zeroM) (21, mulP s (tAt b 21))) (21, mulP (tAt a 21) t)) (21, mulP (tAt a 21) (tAt b 21)), 0) := by
  have h21 : ((tPairs.length : Nat) : Int) = 21 := rfl
  obtain ⟨e1, e2⟩ := tOuter_bd ha hb tPairs 0 zeroM 0 (fun n => by rw [zeroM_at]; exact bd_zero (by omega)) (by rw [h21]; omega)
  rw [fold_all] at e1 e2
  rw [h21] at e2
  have m1 := mulP_bd ks (hb 21) (K := 22548578304) (by omega)
  have m2 := mulP_bd (ha 21) kt (K := 22548578304) (by omega)
  have p1 := tPut_bd e2 (u := (21, mulP s (tAt b 21))) m1
  have p2 := tPut_bd p1 (u := (21, mulP (tAt a 21) t)) m2
  unfold tProduct
  rw [show (List.replicate 22 ((0 : Int), (0 : Int))) = zeroM from rfl, e1, thenE_pair, hs, thenE_pair, tGrow_bd (K := 22548578304) (e2 21) ks (hb 21) (by omega) (by omega) (by omega) (by omega), thenE_pair, ht, thenE_pair,
    tGrow_bd (K := 22548578304) (p1 21) (ha 21) kt (by omega) (by omega) (by omega) (by omega), thenE_pair, tGrow_bd (K := 22548578304) (p2 21) (ha 21) (hb 21) (by omega) (by omega) (by omega) (by omega)]
theorem product_comm {a b : List (Int × Int)} (ha : ∀ n, bd 2147483648 (tAt a n)) (hb : ∀ n, bd 2147483648 (tAt b n)) : (tProduct a b).2 = 0 ∧ tProduct a b = tProduct b a := by
  obtain ⟨s, hs, ks⟩ := sweep_ok ha
  obtain ⟨t, ht, kt⟩ := sweep_ok hb
  rw [product_bd ha hb hs ht ks kt, product_bd hb ha ht hs kt ks, outer_comm a b, mulP_comm (tAt b 21) s, mulP_comm t (tAt a 21), mulP_comm (tAt b 21) (tAt a 21)]
  refine ⟨rfl, ?_⟩
  rw [tPut_comm (List.foldl _ _ _) (21, mulP (tAt a 21) t)]
/-! Times 1. -/
theorem sAdd_zero {c : Int × Int} (h : okS c) : sAdd c (0, 0) = (c, 0) := by rw [sAdd_comm]; exact zero_sAdd h
def oneM : List (Int × Int) := zeroM.set 0 (4294967296, 4294967296)
theorem oneM_at {q : Nat} (h : 1 ≤ q) : tAt oneM q = (0, 0) := by
  unfold oneM
  rw [tAt_set, if_neg (by omega), zeroM_at]
section
variable {a : List (Int × Int)} (ha : ∀ n, okS (tAt a n))
include ha
theorem step_zero {b S : List (Int × Int)} (i j k l p q : Nat) (hq : tAt b q = (0, 0)) (hS : ∀ n, okS (tAt S n)) : tStep a b i j k l p q S = (S, 0) := by
  unfold tStep
  rw [hq, sMul_zero (ha p), thenE_pair]
  split
  · rw [zero_sMul ((reach_bd _ _).ok (by omega)), thenE_pair, sAdd_zero (hS 21), thenE_pair, set_tAt]
  · rw [sAdd_zero (hS _), thenE_pair, set_tAt]
theorem inner_zero {b : List (Int × Int)} (i j p : Nat) : ∀ (l : List (Nat × Nat)) (q : Nat) (S : List (Int × Int)), (∀ r, q ≤ r → tAt b r = (0, 0)) → (∀ n, okS (tAt S n)) → tInner a b i j p l q S = (S, 0)
  | [], q, S, _, _ => rfl
  | (k, m) :: r, q, S, hq, hS => by
    rw [tInner, step_zero ha i j k m p q (hq q (Nat.le_refl q)) hS, thenE_pair]
    exact inner_zero i j p r (q + 1) S (fun r hr => hq r (by omega)) hS
theorem inner_one {i j p : Nat} {S : List (Int × Int)} (hij : i + j ≤ 5) (hp : tPlace i j = p) (hz : tAt S p = (0, 0)) (hS : ∀ n, okS (tAt S n)) : tInner a oneM i j p tPairs 0 S = (S.set p (tAt a p), 0) := by
  have h0 : tStep a oneM i j 0 0 p 0 S = (S.set p (tAt a p), 0) := by
    unfold tStep
    rw [show tAt oneM 0 = (4294967296, 4294967296) from rfl, sMul_one (ha p), thenE_pair, if_neg (by omega)]
    rw [show tPlace (i + 0) (j + 0) = p from hp, hz, zero_sAdd (ha p), thenE_pair]
  rw [show tPairs = (0, 0) :: tPairs.tail from rfl, tInner, h0, thenE_pair]
  refine inner_zero ha i j p _ 1 _ (fun r hr => oneM_at hr) (fun n => ?_)
  rw [tAt_set]
  split
  · exact ha p
  · exact hS n
theorem outer_one : ∀ (l : List (Nat × Nat)) (p : Nat) (S : List (Int × Int)), (∀ (n : Nat) (x : Nat × Nat), l[n]? = some x → x.1 + x.2 ≤ 5 ∧ tPlace x.1 x.2 = p + n) → (∀ n, p ≤ n → tAt S n = (0, 0)) → (∀ n, okS (tAt S n)) → p + l.length ≤ S.length →
    ∃ R, tOuter a oneM l p S = (R, 0) ∧ R.length = S.length ∧ ∀ n, tAt R n = if p ≤ n ∧ n < p + l.length then tAt a n else tAt S n
  | [], p, S, _, _, _, _ => ⟨S, rfl, rfl, fun n => by
    rw [if_neg (by simp only [List.length_nil]; omega)]⟩
  | (i, j) :: r, p, S, hx, hz, hS, hl => by
    have hl2 : ((i, j) :: r).length = r.length + 1 := by simp
    rw [hl2] at hl ⊢
    obtain ⟨g1, g2⟩ := hx 0 (i, j) rfl
    obtain ⟨R, h1, h2, h3⟩ := outer_one r (p + 1) (S.set p (tAt a p)) (fun n x h => by
        have := hx (n + 1) x (by simpa using h)
        exact ⟨this.1, by omega⟩) (fun n hn => by rw [tAt_set, if_neg (by omega)]; exact hz n (by omega)) (fun n => by
        rw [tAt_set]
        split
        · exact ha p
        · exact hS n) (by simp; omega)
    refine ⟨R, by rw [tOuter, inner_one ha g1 (by simpa using g2) (hz p (Nat.le_refl p)) hS, thenE_pair, h1], by rw [h2]; simp, fun n => ?_⟩
    rw [h3, tAt_set]
    by_cases e : n = p
    · subst e
      rw [if_neg (by omega), if_pos ⟨rfl, by omega⟩, if_pos (by omega)]
    · by_cases k : p ≤ n ∧ n < p + (r.length + 1)
      · rw [if_pos k, if_pos (by omega)]
      · rw [if_neg k, if_neg (by omega), if_neg (by omega)]
end
theorem pairs_place : ∀ n : Fin 21, ∀ x ∈ tPairs[n.1]?, x.1 + x.2 ≤ 5 ∧ tPlace x.1 x.2 = n.1 := by decide
theorem ext_tAt {a b : List (Int × Int)} (h : a.length = b.length) (k : ∀ n, tAt a n = tAt b n) : a = b := by
  apply List.ext_getElem? 
  intro n
  have := k n
  unfold tAt at this
  rw [List.getD_eq_getElem?_getD, List.getD_eq_getElem?_getD] at this
  by_cases hn : n < a.length
  · rw [List.getElem?_eq_getElem hn, List.getElem?_eq_getElem (by omega)] at this ⊢
    simpa using this
  · rw [List.getElem?_eq_none (by omega), List.getElem?_eq_none (by omega)]
theorem sweep_one : tSweep oneM = ((4294967296, 4294967296), 0) := by decide +kernel
theorem product_one {a : List (Int × Int)} (hl : a.length = 22) (ha : ∀ n, bd 2147483648 (tAt a n)) : tProduct a oneM = (a, 0) := by
  have ho : ∀ n, okS (tAt a n) := fun n => (ha n).ok (by omega)
  obtain ⟨s, hs, ks⟩ := sweep_ok ha
  obtain ⟨R, h1, h2, h3⟩ := outer_one ho tPairs 0 zeroM (fun n x hx => by
      have hn : n < 21 := (List.getElem?_eq_some_iff.1 hx).1
      have := pairs_place ⟨n, hn⟩ x hx
      exact ⟨this.1, this.2.trans (by simp)⟩) (fun n _ => zeroM_at n) (fun n => by rw [zeroM_at]; exact okS_zero) (by decide)
  have h21 : tPairs.length = 21 := rfl
  rw [h21] at h3
  have r21 : tAt R 21 = (0, 0) := by rw [h3, if_neg (by omega), zeroM_at]
  have hl2 : R.length = 22 := h2
  have g1 : tGrow R s (tAt oneM 21) = (R, 0) := by
    unfold tGrow
    rw [oneM_at (by omega), sMul_zero (ks.ok (by omega)), thenE_pair, r21, sAdd_zero okS_zero, thenE_pair]
    have := set_tAt R 21
    rw [r21] at this
    rw [this]
  have g2 : tGrow R (tAt a 21) (4294967296, 4294967296) = (a, 0) := by
    unfold tGrow
    rw [sMul_one (ho 21), thenE_pair, r21, zero_sAdd (ho 21), thenE_pair]
    refine congrArg (·, 0) (ext_tAt (by simp [hl, hl2]) fun n => ?_)
    rw [tAt_set, h3]
    by_cases e : n = 21
    · subst e
      rw [if_pos ⟨rfl, by omega⟩]
    · rw [if_neg (by omega)]
      by_cases k : n < 21
      · rw [if_pos (by omega)]
      · rw [if_neg (by omega), zeroM_at]
        unfold tAt
        rw [List.getD_eq_getElem?_getD, List.getElem?_eq_none (by omega)]
        rfl
  have g3 : tGrow a (tAt a 21) (tAt oneM 21) = (a, 0) := by
    unfold tGrow
    rw [oneM_at (by omega), sMul_zero (ho 21), thenE_pair, sAdd_zero (ho 21), thenE_pair, set_tAt]
  unfold tProduct
  rw [show (List.replicate 22 ((0 : Int), (0 : Int))) = zeroM from rfl, h1, thenE_pair, hs, thenE_pair, g1, thenE_pair, sweep_one, thenE_pair, g2, thenE_pair, g3]
theorem tEach_one : ∀ {a b : List (Int × Int)}, a.length ≤ b.length → (∀ s ∈ a, okS s) → tEach (fun x _ => sMul x (4294967296, 4294967296)) a b = (a, 0)
  | [], [], _, _ => rfl
  | [], _ :: _, _, _ => rfl
  | _ :: _, [], h, _ => by simp at h
  | x :: a, y :: b, h, k => by
    rw [tEach, sMul_one (k x (by simp)), thenE_pair, tEach_one (by simpa using h) (fun s hs => k s (by simp [hs])), thenE_pair]
/-! Sums and differences. -/
theorem tEach_add : ∀ {a b : List (Int × Int)}, a.length = b.length → (∀ s ∈ a, bd 2147483648 s) → (∀ s ∈ b, bd 2147483648 s) → tEach sAdd a b = (List.zipWith pls a b, 0)
  | [], [], _, _, _ => rfl
  | [], _ :: _, h, _, _ => by simp at h
  | _ :: _, [], h, _, _ => by simp at h
  | x :: a, y :: b, h, ha, hb => by
    rw [tEach, sAdd_bd (ha x (by simp)) (hb y (by simp)) (by omega), thenE_pair, tEach_add (by simpa using h) (fun s hs => ha s (by simp [hs])) (fun s hs => hb s (by simp [hs])), thenE_pair]
    rfl
def mns (s t : Int × Int) : Int × Int := (s.1 - t.2, s.2 - t.1)
theorem sSub_bd {M N : Int} {s t : Int × Int} (h : bd M s) (k : bd N t) (hM : M + N ≤ 4503599627370496) : sSub s t = (mns s t, 0) := by
  have h0 : 0 ≤ M := by unfold bd at h; omega
  have k0 : 0 ≤ N := by unfold bd at k; omega
  unfold sSub
  rw [on2_ok (h.ok (by omega)) (k.ok (by omega))]
  unfold bd at h k
  exact sT_ok (by omega) (by omega)
theorem tEach_back : ∀ {a b : List (Int × Int)}, a.length = b.length → (∀ s ∈ a, bd 2147483648 s) → (∀ s ∈ b, bd 2147483648 s) → ∃ c, tEach sSub (List.zipWith pls a b) b = (c, 0) ∧ c.length = a.length ∧ (∀ s ∈ List.zipWith pls a b, okS s) ∧ ∀ n, sIn (tAt a n) (tAt c n)
  | [], [], _, _, _ => ⟨[], rfl, rfl, by simp, fun n => by unfold sIn tAt; simp⟩
  | [], _ :: _, h, _, _ => by simp at h
  | _ :: _, [], h, _, _ => by simp at h
  | x :: a, y :: b, h, ha, hb => by
    obtain ⟨c, h1, h2, h3, h4⟩ := tEach_back (a := a) (b := b) (by simpa using h) (fun s hs => ha s (by simp [hs])) (fun s hs => hb s (by simp [hs]))
    have hx := ha x (by simp)
    have hy := hb y (by simp)
    refine ⟨mns (pls x y) y :: c, ?_, by simp [h2], ?_, fun n => ?_⟩
    · rw [List.zipWith_cons_cons, tEach, sSub_bd (pls_bd hx hy) hy (by omega), thenE_pair, h1, thenE_pair]
    · intro s hs
      rw [List.zipWith_cons_cons, List.mem_cons] at hs
      rcases hs with rfl | hs
      · exact (pls_bd hx hy).ok (by omega)
      · exact h3 s hs
    · cases n with
      | zero =>
        show sIn x (mns (pls x y) y)
        unfold bd at hx hy
        unfold sIn mns pls
        simp only
        omega
      | succ n => exact h4 n
/-! Values and bounds. -/
def R1 (i : Nat) : Int × Int := if i = 0 then (4294967296, 4294967296) else if i % 2 = 0 then (0, 4294967296) else (-4294967296, 4294967296)
theorem R1_bd (i : Nat) : bd 4294967296 (R1 i) := by
  unfold R1
  split
  · unfold bd; simp
  · split <;> (unfold bd; simp)
theorem mulP_r1 {M : Int} {a : Int × Int} (h : bd M a) : mulP a (4294967296, 4294967296) = a := by
  unfold bd at h
  unfold mulP min4 max4
  simp only [fl_one, cl_one]
  refine Prod.ext ?_ ?_ <;> simp only <;> omega
theorem mulP_r2 {M : Int} {a : Int × Int} (h : bd M a) : mulP a (0, 4294967296) = (min 0 a.1, max 0 a.2) := by
  unfold bd at h
  unfold mulP min4 max4
  simp only [fl_one, cl_one, Int.mul_zero, show fl 0 = 0 from rfl, show cl 0 = 0 from rfl]
  refine Prod.ext ?_ ?_ <;> simp only <;> omega
theorem mulP_r3 {M : Int} {a : Int × Int} (h : bd M a) : mulP a (-4294967296, 4294967296) = (-(max a.2 (-a.1)), max a.2 (-a.1)) := by
  unfold bd at h
  have e1 : ∀ x : Int, fl (x * -4294967296) = -x := fun x => by rw [fl_def]; omega
  have e2 : ∀ x : Int, cl (x * -4294967296) = -x := fun x => by rw [cl_def]; omega
  unfold mulP min4 max4
  simp only [fl_one, cl_one, e1, e2]
  refine Prod.ext ?_ ?_ <;> simp only <;> omega
theorem mulP_reach {M : Int} {a : Int × Int} (h : bd M a) (i j : Nat) : mulP (mulP a (R1 i)) (R1 j) = mulP a (tReach i j) := by
  have h2 : bd M (min 0 a.1, max 0 a.2) := by unfold bd at h ⊢; simp only; omega
  have h3 : bd M (-(max a.2 (-a.1)), max a.2 (-a.1)) := by unfold bd at h ⊢; simp only; omega
  have hh := h
  unfold bd at hh
  unfold R1 tReach
  by_cases i0 : i = 0
  · subst i0
    rw [if_pos rfl, mulP_r1 h]
    by_cases j0 : j = 0
    · subst j0
      rfl
    · rw [if_neg j0, if_neg (show ¬ 0 + j = 0 by omega)]
      by_cases j2 : j % 2 = 0
      · rw [if_pos j2, if_pos (show 0 % 2 = 0 ∧ j % 2 = 0 by omega)]
      · rw [if_neg j2, if_neg (show ¬ (0 % 2 = 0 ∧ j % 2 = 0) by omega)]
  · rw [if_neg i0, if_neg (show ¬ i + j = 0 by omega)]
    by_cases i2 : i % 2 = 0
    · rw [if_pos i2, mulP_r2 h]
      by_cases j0 : j = 0
      · subst j0
        rw [if_pos rfl, if_pos (by omega), mulP_r1 h2, mulP_r2 h]
      · rw [if_neg j0]
        by_cases j2 : j % 2 = 0
        · rw [if_pos j2, if_pos (by omega), mulP_r2 h2, mulP_r2 h]
          refine Prod.ext ?_ ?_ <;> simp only <;> omega
        · rw [if_neg j2, if_neg (by omega), mulP_r3 h2, mulP_r3 h]
          refine Prod.ext ?_ ?_ <;> simp only <;> omega
    · rw [if_neg i2, mulP_r3 h, if_neg (show ¬ (i % 2 = 0 ∧ j % 2 = 0) by omega), mulP_r3 h]
      by_cases j0 : j = 0
      · rw [if_pos j0, mulP_r1 h3]
      · rw [if_neg j0]
        by_cases j2 : j % 2 = 0
        · rw [if_pos j2, mulP_r2 h3]
          refine Prod.ext ?_ ?_ <;> simp only <;> omega
        · rw [if_neg j2, mulP_r3 h3]
          refine Prod.ext ?_ ?_ <;> simp only <;> omega
theorem pow_R1 : ∀ i : Fin 6, sPow (-4294967296, 4294967296) (i.1 : Int) = (R1 i.1, 0) := by decide +kernel
/-- The interval of one number within [-1, 1]. -/
def pt1 (x : Int × Int) : Prop := x.1 = x.2 ∧ -4294967296 ≤ x.1 ∧ x.2 ≤ 4294967296
theorem pow_in {x : Int × Int} (h : pt1 x) {i : Nat} (hi : i ≤ 5) : (sPow x i).2 = 0 ∧ sIn (sPow x i).1 (R1 i) ∧ okS (sPow x i).1 := by
  obtain ⟨x1, x2⟩ := x
  obtain ⟨h1, h2, h3⟩ := h
  simp only at h1 h2 h3
  subst h1
  have hx : okS (x1, x1) := by unfold okS; simp only; omega
  have hR := sPow_narrow (a := (-4294967296, 4294967296)) (a' := (x1, x1)) (by decide) hx (by unfold sIn; simp only; omega) i
  have e := pow_R1 ⟨i, by omega⟩
  simp only at e
  rw [e] at hR
  obtain ⟨g1, g2⟩ := hR rfl
  refine ⟨g1, g2, ?_⟩
  unfold sPow
  rw [if_pos hx, if_neg (by omega)]
  split
  · decide
  · split
    · rw [show sAbs (x1, x1) = ((max (max x1 (-x1)) 0, max x1 (-x1)), 0) from on1_ok hx, show max (max x1 (-x1)) 0 = max x1 (-x1) by omega]
      exact sT_okS (rnd_le (Int.pow_pos (by decide)))
    · exact sT_okS (rnd_le (Int.pow_pos (by decide)))
end Mnc
