/- Equality of two models: what the machine answers. -/
import Derived.ChangeKeysEq
import Derived.Test.YthhkcfpljgdnhaaGreatTayM
namespace Go.Proofs.YthhkcfpljgdnhaaGreat
open Go.RowKit Mnc
theorem mc_cut (l : List (Int × Int)) (i : Nat) (c : Int × Int) (h : l[i]? = some c) : (mc l).toArray.extract (i * 2) (i * 2 + 2) = #[.int .i64 c.1, .int .i64 c.2] := by
 have hl := mc_length l
 have hi := (List.getElem?_eq_some_iff.1 h).1
 have hc : tAt l i = c := by simp [tAt, List.getD, h]
 obtain ⟨f1, f2⟩ := mc_get l i hi
 rw [hc] at f1 f2
 apply Array.ext
 ·simp; omega
 ·intro j h1 h2
  have hj : j < 2 := by simpa using h2
  obtain rfl | rfl : j = 0 ∨ j = 1 := by omega
  ·simp
   have := (List.getElem?_eq_some_iff.1 f1).2
   simpa using this
  ·simp
   have := (List.getElem?_eq_some_iff.1 f2).2
   simpa using this
theorem isAgg_sp (w : World) : (isAgg 31).run Tryz.prog w = .ok true w := by kernel_rfl
theorem size_sp (w : World) : (sizeOf 31).run Tryz.prog w = .ok 2 w := by kernel_rfl
theorem run_part_sp (l : List (Int × Int)) (i : Nat) (c : Int × Int) (h : l[i]? = some c) (w : World) : (part 31 (mc l).toArray (i * 2)).run Tryz.prog w = .ok (sval c) w := by
 unfold part
 simp only [Sem.run_bind, isAgg_sp, size_sp, Result.andThen_ok, if_true, Sem.run_pure, mc_cut l i c h]
 rfl
set_option maxRecDepth 100000 in
theorem eqlSp (d : Nat) (x y : Int × Int) (w : World) : (Op.equalIn (d + 1 + 1) 31 (sval x) (sval y)).run Tryz.prog w = .ok (decide (x = y)) w := by
 obtain ⟨x1, x2⟩ := x
 obtain ⟨y1, y2⟩ := y
 unfold sval
 go_simp
 by_cases h1 : x1 = y1
 ·by_cases h2 : x2 = y2
  ·simp [h1, h2]
  ·simp [h1, h2]
 ·simp [h1]
theorem run_items_sp (d : Nat) (l m : List (Int × Int)) (w : World) : ∀ is : List Nat, (∀ i ∈ is, i < l.length ∧ i < m.length) →
  (Op.eqItems (d + 1 + 1) 31 2 (mc l).toArray (mc m).toArray is).run Tryz.prog w = .ok (is.all fun i => decide (l[i]? = m[i]?)) w
 | [], _ => by simp [Op.eqItems]
 | i :: is, h => by
  obtain ⟨h1, h2⟩ := h i (by simp)
  have e1 : l[i]? = some l[i] := List.getElem?_eq_getElem h1
  have e2 : m[i]? = some m[i] := List.getElem?_eq_getElem h2
  have ih := run_items_sp d l m w is (fun j hj => h j (by simp [hj]))
  simp only [Op.eqItems, Sem.run_bind, run_part_sp l i _ e1, run_part_sp m i _ e2, Result.andThen_ok, eqlSp]
  rw [List.all_cons, e1, e2]
  by_cases hx : l[i] = m[i]
  ·simp [hx, ih]
  ·simp [hx]
/-- The first 21 intervals. -/
theorem eqlCo (d : Nat) (l m : List (Int × Int)) (hl : l.length = 21) (hm : m.length = 21) (w : World) :
  (Op.equalIn (d + 1 + 1 + 1) 32 (mval l) (mval m)).run Tryz.prog w = .ok (decide (l = m)) w := by
 obtain ⟨i, hi⟩ : ∃ i, Tryz.prog.info? 31 = some i := Option.isSome_iff_exists.1 (show (Tryz.prog.info? 31).isSome = true by kernel_rfl)
 have hc : Tryz.prog.cellsOf 31 = 2 := by kernel_rfl
 unfold mval
 rw [run_equalIn_array w (d + 1 + 1) _ _ Tryz.underlying32 hi, hc, run_items_sp d l m w _ (fun i hi => by rw [List.mem_range] at hi; omega)]
 refine congrArg (fun b => Result.ok b w) ?_
 rw [Bool.eq_iff_iff]
 simp only [List.all_eq_true, List.mem_range, decide_eq_true_eq]
 constructor
 ·intro h
  apply List.ext_getElem?
  intro i
  rcases Nat.lt_or_ge i 21 with hi | hi
  ·exact h i hi
  ·rw [List.getElem?_eq_none (by omega), List.getElem?_eq_none (by omega)]
 ·intro h i _
  rw [h]
theorem mc_takeN : ∀ (l : List (Int × Int)) n, n ≤ l.length → (mc l).take (2 * n) = mc (l.take n) := by
 intro l
 induction l with
 | nil => intro n hn; simp at hn; subst hn; rfl
 | cons x l ih =>
  intro n hn
  cases n with
  | zero => rfl
  | succ n =>
   rw [show 2 * (n + 1) = 2 * n + 1 + 1 by omega, mc_cons, List.take_succ_cons, List.take_succ_cons, List.take_succ_cons, mc_cons, ih n (by simpa using hn)]
theorem split22 {a c : List (Int × Int)} (ha : a.length = 22) (hc : c.length = 22) : a = c ↔ a.take 21 = c.take 21 ∧ tAt a 21 = tAt c 21 := by
 constructor
 ·rintro rfl
  exact ⟨rfl, rfl⟩
 ·rintro ⟨h1, h2⟩
  apply List.ext_getElem?
  intro i
  rcases Nat.lt_trichotomy i 21 with hi | rfl | hi
  ·have := congrArg (fun l => l[i]?) h1
   simpa [List.getElem?_take, hi] using this
  ·simpa [tAt, List.getD, List.getElem?_eq_getElem (show 21 < a.length by omega), List.getElem?_eq_getElem (show 21 < c.length by omega)] using h2
  ·rw [List.getElem?_eq_none (by omega), List.getElem?_eq_none (by omega)]
set_option maxRecDepth 100000 in
/-- Two models. -/
theorem eqlM (a c : List (Int × Int)) (ha : a.length = 22) (hc : c.length = 22) (w : World) :
  (Op.equalIn 10000 34 (mval a) (mval c)).run Tryz.prog w = .ok (decide (a = c)) w := by
 have hq1 := eqlCo 9996 (a.take 21) (c.take 21) (by simp [ha]) (by simp [hc])
 unfold mval at hq1
 rw [← mc_takeN a 21 (by omega), ← mc_takeN c 21 (by omega)] at hq1
 simp only [Nat.reduceMul, Nat.reduceAdd] at hq1
 obtain ⟨g1, g2⟩ := mc_get a 21 (by omega)
 obtain ⟨g3, g4⟩ := mc_get c 21 (by omega)
 simp only [Nat.reduceMul, Nat.reduceAdd] at g1 g2 g3 g4
 have e : decide (a = c) = (decide (a.take 21 = c.take 21) && decide (tAt a 21 = tAt c 21)) := by
  rw [Bool.eq_iff_iff]
  simp only [Bool.and_eq_true, decide_eq_true_eq]
  exact split22 ha hc
 rw [e]
 unfold mval
 show (Op.equalIn (9999 + 1) 34 (.agg (mc a).toArray) (.agg (mc c).toArray)).run Tryz.prog w = _
 generalize decide (a.take 21 = c.take 21) = b1 at *
 have e2 : decide (tAt a 21 = tAt c 21) = (decide ((tAt a 21).1 = (tAt c 21).1) && decide ((tAt a 21).2 = (tAt c 21).2)) := by
  rw [Bool.eq_iff_iff]
  simp only [Bool.and_eq_true, decide_eq_true_eq]
  exact Prod.ext_iff
 rw [e2]
 go_simp
 cases b1
 ·simp
 ·by_cases h1 : (tAt a 21).1 = (tAt c 21).1
  ·by_cases h2 : (tAt a 21).2 = (tAt c 21).2
   ·simp [h1, h2]
   ·simp [h1, h2]
  ·simp [h1]
theorem eqlSpan (x y : Int × Int) (w : World) : (Op.equalIn 10000 31 (sval x) (sval y)).run Tryz.prog w = .ok (decide (x = y)) w := eqlSp 9998 x y w
theorem bin_eqM (a c : List (Int × Int)) (ha : a.length = 22) (hc : c.length = 22) (w : World) : (binOp .eql 34 (mval a) (mval c)).run Tryz.prog w = .ok (.bool (decide (a = c))) w := by
 have h := eqlM a c ha hc w
 unfold mval at h ⊢
 go_simp
theorem bin_eqS (x y : Int × Int) (w : World) : (binOp .eql 31 (sval x) (sval y)).run Tryz.prog w = .ok (.bool (decide (x = y))) w := by
 have h := eqlSpan x y w
 have e : decide (x = y) = (decide (x.1 = y.1) && decide (x.2 = y.2)) := by
  rw [Bool.eq_iff_iff]
  simp only [Bool.and_eq_true, decide_eq_true_eq]
  exact Prod.ext_iff
 unfold sval at h ⊢
 rw [e] at h ⊢
 have hb : (binOp .eql 31 (.agg #[.int .i64 x.1, .int .i64 x.2]) (.agg #[.int .i64 y.1, .int .i64 y.2])) = (do let b ← Op.equalIn 10000 31 (.agg #[.int .i64 x.1, .int .i64 x.2]) (.agg #[.int .i64 y.1, .int .i64 y.2]); pure (.bool b)) := rfl
 rw [hb]
 simp only [Sem.run_bind, h, Result.andThen_ok, Sem.run_pure]
theorem guard_eqM (a c : List (Int × Int)) (x y : Operand) (w : World) : (eqGuard .eql 34 x y (mval a) (mval c)).run Tryz.prog w = .ok () w := by
 have h : Tryz.prog.eqGuardType Tryz.prog.depth 34 = false := by kernel_rfl
 unfold mval eqGuard
 simp [go_sem, h]
theorem guard_eqS (a c : Int × Int) (x y : Operand) (w : World) : (eqGuard .eql 31 x y (sval a) (sval c)).run Tryz.prog w = .ok () w := by
 have h : Tryz.prog.eqGuardType Tryz.prog.depth 31 = false := by kernel_rfl
 unfold sval eqGuard
 simp [go_sem, h]
end Go.Proofs.YthhkcfpljgdnhaaGreat
