/- Equality of arrays of intervals: what the machine answers. -/
import Derived.ChangeKeysEq
import Derived.Test.YtmnccbhlllnlbaaGreatVecC
namespace Go.Proofs.YtmnccbhlllnlbaaGreat
open Go.RowKit Mnc
theorem flat_cut (l : List (Int × Int)) (i : Nat) (c : Int × Int) (h : l[i]? = some c) : (flat l).toArray.extract (i * 2) (i * 2 + 2) = #[.int .i64 c.1, .int .i64 c.2] := by
  have hl := flat_len l
  have hi := (List.getElem?_eq_some_iff.1 h).1
  obtain ⟨f1, f2⟩ := flat_at l i c h
  rw [Nat.mul_comm 2 i] at f1 f2
  apply Array.ext
  · simp; omega
  · intro j h1 h2
    have hj : j < 2 := by simpa using h2
    obtain rfl | rfl : j = 0 ∨ j = 1 := by omega
    · simp
      have := (List.getElem?_eq_some_iff.1 f1).2
      simpa using this
    · simp
      have := (List.getElem?_eq_some_iff.1 f2).2
      simpa using this
theorem isAgg_span (w : World) : (isAgg 23).run Tryz.prog w = .ok true w := by kernel_rfl
theorem size_span (w : World) : (sizeOf 23).run Tryz.prog w = .ok 2 w := by kernel_rfl
theorem run_part_span (l : List (Int × Int)) (i : Nat) (c : Int × Int) (h : l[i]? = some c) (w : World) : (part 23 (flat l).toArray (i * 2)).run Tryz.prog w = .ok (.agg #[.int .i64 c.1, .int .i64 c.2]) w := by
  unfold part
  simp only [Sem.run_bind, isAgg_span, size_span, Result.andThen_ok, if_true, Sem.run_pure, flat_cut l i c h]
set_option maxRecDepth 100000 in
theorem eqlS (d : Nat) (x y : Int × Int) (w : World) : (Op.equalIn (d + 1 + 1) 23 (.agg #[.int .i64 x.1, .int .i64 x.2]) (.agg #[.int .i64 y.1, .int .i64 y.2])).run Tryz.prog w = .ok (decide (x = y)) w := by
  obtain ⟨x1, x2⟩ := x
  obtain ⟨y1, y2⟩ := y
  go_simp
  by_cases h1 : x1 = y1
  · by_cases h2 : x2 = y2
    · simp [h1, h2]
    · simp [h1, h2]
  · simp [h1]
theorem run_items_spans (d : Nat) (l m : List (Int × Int)) (w : World) : ∀ is : List Nat, (∀ i ∈ is, i < l.length ∧ i < m.length) →
    (Op.eqItems (d + 1 + 1) 23 2 (flat l).toArray (flat m).toArray is).run Tryz.prog w = .ok (is.all fun i => decide (l[i]? = m[i]?)) w
  | [], _ => by simp [Op.eqItems]
  | i :: is, h => by
    obtain ⟨h1, h2⟩ := h i (by simp)
    have e1 : l[i]? = some l[i] := List.getElem?_eq_getElem h1
    have e2 : m[i]? = some m[i] := List.getElem?_eq_getElem h2
    have ih := run_items_spans d l m w is (fun j hj => h j (by simp [hj]))
    simp only [Op.eqItems, Sem.run_bind, run_part_span l i _ e1, run_part_span m i _ e2, Result.andThen_ok, eqlS]
    rw [List.all_cons, e1, e2]
    by_cases hx : l[i] = m[i]
    · simp [hx, ih]
    · simp [hx]
theorem info_span : ∃ i, Tryz.prog.info? 23 = some i := Option.isSome_iff_exists.1 (show (Tryz.prog.info? 23).isSome = true by kernel_rfl)
theorem cells_span : Tryz.prog.cellsOf 23 = 2 := by kernel_rfl
/-- Two arrays of intervals. -/
theorem eqlArr (d n : Nat) (t : TypeId) (hu : Tryz.prog.underlying t = some (.array n 23)) (l m : List (Int × Int)) (hl : l.length = n) (hm : m.length = n) (w : World) :
    (Op.equalIn (d + 1 + 1 + 1) t (.agg (flat l).toArray) (.agg (flat m).toArray)).run Tryz.prog w = .ok (decide (l = m)) w := by
  obtain ⟨i, hi⟩ := info_span
  rw [run_equalIn_array w (d + 1 + 1) _ _ hu hi, cells_span, run_items_spans d l m w _ (fun i hi => by rw [List.mem_range] at hi; omega)]
  refine congrArg (fun b => Result.ok b w) ?_
  rw [Bool.eq_iff_iff]
  simp only [List.all_eq_true, List.mem_range, decide_eq_true_eq]
  constructor
  · intro h
    apply List.ext_getElem?
    intro i
    rcases Nat.lt_or_ge i n with hi | hi
    · exact h i hi
    · rw [List.getElem?_eq_none (by omega), List.getElem?_eq_none (by omega)]
  · intro h i _
    rw [h]
set_option maxRecDepth 100000 in
theorem eqlV (a b : V3) (w : World) : (Op.equalIn 10000 25 (.agg #[.int .i64 a.1.1, .int .i64 a.1.2, .int .i64 a.2.1.1, .int .i64 a.2.1.2, .int .i64 a.2.2.1, .int .i64 a.2.2.2]) (.agg #[.int .i64 b.1.1, .int .i64 b.1.2, .int .i64 b.2.1.1, .int .i64 b.2.1.2, .int .i64 b.2.2.1, .int .i64 b.2.2.2])).run Tryz.prog w = .ok (decide (a = b)) w := by
  have h := eqlArr (9996 + 1) 3 25 Tryz.underlying25 (vl a) (vl b) rfl rfl w
  have e : decide (vl a = vl b) = decide (a = b) := by
    obtain ⟨a1, a2, a3⟩ := a
    obtain ⟨b1, b2, b3⟩ := b
    simp [vl]
  rw [e] at h
  exact h
end Go.Proofs.YtmnccbhlllnlbaaGreat
