/- Contracts of package span: Neg, Abs, Of, Point, Dec, Meet, Has, Mid, Width, Sign. Printed by wip/genSC.py. -/
import Derived.Test.YtgfofilkpaelnaaSpanB
import Derived.RegionTactic
import Derived.ChangeAlike
namespace Go.Proofs.Ytgfofilkpaelnaa
open Go.RowKit Mnc

/-- The operand and the result in their boxes. -/
structure Bx2 (w W : World) (s r : Int × Int) : Prop where
  bel : Below w.heap.size w W
  b0 : W.heap[w.heap.size]? = some (.cells #[.int .i64 s.1, .int .i64 s.2] 24 (0, 0))
  b1 : W.heap[w.heap.size + 1]? = some (.cells #[.int .i64 r.1, .int .i64 r.2] 24 (0, 0))
theorem Bx2.on {w W W' : World} {s r : Int × Int} (h : Bx2 w W s r) (k : Below W.heap.size W W') : Bx2 w W' s r :=
  ⟨below_step h.bel k, (k.block _ (lt_of_block h.b0)).trans h.b0, (k.block _ (lt_of_block h.b1)).trans h.b1⟩
theorem Bx2.start (w : World) (s r : Int × Int) : Bx2 w ((w.alloc (.cells #[.int .i64 s.1, .int .i64 s.2] 24)).alloc (.cells #[.int .i64 r.1, .int .i64 r.2] 24)) s r where
  bel := below_alloc (below_alloc (Below.refl _ _) _) _
  b0 := heap_up _ (heap_at _ rfl)
  b1 := heap_at _ (by simp)
structure Bx1 (w W : World) (s : Int × Int) : Prop where
  bel : Below w.heap.size w W
  b0 : W.heap[w.heap.size]? = some (.cells #[.int .i64 s.1, .int .i64 s.2] 24 (0, 0))
theorem Bx1.on {w W W' : World} {s : Int × Int} (h : Bx1 w W s) (k : Below W.heap.size W W') : Bx1 w W' s :=
  ⟨below_step h.bel k, (k.block _ (lt_of_block h.b0)).trans h.b0⟩
theorem Bx1.start (w : World) (s : Int × Int) : Bx1 w (w.alloc (.cells #[.int .i64 s.1, .int .i64 s.2] 24)) s where
  bel := below_alloc (Below.refl _ _) _
  b0 := heap_at _ rfl


set_option maxRecDepth 100000 in
set_option maxHeartbeats 1000000 in
theorem span_Neg (s : Int × Int) (w : World) :
    Calls Try.prog 174 #[.agg #[.int .i64 s.1, .int .i64 s.2]] w fun e w' => e = .returned (.tuple #[.agg #[.int .i64 (sNeg s).1.1, .int .i64 (sNeg s).1.2], .int .i64 (sNeg s).2]) ∧ Below w.heap.size w w' := by
  have hB := Bx2.start w s (0, 0)
  by_cases hs : okS s
  · have H := Lib.hid hs
    have HR := Lib.hid (show sNeg s = sT (-s.2) (-s.1) from (on1_ok hs).trans (sT_ok (by obtain ⟨s1, s2, s3⟩ := hs; omega) (by obtain ⟨s1, s2, s3⟩ := hs; omega)).symm)
    obtain ⟨s1, s2, s3⟩ := hs
    go_enter Try.func174, Try.ntmps174
    go_wp2_with fail
    refine (span_Check_ok H.out _).mono ?_; rintro e w2 ⟨rfl, hbel⟩
    have hB := hB.on hbel
    clear hbel
    have a0 := cell_two0 hB.b0
    have a1 := cell_two1 hB.b0
    go_wp2_with fail
    refine (span_told _ _ _).mono ?_; rintro e w3 ⟨rfl, hbel⟩
    rw [← HR.out]
    have hB := hB.on hbel
    clear hbel a0 a1
    have c0 := cell_two0 hB.b1
    have c1 := cell_two1 hB.b1
    have f0 := free_two (i := 0) hB.b1
    have f1 := free_two (i := 1) hB.b1
    have l2 := lt_of_block hB.b1
    go_wp2_with fail
    exact bodyPost_ret (v := .tuple #[.agg #[.int .i64 (sNeg s).1.1, .int .i64 (sNeg s).1.2], .int .i64 (sNeg s).2]) (by simp [results, Try.results174, go_sem, c0, c1]) rfl ⟨rfl, below_set2 hB.bel (by omega) _ _⟩
  · have H := Lib.hid hs
    have HR := Lib.hid (show sNeg s = ((0, 0), 20) from on1_bad hs)
    clear hs
    go_enter Try.func174, Try.ntmps174
    go_wp2_with fail
    refine (span_Check_bad H.out _).mono ?_; rintro e w2 ⟨rfl, hbel⟩
    have hB := hB.on hbel
    clear hbel
    have c0 := cell_two0 hB.b1
    have c1 := cell_two1 hB.b1
    have f0 := free_two (i := 0) hB.b1
    have f1 := free_two (i := 1) hB.b1
    have l2 := lt_of_block hB.b1
    go_wp2_with fail
    exact bodyPost_ret (v := .tuple #[.agg #[.int .i64 0, .int .i64 0], .int .i64 20]) (by simp [results, Try.results174, go_sem, c0, c1]) rfl ⟨ret_sp HR.out, below_set2 hB.bel (by omega) _ _⟩


set_option maxRecDepth 100000 in
set_option maxHeartbeats 1000000 in
theorem span_Abs (s : Int × Int) (w : World) :
    Calls Try.prog 161 #[.agg #[.int .i64 s.1, .int .i64 s.2]] w fun e w' => e = .returned (.tuple #[.agg #[.int .i64 (sAbs s).1.1, .int .i64 (sAbs s).1.2], .int .i64 (sAbs s).2]) ∧ Below w.heap.size w w' := by
  have hB := Bx2.start w s (0, 0)
  by_cases hs : okS s
  · have H := Lib.hid hs
    have HR := Lib.hid (show sAbs s = sT (max (max s.1 (-s.2)) 0) (max s.2 (-s.1)) from (on1_ok hs).trans (sT_ok (by obtain ⟨s1, s2, s3⟩ := hs; omega) (by obtain ⟨s1, s2, s3⟩ := hs; omega)).symm)
    have key : ∀ X, X = max (max s.1 (-s.2)) 0 → sT X (max s.2 (-s.1)) = sAbs s := by rintro X rfl; exact HR.out.symm
    obtain ⟨s1, s2, s3⟩ := hs
    have key := Lib.hid key
    go_enter Try.func161, Try.ntmps161
    go_wp2_with fail
    refine (span_Check_ok H.out _).mono ?_; rintro e w2 ⟨rfl, hbel⟩
    have hB := hB.on hbel
    clear hbel
    have a0 := cell_two0 hB.b0
    have a1 := cell_two1 hB.b0
    go_wp2_with fail
    all_goals
      refine (span_told _ _ _).mono ?_; rintro e w3 ⟨rfl, hbel⟩
      first | rw [key.out 0 (by omega)] | rw [key.out s.1 (by omega)] | rw [key.out (-s.2) (by omega)]
      have hB := hB.on hbel
      clear hbel a0 a1
      have c0 := cell_two0 hB.b1
      have c1 := cell_two1 hB.b1
      have f0 := free_two (i := 0) hB.b1
      have f1 := free_two (i := 1) hB.b1
      have l2 := lt_of_block hB.b1
      go_wp2_with fail
      exact bodyPost_ret (v := .tuple #[.agg #[.int .i64 (sAbs s).1.1, .int .i64 (sAbs s).1.2], .int .i64 (sAbs s).2]) (by simp [results, Try.results161, go_sem, c0, c1]) rfl ⟨rfl, below_set2 hB.bel (by omega) _ _⟩
  · have H := Lib.hid hs
    have HR := Lib.hid (show sAbs s = ((0, 0), 20) from on1_bad hs)
    clear hs
    go_enter Try.func161, Try.ntmps161
    go_wp2_with fail
    refine (span_Check_bad H.out _).mono ?_; rintro e w2 ⟨rfl, hbel⟩
    have hB := hB.on hbel
    clear hbel
    have c0 := cell_two0 hB.b1
    have c1 := cell_two1 hB.b1
    have f0 := free_two (i := 0) hB.b1
    have f1 := free_two (i := 1) hB.b1
    have l2 := lt_of_block hB.b1
    go_wp2_with fail
    exact bodyPost_ret (v := .tuple #[.agg #[.int .i64 0, .int .i64 0], .int .i64 20]) (by simp [results, Try.results161, go_sem, c0, c1]) rfl ⟨ret_sp HR.out, below_set2 hB.bel (by omega) _ _⟩


set_option maxRecDepth 100000 in
set_option maxHeartbeats 1000000 in
theorem span_Of (lo hi : Int) (w : World) :
    Calls Try.prog 184 #[.int .i64 lo, .int .i64 hi] w fun e w' => e = .returned (.tuple #[.agg #[.int .i64 (sOf lo hi).1.1, .int .i64 (sOf lo hi).1.2], .int .i64 (sOf lo hi).2]) ∧ Below w.heap.size w w' := by
  have hB := Bx2.start w (0, 0) (lo, hi)
  by_cases hs : okS (lo, hi)
  · have H := Lib.hid hs
    have HR := Lib.hid (sOf_ok hs)
    clear hs
    go_enter Try.func184, Try.ntmps184
    go_wp2_with fail
    refine (span_Check_ok H.out _).mono ?_; rintro e w2 ⟨rfl, hbel⟩
    have hB := hB.on hbel
    clear hbel
    have c0 := cell_two0 hB.b0
    have c1 := cell_two1 hB.b0
    have f0 := free_two (i := 0) hB.b0
    have f1 := free_two (i := 1) hB.b0
    have d0 := cell_two0 hB.b1
    have d1 := cell_two1 hB.b1
    have l2 := lt_of_block hB.b0
    go_wp2_with fail
    exact bodyPost_ret (v := .tuple #[.agg #[.int .i64 lo, .int .i64 hi], .int .i64 0]) (by simp [results, Try.results184, go_sem, c0, c1]) rfl ⟨ret_sp HR.out, below_set2 hB.bel (by omega) _ _⟩
  · have H := Lib.hid hs
    have HR := Lib.hid (sOf_bad hs)
    clear hs
    go_enter Try.func184, Try.ntmps184
    go_wp2_with fail
    refine (span_Check_bad H.out _).mono ?_; rintro e w2 ⟨rfl, hbel⟩
    have hB := hB.on hbel
    clear hbel
    have c0 := cell_two0 hB.b0
    have c1 := cell_two1 hB.b0
    have f0 := free_two (i := 0) hB.b0
    have f1 := free_two (i := 1) hB.b0
    have l2 := lt_of_block hB.b0
    go_wp2_with fail
    exact bodyPost_ret (v := .tuple #[.agg #[.int .i64 0, .int .i64 0], .int .i64 20]) (by simp [results, Try.results184, go_sem, c0, c1]) rfl ⟨ret_sp HR.out, below_set2 hB.bel (by omega) _ _⟩


set_option maxRecDepth 100000 in
set_option maxHeartbeats 1000000 in
theorem span_Point (v : Int) (w : World) :
    Calls Try.prog 160 #[.int .i64 v] w fun e w' => e = .returned (.tuple #[.agg #[.int .i64 (sOf v v).1.1, .int .i64 (sOf v v).1.2], .int .i64 (sOf v v).2]) ∧ Below w.heap.size w w' := by
  have hB := Bx1.start w (0, 0)
  go_enter Try.func160, Try.ntmps160
  go_wp2_with fail
  refine (span_Of v v _).mono ?_; rintro e w2 ⟨rfl, hbel⟩
  have hB := hB.on hbel
  clear hbel
  have c0 := cell_two0 hB.b0
  have c1 := cell_two1 hB.b0
  have f0 := free_two (i := 0) hB.b0
  have f1 := free_two (i := 1) hB.b0
  have l2 := lt_of_block hB.b0
  go_wp2_with fail
  exact bodyPost_ret (v := .tuple #[.agg #[.int .i64 (sOf v v).1.1, .int .i64 (sOf v v).1.2], .int .i64 (sOf v v).2]) (by simp [results, Try.results160, go_sem, c0, c1]) rfl ⟨rfl, below_set2 hB.bel (by omega) _ _⟩


theorem ret_bi {k : IntKind} {a : Bool} {b : Int} {p : Bool × Int} (h : p = (a, b)) : Ending.returned (.tuple #[.bool a, .int k b]) = .returned (.tuple #[.bool p.1, .int k p.2]) := by rw [h]

theorem sMeet_ok {s t : Int × Int} (hs : okS s) (ht : okS t) (h : max s.1 t.1 ≤ min s.2 t.2) : sMeet s t = sT (max s.1 t.1) (min s.2 t.2) := by
  have e : sMeet s t = _ := on2_ok hs ht
  rw [e, if_pos h]
  obtain ⟨s1, s2, s3⟩ := hs
  obtain ⟨t1, t2, t3⟩ := ht
  exact (sT_ok (by omega) (by omega)).symm
theorem sMeet_no {s t : Int × Int} (hs : okS s) (ht : okS t) (h : ¬ max s.1 t.1 ≤ min s.2 t.2) : sMeet s t = ((0, 0), 4) := by
  have e : sMeet s t = _ := on2_ok hs ht
  rw [e, if_neg h]

set_option maxRecDepth 100000 in
set_option maxHeartbeats 1000000 in
theorem span_Meet (s t : Int × Int) (w : World) :
    Calls Try.prog 41 #[.agg #[.int .i64 s.1, .int .i64 s.2], .agg #[.int .i64 t.1, .int .i64 t.2]] w fun e w' => e = .returned (.tuple #[.agg #[.int .i64 (sMeet s t).1.1, .int .i64 (sMeet s t).1.2], .int .i64 (sMeet s t).2]) ∧ Below w.heap.size w w' := by
  by_cases h : okS s ∧ okS t
  · obtain ⟨hs, ht⟩ := h
    have HC := Lib.hid (sChk2_ok hs ht)
    by_cases hm : max s.1 t.1 ≤ min s.2 t.2
    · have HR := Lib.hid (sMeet_ok hs ht hm)
      have hm2 : decide (min s.2 t.2 < max s.1 t.1) = false := by simp; omega
      clear hs ht
      go_enter Try.func41, Try.ntmps41
      go_wp2_with fail
      refine (span_all2_box s t w).mono ?_; rintro e w2 ⟨rfl, hB⟩; rw [HC.out]
      have a0 := cell_two0 hB.b0
      have a1 := cell_two1 hB.b0
      have b0 := cell_two0 hB.b1
      have b1 := cell_two1 hB.b1
      go_wp2_with fail
      go_region
      all_goals
        go_wp2_with fail
        refine (span_told _ _ _).mono ?_; rintro e w3 ⟨rfl, hbel⟩
        rw [← HR.out]
        have hB := hB.on (below_step (Below.refl _ _).drew hbel)
        clear hbel a0 a1 b0 b1
        have c0 := cell_two0 hB.b2
        have c1 := cell_two1 hB.b2
        have f0 := free_two (i := 0) hB.b2
        have f1 := free_two (i := 1) hB.b2
        have l2 := lt_of_block hB.b2
        go_wp2_with fail
        exact bodyPost_ret (v := .tuple #[.agg #[.int .i64 (sMeet s t).1.1, .int .i64 (sMeet s t).1.2], .int .i64 (sMeet s t).2]) (by simp [results, Try.results41, go_sem, c0, c1]) rfl ⟨rfl, below_set2 hB.bel (by omega) _ _⟩
    · have HR := Lib.hid (sMeet_no hs ht hm)
      have hm2 : decide (min s.2 t.2 < max s.1 t.1) = true := by simp; omega
      clear hs ht
      go_enter Try.func41, Try.ntmps41
      go_wp2_with fail
      refine (span_all2_box s t w).mono ?_; rintro e w2 ⟨rfl, hB⟩; rw [HC.out]
      have a0 := cell_two0 hB.b0
      have a1 := cell_two1 hB.b0
      have b0 := cell_two0 hB.b1
      have b1 := cell_two1 hB.b1
      have c0 := cell_two0 hB.b2
      have c1 := cell_two1 hB.b2
      have f0 := free_two (i := 0) hB.b2
      have f1 := free_two (i := 1) hB.b2
      have l2 := lt_of_block hB.b2
      go_wp2_with fail
      go_region
      all_goals
        go_wp2_with fail
        exact bodyPost_ret (v := .tuple #[.agg #[.int .i64 0, .int .i64 0], .int .i64 4]) (by simp [results, Try.results41, go_sem, c0, c1]) rfl ⟨ret_sp HR.out, below_set2 hB.bel.drew (by omega) _ _⟩
  · have HC := Lib.hid (sChk2_bad h)
    have HR := Lib.hid (show sMeet s t = ((0, 0), 20) from on2_bad h)
    clear h
    go_enter Try.func41, Try.ntmps41
    go_wp2_with fail
    refine (span_all2_box s t w).mono ?_; rintro e w2 ⟨rfl, hB⟩; rw [HC.out]
    have c0 := cell_two0 hB.b2
    have c1 := cell_two1 hB.b2
    have f0 := free_two (i := 0) hB.b2
    have f1 := free_two (i := 1) hB.b2
    have l2 := lt_of_block hB.b2
    go_wp2_with fail
    exact bodyPost_ret (v := .tuple #[.agg #[.int .i64 0, .int .i64 0], .int .i64 20]) (by simp [results, Try.results41, go_sem, c0, c1]) rfl ⟨ret_sp HR.out, below_set2 hB.bel (by omega) _ _⟩

end Go.Proofs.Ytgfofilkpaelnaa