/- Contracts of package span: Add, Sub, Min, Max, Hull, Meet. Printed by wip/genSB.py. -/
import Derived.Test.YtgfofilkpaelnaaSpanA
namespace Go.Proofs.Ytgfofilkpaelnaa
open Go.RowKit Mnc

/-- The two operands and the result in their boxes. -/
structure Bx3 (w W : World) (s t r : Int × Int) : Prop where
  bel : Below w.heap.size w W
  b0 : W.heap[w.heap.size]? = some (.cells #[.int .i64 s.1, .int .i64 s.2] 24 (0, 0))
  b1 : W.heap[w.heap.size + 1]? = some (.cells #[.int .i64 t.1, .int .i64 t.2] 24 (0, 0))
  b2 : W.heap[w.heap.size + 1 + 1]? = some (.cells #[.int .i64 r.1, .int .i64 r.2] 24 (0, 0))
theorem Bx3.on {w W W' : World} {s t r : Int × Int} (h : Bx3 w W s t r) (k : Below W.heap.size W W') : Bx3 w W' s t r :=
  ⟨below_step h.bel k, (k.block _ (lt_of_block h.b0)).trans h.b0, (k.block _ (lt_of_block h.b1)).trans h.b1, (k.block _ (lt_of_block h.b2)).trans h.b2⟩

theorem heap_at {w : World} {n : Nat} (o : Obj) (h : w.heap.size = n) : (w.alloc o).heap[n]? = some o := by
  rw [← h]; exact heap_alloc_new w o
theorem heap_up {w : World} {n : Nat} {o : Obj} (o' : Obj) (h : w.heap[n]? = some o) : (w.alloc o').heap[n]? = some o := by
  rw [Below.heap_alloc _ _ _ (lt_of_block h)]; exact h

theorem Bx3.start (w : World) (s t : Int × Int) : Bx3 w (((w.alloc (.cells #[.int .i64 s.1, .int .i64 s.2] 24)).alloc (.cells #[.int .i64 t.1, .int .i64 t.2] 24)).alloc (.cells #[.int .i64 0, .int .i64 0] 24)) s t (0, 0) where
  bel := below_alloc (below_alloc (below_alloc (Below.refl _ _) _) _) _
  b0 := heap_up _ (heap_up _ (heap_at _ rfl))
  b1 := heap_up _ (heap_at _ (by simp))
  b2 := heap_at _ (by simp)

theorem cell_four {w : World} {n : Nat} {a b c d : Value} {t : TypeId} (h : w.heap[n]? = some (.cells #[a, b, c, d] t (0, 0))) : w.cell? ⟨n, 0, none⟩ = some a ∧ w.cell? ⟨n, 1, none⟩ = some b ∧ w.cell? ⟨n, 2, none⟩ = some c ∧ w.cell? ⟨n, 3, none⟩ = some d := by
  simp [World.cell?, h]

theorem span_all2_box (s t : Int × Int) (w : World) :
    Calls Try.prog 109 #[.slice (some ⟨w.heap.size + 1 + 1 + 1, 0, none⟩) 2 2] ((((w.alloc (.cells #[.int .i64 s.1, .int .i64 s.2] 24)).alloc (.cells #[.int .i64 t.1, .int .i64 t.2] 24)).alloc (.cells #[.int .i64 0, .int .i64 0] 24)).alloc (.cells #[.int .i64 s.1, .int .i64 s.2, .int .i64 t.1, .int .i64 t.2] 24)) fun e w' => e = .returned (.int .i64 (sChk2 s t)) ∧ Bx3 w w' s t (0, 0) := by
  have hB := Bx3.start w s t
  have hz : (((w.alloc (.cells #[.int .i64 s.1, .int .i64 s.2] 24)).alloc (.cells #[.int .i64 t.1, .int .i64 t.2] 24)).alloc (.cells #[.int .i64 0, .int .i64 0] 24)).heap.size = w.heap.size + 1 + 1 + 1 := by simp
  generalize (((w.alloc (.cells #[.int .i64 s.1, .int .i64 s.2] 24)).alloc (.cells #[.int .i64 t.1, .int .i64 t.2] 24)).alloc (.cells #[.int .i64 0, .int .i64 0] 24)) = W3 at *
  have hb := heap_at (.cells #[.int .i64 s.1, .int .i64 s.2, .int .i64 t.1, .int .i64 t.2] 24) hz
  have hB := hB.on (below_alloc (Below.refl _ _) (.cells #[.int .i64 s.1, .int .i64 s.2, .int .i64 t.1, .int .i64 t.2] 24))
  generalize W3.alloc (.cells #[.int .i64 s.1, .int .i64 s.2, .int .i64 t.1, .int .i64 t.2] 24) = W4 at *
  obtain ⟨c0, c1, c2, c3⟩ := cell_four hb
  refine (span_all2 s t W4 W4 _ ⟨Below.refl _ _, lt_of_block hb, c0, c1, c2, c3⟩).mono ?_
  rintro e w' ⟨rfl, hbel⟩
  exact ⟨rfl, hB.on hbel⟩

theorem below_set2 {w W : World} {b : Nat} (h : Below w.heap.size w W) (hb : w.heap.size ≤ b) (u v : Value) : Below w.heap.size w ((W.setCell ⟨b, 0, none⟩ u).setCell ⟨b, 1, none⟩ v) := (h.setCell hb _).setCell hb _


set_option maxRecDepth 100000 in
set_option maxHeartbeats 1000000 in
theorem span_Add (s t : Int × Int) (w : World) :
    Calls Try.prog 98 #[.agg #[.int .i64 s.1, .int .i64 s.2], .agg #[.int .i64 t.1, .int .i64 t.2]] w fun e w' => e = .returned (.tuple #[.agg #[.int .i64 (sAdd s t).1.1, .int .i64 (sAdd s t).1.2], .int .i64 (sAdd s t).2]) ∧ Below w.heap.size w w' := by
  by_cases h : okS s ∧ okS t
  · obtain ⟨hs, ht⟩ := h
    have HC := Lib.hid (sChk2_ok hs ht)
    have HR := Lib.hid (show sAdd s t = sT (s.1 + t.1) (s.2 + t.2) from on2_ok hs ht)
    obtain ⟨s1, s2, s3⟩ := hs
    obtain ⟨t1, t2, t3⟩ := ht
    go_enter Try.func98, Try.ntmps98
    go_wp2_with fail
    refine (span_all2_box s t w).mono ?_; rintro e w2 ⟨rfl, hB⟩; rw [HC.out]
    have a0 := cell_two0 hB.b0
    have a1 := cell_two1 hB.b0
    have b0 := cell_two0 hB.b1
    have b1 := cell_two1 hB.b1
    go_wp2_with fail
    refine (span_told _ _ _).mono ?_; rintro e w3 ⟨rfl, hbel⟩
    rw [← HR.out]
    have hB := hB.on hbel
    clear hbel a0 a1 b0 b1
    have c0 := cell_two0 hB.b2
    have c1 := cell_two1 hB.b2
    have f0 := free_two (i := 0) hB.b2
    have f1 := free_two (i := 1) hB.b2
    have l2 := lt_of_block hB.b2
    go_wp2_with fail
    exact bodyPost_ret (v := .tuple #[.agg #[.int .i64 (sAdd s t).1.1, .int .i64 (sAdd s t).1.2], .int .i64 (sAdd s t).2]) (by simp [results, Try.results98, go_sem, c0, c1]) rfl ⟨rfl, below_set2 hB.bel (by omega) _ _⟩
  · have HC := Lib.hid (sChk2_bad h)
    have HR := Lib.hid (show sAdd s t = ((0, 0), 20) from on2_bad h)
    clear h
    go_enter Try.func98, Try.ntmps98
    go_wp2_with fail
    refine (span_all2_box s t w).mono ?_; rintro e w2 ⟨rfl, hB⟩; rw [HC.out]
    have c0 := cell_two0 hB.b2
    have c1 := cell_two1 hB.b2
    have f0 := free_two (i := 0) hB.b2
    have f1 := free_two (i := 1) hB.b2
    have l2 := lt_of_block hB.b2
    go_wp2_with fail
    exact bodyPost_ret (v := .tuple #[.agg #[.int .i64 0, .int .i64 0], .int .i64 20]) (by simp [results, Try.results98, go_sem, c0, c1]) rfl ⟨ret_sp HR.out, below_set2 hB.bel (by omega) _ _⟩


set_option maxRecDepth 100000 in
set_option maxHeartbeats 1000000 in
theorem span_Sub (s t : Int × Int) (w : World) :
    Calls Try.prog 40 #[.agg #[.int .i64 s.1, .int .i64 s.2], .agg #[.int .i64 t.1, .int .i64 t.2]] w fun e w' => e = .returned (.tuple #[.agg #[.int .i64 (sSub s t).1.1, .int .i64 (sSub s t).1.2], .int .i64 (sSub s t).2]) ∧ Below w.heap.size w w' := by
  by_cases h : okS s ∧ okS t
  · obtain ⟨hs, ht⟩ := h
    have HC := Lib.hid (sChk2_ok hs ht)
    have HR := Lib.hid (show sSub s t = sT (s.1 - t.2) (s.2 - t.1) from on2_ok hs ht)
    obtain ⟨s1, s2, s3⟩ := hs
    obtain ⟨t1, t2, t3⟩ := ht
    go_enter Try.func40, Try.ntmps40
    go_wp2_with fail
    refine (span_all2_box s t w).mono ?_; rintro e w2 ⟨rfl, hB⟩; rw [HC.out]
    have a0 := cell_two0 hB.b0
    have a1 := cell_two1 hB.b0
    have b0 := cell_two0 hB.b1
    have b1 := cell_two1 hB.b1
    go_wp2_with fail
    refine (span_told _ _ _).mono ?_; rintro e w3 ⟨rfl, hbel⟩
    rw [← HR.out]
    have hB := hB.on hbel
    clear hbel a0 a1 b0 b1
    have c0 := cell_two0 hB.b2
    have c1 := cell_two1 hB.b2
    have f0 := free_two (i := 0) hB.b2
    have f1 := free_two (i := 1) hB.b2
    have l2 := lt_of_block hB.b2
    go_wp2_with fail
    exact bodyPost_ret (v := .tuple #[.agg #[.int .i64 (sSub s t).1.1, .int .i64 (sSub s t).1.2], .int .i64 (sSub s t).2]) (by simp [results, Try.results40, go_sem, c0, c1]) rfl ⟨rfl, below_set2 hB.bel (by omega) _ _⟩
  · have HC := Lib.hid (sChk2_bad h)
    have HR := Lib.hid (show sSub s t = ((0, 0), 20) from on2_bad h)
    clear h
    go_enter Try.func40, Try.ntmps40
    go_wp2_with fail
    refine (span_all2_box s t w).mono ?_; rintro e w2 ⟨rfl, hB⟩; rw [HC.out]
    have c0 := cell_two0 hB.b2
    have c1 := cell_two1 hB.b2
    have f0 := free_two (i := 0) hB.b2
    have f1 := free_two (i := 1) hB.b2
    have l2 := lt_of_block hB.b2
    go_wp2_with fail
    exact bodyPost_ret (v := .tuple #[.agg #[.int .i64 0, .int .i64 0], .int .i64 20]) (by simp [results, Try.results40, go_sem, c0, c1]) rfl ⟨ret_sp HR.out, below_set2 hB.bel (by omega) _ _⟩


end Go.Proofs.Ytgfofilkpaelnaa