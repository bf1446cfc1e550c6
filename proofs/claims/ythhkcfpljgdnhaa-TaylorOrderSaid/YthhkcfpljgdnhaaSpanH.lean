/- Contracts of package span: Scale, Sqrt. Printed by wip/genSH.py. -/
import Derived.Test.YthhkcfpljgdnhaaSpanX
import Derived.Test.YthhkcfpljgdnhaaPl
namespace Go.Proofs.Ythhkcfpljgdnhaa
open Go.RowKit Mnc

theorem sclC_ok {s : Int × Int} {n d x y : Int} (h : scl false s.1 n d = (x, 0)) (k : scl true s.2 n d = (y, 0)) : sclC s n d = ((x, y), 0) := by rw [sclC, h, k]; simp
theorem sclC_bad {s : Int × Int} {n d x y e f : Int} (h : scl false s.1 n d = (x, e)) (k : scl true s.2 n d = (y, f)) (hb : ¬ (e = 0 ∧ f = 0)) : sclC s n d = ((0, 0), max e f) := by rw [sclC, h, k]; simp only; rw [if_neg hb]
theorem sSqrt_ok {s : Int × Int} (h : okS s) (h0 : 0 ≤ s.1) : sSqrt s = sT (rt false s.1).1 (rt true s.2).1 := by
  have e : sSqrt s = _ := on1_ok h
  have hs := h
  obtain ⟨h1, h2, h3⟩ := hs
  rw [e, if_neg (by omega), rt_ok false h.lo h0, rt_ok true h.hi (by omega)]
  have a1 := rtOf_le false (n := s.1.toNat * 4294967296) (r := 4398046511104) (by omega)
  have a2 := rtOf_le true (n := s.2.toNat * 4294967296) (r := 4398046511104) (by omega)
  exact (sT_ok (by omega) (by omega)).symm

/-- The box of the operand set anew. -/
theorem Bx2.set {w W : World} {s r : Int × Int} (h : Bx2 w W s r) (x y : Int) : Bx2 w ((W.setCell ⟨w.heap.size, 0, none⟩ (.int .i64 x)).setCell ⟨w.heap.size, 1, none⟩ (.int .i64 y)) (x, y) r :=
  ⟨below_set2 h.bel (Nat.le_refl _) _ _, by rw [heap_setCell_same _ _ _ _ _ _ (heap_setCell_same _ _ _ _ _ _ h.b0)]; rfl, by rw [heap_setCell_other _ _ _ _ (by simp), heap_setCell_other _ _ _ _ (by simp)]; exact h.b1⟩


set_option maxRecDepth 100000 in
set_option maxHeartbeats 1000000 in
theorem span_Sqrt (s : Int × Int) (w : World) :
    Calls Try.prog 45 #[.agg #[.int .i64 s.1, .int .i64 s.2]] w fun e w' => e = .returned (.tuple #[.agg #[.int .i64 (sSqrt s).1.1, .int .i64 (sSqrt s).1.2], .int .i64 (sSqrt s).2]) ∧ Below w.heap.size w w' := by
  have hB := Bx2.start w s (0, 0)
  by_cases hs : okS s
  · have H := Lib.hid hs
    by_cases h0 : s.1 < 0
    · have HR := Lib.hid (show sSqrt s = ((0, 0), 2) by have e : sSqrt s = _ := on1_ok hs; rw [e, if_pos h0])
      clear hs
      go_enter Try.func45, Try.ntmps45
      go_wp2_with fail
      refine (span_Check_ok H.out _).mono ?_; rintro e w2 ⟨rfl, hbel⟩
      have hB := hB.on hbel
      clear hbel
      have a0 := cell_two0 hB.b0
      have a1 := cell_two1 hB.b0
      have c0 := cell_two0 hB.b1
      have c1 := cell_two1 hB.b1
      have f0 := free_two (i := 0) hB.b1
      have f1 := free_two (i := 1) hB.b1
      have l2 := lt_of_block hB.b1
      go_wp2_with fail
      exact bodyPost_ret (v := .tuple #[.agg #[.int .i64 0, .int .i64 0], .int .i64 2]) (by simp [results, Try.results45, go_sem, c0, c1]) rfl ⟨ret_sp HR.out, below_set2 hB.bel (by omega) _ _⟩
    · have HR := Lib.hid (sSqrt_ok hs (by omega))
      clear hs
      go_enter Try.func45, Try.ntmps45
      go_wp2_with fail
      refine (span_Check_ok H.out _).mono ?_; rintro e w2 ⟨rfl, hbel⟩
      have hB := hB.on hbel
      clear hbel
      have a0 := cell_two0 hB.b0
      have a1 := cell_two1 hB.b0
      go_wp2_with fail
      refine (fix_SqrtDown _ _).mono ?_; rintro e w3 ⟨rfl, hbel⟩
      have hB := hB.on hbel
      clear hbel a0 a1
      have a0 := cell_two0 hB.b0
      have a1 := cell_two1 hB.b0
      go_wp2_with fail
      refine (fix_SqrtUp _ _).mono ?_; rintro e w4 ⟨rfl, hbel⟩
      have hB := hB.on hbel
      clear hbel a0 a1
      go_wp2_with fail
      refine (span_told _ _ _).mono ?_; rintro e w5 ⟨rfl, hbel⟩
      rw [← HR.out]
      have hB := hB.on hbel
      clear hbel
      have c0 := cell_two0 hB.b1
      have c1 := cell_two1 hB.b1
      have f0 := free_two (i := 0) hB.b1
      have f1 := free_two (i := 1) hB.b1
      have l2 := lt_of_block hB.b1
      go_wp2_with fail
      exact bodyPost_ret (v := .tuple #[.agg #[.int .i64 (sSqrt s).1.1, .int .i64 (sSqrt s).1.2], .int .i64 (sSqrt s).2]) (by simp [results, Try.results45, go_sem, c0, c1]) rfl ⟨rfl, below_set2 hB.bel (by omega) _ _⟩
  · have H := Lib.hid hs
    have HR := Lib.hid (show sSqrt s = ((0, 0), 20) from on1_bad hs)
    clear hs
    go_enter Try.func45, Try.ntmps45
    go_wp2_with fail
    refine (span_Check_bad H.out _).mono ?_; rintro e w2 ⟨rfl, hbel⟩
    have hB := hB.on hbel
    clear hbel
    have c0 := cell_two0 hB.b1
    have c1 := cell_two1 hB.b1
    have f0 := free_two (i := 0) hB.b1
    have f1 := free_two (i := 1) hB.b1
    have l2 := lt_of_block hB.b1
    go_wp2_with fail
    exact bodyPost_ret (v := .tuple #[.agg #[.int .i64 0, .int .i64 0], .int .i64 20]) (by simp [results, Try.results45, go_sem, c0, c1]) rfl ⟨ret_sp HR.out, below_set2 hB.bel (by omega) _ _⟩


end Go.Proofs.Ythhkcfpljgdnhaa