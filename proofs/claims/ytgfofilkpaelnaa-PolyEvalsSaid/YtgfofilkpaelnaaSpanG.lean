/- Contracts of package span: Mul, Div. Printed by wip/genSG.py. -/
import Derived.Test.YtgfofilkpaelnaaSpanF
namespace Go.Proofs.Ytgfofilkpaelnaa
open Go.RowKit Mnc


set_option maxRecDepth 100000 in
set_option maxHeartbeats 1000000 in
theorem span_Mul (s t : Int × Int) (w : World) :
    Calls Try.prog 34 #[.agg #[.int .i64 s.1, .int .i64 s.2], .agg #[.int .i64 t.1, .int .i64 t.2]] w fun e w' => e = .returned (.tuple #[.agg #[.int .i64 (sMul s t).1.1, .int .i64 (sMul s t).1.2], .int .i64 (sMul s t).2]) ∧ Below w.heap.size w w' := by
  by_cases h : okS s ∧ okS t
  · obtain ⟨hs, ht⟩ := h
    have HC := Lib.hid (sChk2_ok hs ht)
    have HR := Lib.hid (btw_mul hs ht)
    clear hs ht
    go_enter Try.func34, Try.ntmps34
    go_wp2_with fail
    refine (span_all2_box s t w).mono ?_; rintro e w2 ⟨rfl, hB⟩; rw [HC.out]
    have a0 := cell_two0 hB.b0
    have a1 := cell_two1 hB.b0
    have b0 := cell_two0 hB.b1
    have b1 := cell_two1 hB.b1
    go_wp2_with fail
    refine (span_between_mul s t _).mono ?_; rintro e w3 ⟨rfl, hbel⟩
    rw [HR.out]
    have hB := hB.on hbel
    clear hbel a0 a1 b0 b1
    have c0 := cell_two0 hB.b2
    have c1 := cell_two1 hB.b2
    have f0 := free_two (i := 0) hB.b2
    have f1 := free_two (i := 1) hB.b2
    have l2 := lt_of_block hB.b2
    go_wp2_with fail
    exact bodyPost_ret (v := .tuple #[.agg #[.int .i64 (sMul s t).1.1, .int .i64 (sMul s t).1.2], .int .i64 (sMul s t).2]) (by simp [results, Try.results34, go_sem, c0, c1]) rfl ⟨rfl, below_set2 hB.bel (by omega) _ _⟩
  · have HC := Lib.hid (sChk2_bad h)
    have HR := Lib.hid (show sMul s t = ((0, 0), 20) from on2_bad h)
    clear h
    go_enter Try.func34, Try.ntmps34
    go_wp2_with fail
    refine (span_all2_box s t w).mono ?_; rintro e w2 ⟨rfl, hB⟩; rw [HC.out]
    have c0 := cell_two0 hB.b2
    have c1 := cell_two1 hB.b2
    have f0 := free_two (i := 0) hB.b2
    have f1 := free_two (i := 1) hB.b2
    have l2 := lt_of_block hB.b2
    go_wp2_with fail
    exact bodyPost_ret (v := .tuple #[.agg #[.int .i64 0, .int .i64 0], .int .i64 20]) (by simp [results, Try.results34, go_sem, c0, c1]) rfl ⟨ret_sp HR.out, below_set2 hB.bel (by omega) _ _⟩


set_option maxRecDepth 100000 in
set_option maxHeartbeats 1000000 in
theorem span_Div (s t : Int × Int) (w : World) :
    Calls Try.prog 99 #[.agg #[.int .i64 s.1, .int .i64 s.2], .agg #[.int .i64 t.1, .int .i64 t.2]] w fun e w' => e = .returned (.tuple #[.agg #[.int .i64 (sDiv s t).1.1, .int .i64 (sDiv s t).1.2], .int .i64 (sDiv s t).2]) ∧ Below w.heap.size w w' := by
  by_cases h : okS s ∧ okS t
  · obtain ⟨hs, ht⟩ := h
    have HC := Lib.hid (sChk2_ok hs ht)
    by_cases hz : t.1 ≤ 0
    · by_cases hz2 : 0 ≤ t.2
      · have HR := Lib.hid (show sDiv s t = ((0, 0), 7) by have e : sDiv s t = _ := on2_ok hs ht; rw [e, if_pos ⟨hz, hz2⟩])
        clear hs ht
        go_enter Try.func99, Try.ntmps99
        go_wp2_with fail
        refine (span_all2_box s t w).mono ?_; rintro e w2 ⟨rfl, hB⟩; rw [HC.out]
        have a0 := cell_two0 hB.b0
        have a1 := cell_two1 hB.b0
        have b0 := cell_two0 hB.b1
        have b1 := cell_two1 hB.b1
        have c0 := cell_two0 hB.b2
        have c1 := cell_two1 hB.b2
        have f0 := free_two (i := 0) hB.b2
        have f1 := free_two (i := 1) hB.b2
        have l2 := lt_of_block hB.b2
        go_wp2_with fail
        exact bodyPost_ret (v := .tuple #[.agg #[.int .i64 0, .int .i64 0], .int .i64 7]) (by simp [results, Try.results99, go_sem, c0, c1]) rfl ⟨ret_sp HR.out, below_set2 hB.bel (by omega) _ _⟩
      · have HR := Lib.hid (btw_div hs ht (fun g => hz2 g.2))
        clear hs ht
        go_enter Try.func99, Try.ntmps99
        go_wp2_with fail
        refine (span_all2_box s t w).mono ?_; rintro e w2 ⟨rfl, hB⟩; rw [HC.out]
        have a0 := cell_two0 hB.b0
        have a1 := cell_two1 hB.b0
        have b0 := cell_two0 hB.b1
        have b1 := cell_two1 hB.b1
        go_wp2_with fail
        refine (span_between_div s t _).mono ?_; rintro e w3 ⟨rfl, hbel⟩
        rw [HR.out]
        have hB := hB.on hbel
        clear hbel a0 a1 b0 b1
        have c0 := cell_two0 hB.b2
        have c1 := cell_two1 hB.b2
        have f0 := free_two (i := 0) hB.b2
        have f1 := free_two (i := 1) hB.b2
        have l2 := lt_of_block hB.b2
        go_wp2_with fail
        exact bodyPost_ret (v := .tuple #[.agg #[.int .i64 (sDiv s t).1.1, .int .i64 (sDiv s t).1.2], .int .i64 (sDiv s t).2]) (by simp [results, Try.results99, go_sem, c0, c1]) rfl ⟨rfl, below_set2 hB.bel (by omega) _ _⟩
    · have HR := Lib.hid (btw_div hs ht (fun g => hz g.1))
      clear hs ht
      go_enter Try.func99, Try.ntmps99
      go_wp2_with fail
      refine (span_all2_box s t w).mono ?_; rintro e w2 ⟨rfl, hB⟩; rw [HC.out]
      have a0 := cell_two0 hB.b0
      have a1 := cell_two1 hB.b0
      have b0 := cell_two0 hB.b1
      have b1 := cell_two1 hB.b1
      go_wp2_with fail
      refine (span_between_div s t _).mono ?_; rintro e w3 ⟨rfl, hbel⟩
      rw [HR.out]
      have hB := hB.on hbel
      clear hbel a0 a1 b0 b1
      have c0 := cell_two0 hB.b2
      have c1 := cell_two1 hB.b2
      have f0 := free_two (i := 0) hB.b2
      have f1 := free_two (i := 1) hB.b2
      have l2 := lt_of_block hB.b2
      go_wp2_with fail
      exact bodyPost_ret (v := .tuple #[.agg #[.int .i64 (sDiv s t).1.1, .int .i64 (sDiv s t).1.2], .int .i64 (sDiv s t).2]) (by simp [results, Try.results99, go_sem, c0, c1]) rfl ⟨rfl, below_set2 hB.bel (by omega) _ _⟩
  · have HC := Lib.hid (sChk2_bad h)
    have HR := Lib.hid (show sDiv s t = ((0, 0), 20) from on2_bad h)
    clear h
    go_enter Try.func99, Try.ntmps99
    go_wp2_with fail
    refine (span_all2_box s t w).mono ?_; rintro e w2 ⟨rfl, hB⟩; rw [HC.out]
    have c0 := cell_two0 hB.b2
    have c1 := cell_two1 hB.b2
    have f0 := free_two (i := 0) hB.b2
    have f1 := free_two (i := 1) hB.b2
    have l2 := lt_of_block hB.b2
    go_wp2_with fail
    exact bodyPost_ret (v := .tuple #[.agg #[.int .i64 0, .int .i64 0], .int .i64 20]) (by simp [results, Try.results99, go_sem, c0, c1]) rfl ⟨ret_sp HR.out, below_set2 hB.bel (by omega) _ _⟩

end Go.Proofs.Ytgfofilkpaelnaa