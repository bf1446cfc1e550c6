/- Contracts of the reference of layer 2: Right, Check, result, Add, Sub, Neg, Min, Max, Hull, Meet, Abs, Of, Point, Has, Mid, Width, Sign. Printed by wip/genRS.py. -/
import Derived.Test.YtgfofilkpaelnaaSpanC
import Derived.Test.YtgfofilkpaelnaaRefE
namespace Go.Proofs.Ytgfofilkpaelnaa
open Go.RowKit Mnc

set_option maxHeartbeats 400000 in
theorem ref2_Right (s : Int × Int) (w : World) :
    Calls Try.prog 151 #[.agg #[.int .i64 s.1, .int .i64 s.2]] w fun e w' => e = .returned (.bool (decide (okS s))) ∧ Below w.heap.size w w' := by
  obtain ⟨lo, hi⟩ := s
  by_cases h1 : ok lo
  · have H1 := Lib.hid h1
    by_cases h2 : ok hi
    · have H2 := Lib.hid h2
      by_cases h3 : lo ≤ hi
      · rw [show decide (okS (lo, hi)) = true from decide_eq_true (by unfold ok at h1 h2; unfold okS; simp only; omega)]
        clear h1 h2
        go_enter Try.func151, Try.ntmps151
        go_wp2_with fail
        refine (ref1_Right_ok H1.out _).mono ?_; rintro e w2 ⟨rfl, rfl⟩
        go_wp2_with fail
        refine (ref1_Right_ok H2.out _).mono ?_; rintro e w2 ⟨rfl, rfl⟩
        go_wp2_with fail
        go_ret
        exact ⟨rfl, below_alloc (Below.refl _ _) _⟩
      · rw [show decide (okS (lo, hi)) = false from decide_eq_false (by unfold okS; simp only; omega)]
        have h4 : decide (lo ≤ hi) = false := by simp; omega
        clear h1 h2 h3
        go_enter Try.func151, Try.ntmps151
        go_wp2_with fail
        refine (ref1_Right_ok H1.out _).mono ?_; rintro e w2 ⟨rfl, rfl⟩
        go_wp2_with fail
        refine (ref1_Right_ok H2.out _).mono ?_; rintro e w2 ⟨rfl, rfl⟩
        go_wp2_with fail
        go_ret
        exact ⟨rfl, below_alloc (Below.refl _ _) _⟩
    · have H2 := Lib.hid h2
      rw [show decide (okS (lo, hi)) = false from decide_eq_false (fun g => h2 g.hi)]
      clear h1 h2
      go_enter Try.func151, Try.ntmps151
      go_wp2_with fail
      refine (ref1_Right_ok H1.out _).mono ?_; rintro e w2 ⟨rfl, rfl⟩
      go_wp2_with fail
      refine (ref1_Right_bad H2.out _).mono ?_; rintro e w2 ⟨rfl, rfl⟩
      go_wp2_with fail
      go_ret
      exact ⟨rfl, below_alloc (Below.refl _ _) _⟩
  · have H1 := Lib.hid h1
    rw [show decide (okS (lo, hi)) = false from decide_eq_false (fun g => h1 g.lo)]
    clear h1
    go_enter Try.func151, Try.ntmps151
    go_wp2_with fail
    refine (ref1_Right_bad H1.out _).mono ?_; rintro e w2 ⟨rfl, rfl⟩
    go_wp2_with fail
    go_ret
    exact ⟨rfl, below_alloc (Below.refl _ _) _⟩
theorem ref2_Right_ok {s : Int × Int} (h : okS s) (w : World) :
    Calls Try.prog 151 #[.agg #[.int .i64 s.1, .int .i64 s.2]] w fun e w' => e = .returned (.bool true) ∧ Below w.heap.size w w' := by
  have := ref2_Right s w
  rw [decide_eq_true h] at this
  exact this
theorem ref2_Right_bad {s : Int × Int} (h : ¬ okS s) (w : World) :
    Calls Try.prog 151 #[.agg #[.int .i64 s.1, .int .i64 s.2]] w fun e w' => e = .returned (.bool false) ∧ Below w.heap.size w w' := by
  have := ref2_Right s w
  rw [decide_eq_false h] at this
  exact this
theorem ref2_Right_mk {x y : Int} (h : okS (x, y)) (w : World) :
    Calls Try.prog 151 #[.agg #[.int .i64 x, .int .i64 y]] w fun e w' => e = .returned (.bool true) ∧ Below w.heap.size w w' := ref2_Right_ok h w
theorem ref2_Right_no {x y : Int} (h : ¬ okS (x, y)) (w : World) :
    Calls Try.prog 151 #[.agg #[.int .i64 x, .int .i64 y]] w fun e w' => e = .returned (.bool false) ∧ Below w.heap.size w w' := ref2_Right_bad h w

theorem ref2_Check (s : Int × Int) (w : World) :
    Calls Try.prog 139 #[.agg #[.int .i64 s.1, .int .i64 s.2]] w fun e w' => e = .returned (.int .i64 (sChk s)) ∧ Below w.heap.size w w' := by
  by_cases h : okS s
  · have H := Lib.hid h
    rw [sChk_ok h]
    clear h
    go_enter Try.func139, Try.ntmps139
    go_wp2_with fail
    refine (ref2_Right_ok H.out _).mono ?_; rintro e w2 ⟨rfl, hbel⟩
    have hb := below_step (below_alloc (Below.refl _ _) _) hbel
    clear hbel
    go_wp2_with fail
    go_ret
    exact ⟨rfl, hb⟩
  · have H := Lib.hid h
    rw [sChk_bad h]
    clear h
    go_enter Try.func139, Try.ntmps139
    go_wp2_with fail
    refine (ref2_Right_bad H.out _).mono ?_; rintro e w2 ⟨rfl, hbel⟩
    have hb := below_step (below_alloc (Below.refl _ _) _) hbel
    clear hbel
    go_wp2_with fail
    go_ret
    exact ⟨rfl, hb⟩

/-- Where two blocks of one interval stand. -/
theorem two_start (w : World) (a b c d : Int) : Bx2 w ((w.alloc (.cells #[.int .i64 a, .int .i64 b] 24)).alloc (.cells #[.int .i64 c, .int .i64 d] 24)) (a, b) (c, d) := Bx2.start w (a, b) (c, d)

set_option maxHeartbeats 1000000 in
theorem ref2_result (lo hi : Int) (hle : lo ≤ hi) (w : World) :
    Calls Try.prog 154 #[.int .i64 lo, .int .i64 hi, .bool true] w fun e w' => e = .returned (.tuple #[.agg #[.int .i64 (sT lo hi).1.1, .int .i64 (sT lo hi).1.2], .int .i64 (sT lo hi).2]) ∧ Below w.heap.size w w' := by
  have hB := two_start w 0 0 lo hi
  by_cases h : okS (lo, hi)
  · have H := Lib.hid h
    have HR := Lib.hid (sT_ok h.1 h.2.2)
    clear h hle
    go_enter Try.func154, Try.ntmps154
    go_wp2_with fail
    refine (ref2_Right_mk H.out _).mono ?_; rintro e w2 ⟨rfl, hbel⟩
    have hB := hB.on hbel
    clear hbel
    have c0 := cell_two0 hB.b0
    have c1 := cell_two1 hB.b0
    have d0 := cell_two0 hB.b1
    have d1 := cell_two1 hB.b1
    have f0 := free_two (i := 0) hB.b0
    have f1 := free_two (i := 1) hB.b0
    have l2 := lt_of_block hB.b0
    go_wp2_with fail
    exact bodyPost_ret (v := .tuple #[.agg #[.int .i64 lo, .int .i64 hi], .int .i64 0]) (by simp [results, Try.results154, go_sem, c0, c1]) rfl ⟨ret_sp HR.out, below_set2 hB.bel (by omega) _ _⟩
  · have H := Lib.hid h
    have HR := Lib.hid (sT_bad (lo := lo) (hi := hi) (fun g => h ⟨g.1, hle, g.2⟩))
    clear h hle
    go_enter Try.func154, Try.ntmps154
    go_wp2_with fail
    refine (ref2_Right_no H.out _).mono ?_; rintro e w2 ⟨rfl, hbel⟩
    have hB := hB.on hbel
    clear hbel
    have c0 := cell_two0 hB.b0
    have c1 := cell_two1 hB.b0
    have f0 := free_two (i := 0) hB.b0
    have f1 := free_two (i := 1) hB.b0
    have l2 := lt_of_block hB.b0
    go_wp2_with fail
    exact bodyPost_ret (v := .tuple #[.agg #[.int .i64 0, .int .i64 0], .int .i64 6]) (by simp [results, Try.results154, go_sem, c0, c1]) rfl ⟨ret_sp HR.out, below_set2 hB.bel (by omega) _ _⟩
theorem ref2_result_no (lo hi : Int) (w : World) :
    Calls Try.prog 154 #[.int .i64 lo, .int .i64 hi, .bool false] w fun e w' => e = .returned (.tuple #[.agg #[.int .i64 0, .int .i64 0], .int .i64 6]) ∧ Below w.heap.size w w' := by
  go_enter Try.func154, Try.ntmps154
  go_wp2_with fail
  exact bodyPost_ret (v := .tuple #[.agg #[.int .i64 0, .int .i64 0], .int .i64 6]) (by simp [results, Try.results154, go_sem]) rfl ⟨rfl, below_alloc (below_alloc (Below.refl _ _) _) _⟩

set_option maxHeartbeats 1000000 in
theorem ref2_Add (s t : Int × Int) (w : World) :
    Calls Try.prog 88 #[.agg #[.int .i64 s.1, .int .i64 s.2], .agg #[.int .i64 t.1, .int .i64 t.2]] w fun e w' => e = .returned (.tuple #[.agg #[.int .i64 (sAdd s t).1.1, .int .i64 (sAdd s t).1.2], .int .i64 (sAdd s t).2]) ∧ Below w.heap.size w w' := by
  have hB := Bx3.start w s t
  by_cases hs : okS s
  · by_cases ht : okS t
    · have HS := Lib.hid hs
      have HT := Lib.hid ht
      have HR := Lib.hid (show sAdd s t = sT (s.1 + t.1) (s.2 + t.2) from on2_ok hs ht)
      have hle : s.1 + t.1 ≤ s.2 + t.2 := by unfold okS at hs ht; omega
      obtain ⟨s1, s2, s3⟩ := hs
      obtain ⟨t1, t2, t3⟩ := ht
      go_enter Try.func88, Try.ntmps88
      go_wp2_with fail
      refine (ref2_Right_ok HS.out _).mono ?_; rintro e w2 ⟨rfl, hbel⟩
      have hB := hB.on hbel
      clear hbel
      have a0 := cell_two0 hB.b0
      have a1 := cell_two1 hB.b0
      have b0 := cell_two0 hB.b1
      have b1 := cell_two1 hB.b1
      go_wp2_with fail
      refine (ref2_Right_ok HT.out _).mono ?_; rintro e w3 ⟨rfl, hbel⟩
      have hB := hB.on hbel
      clear hbel a0 a1 b0 b1
      have a0 := cell_two0 hB.b0
      have a1 := cell_two1 hB.b0
      have b0 := cell_two0 hB.b1
      have b1 := cell_two1 hB.b1
      go_wp2_with fail
      refine (ref2_result _ _ hle _).mono ?_; rintro e w4 ⟨rfl, hbel⟩
      rw [← HR.out]
      have hB := hB.on hbel
      clear hbel a0 a1 b0 b1
      have c0 := cell_two0 hB.b2
      have c1 := cell_two1 hB.b2
      have f0 := free_two (i := 0) hB.b2
      have f1 := free_two (i := 1) hB.b2
      have l2 := lt_of_block hB.b2
      go_wp2_with fail
      exact bodyPost_ret (v := .tuple #[.agg #[.int .i64 (sAdd s t).1.1, .int .i64 (sAdd s t).1.2], .int .i64 (sAdd s t).2]) (by simp [results, Try.results88, go_sem, c0, c1]) rfl ⟨rfl, below_set2 hB.bel (by omega) _ _⟩
    · have HS := Lib.hid hs
      have HT := Lib.hid ht
      have HR := Lib.hid (show sAdd s t = ((0, 0), 20) from on2_bad (fun g => ht g.2))
      clear hs ht
      go_enter Try.func88, Try.ntmps88
      go_wp2_with fail
      refine (ref2_Right_ok HS.out _).mono ?_; rintro e w2 ⟨rfl, hbel⟩
      have hB := hB.on hbel
      clear hbel
      have a0 := cell_two0 hB.b0
      have a1 := cell_two1 hB.b0
      have b0 := cell_two0 hB.b1
      have b1 := cell_two1 hB.b1
      go_wp2_with fail
      refine (ref2_Right_bad HT.out _).mono ?_; rintro e w3 ⟨rfl, hbel⟩
      have hB := hB.on hbel
      clear hbel a0 a1 b0 b1
      have c0 := cell_two0 hB.b2
      have c1 := cell_two1 hB.b2
      have f0 := free_two (i := 0) hB.b2
      have f1 := free_two (i := 1) hB.b2
      have l2 := lt_of_block hB.b2
      go_wp2_with fail
      exact bodyPost_ret (v := .tuple #[.agg #[.int .i64 0, .int .i64 0], .int .i64 20]) (by simp [results, Try.results88, go_sem, c0, c1]) rfl ⟨ret_sp HR.out, below_set2 hB.bel (by omega) _ _⟩
  · have HS := Lib.hid hs
    have HR := Lib.hid (show sAdd s t = ((0, 0), 20) from on2_bad (fun g => hs g.1))
    clear hs
    go_enter Try.func88, Try.ntmps88
    go_wp2_with fail
    refine (ref2_Right_bad HS.out _).mono ?_; rintro e w2 ⟨rfl, hbel⟩
    have hB := hB.on hbel
    clear hbel
    have c0 := cell_two0 hB.b2
    have c1 := cell_two1 hB.b2
    have f0 := free_two (i := 0) hB.b2
    have f1 := free_two (i := 1) hB.b2
    have l2 := lt_of_block hB.b2
    go_wp2_with fail
    exact bodyPost_ret (v := .tuple #[.agg #[.int .i64 0, .int .i64 0], .int .i64 20]) (by simp [results, Try.results88, go_sem, c0, c1]) rfl ⟨ret_sp HR.out, below_set2 hB.bel (by omega) _ _⟩

end Go.Proofs.Ytgfofilkpaelnaa
