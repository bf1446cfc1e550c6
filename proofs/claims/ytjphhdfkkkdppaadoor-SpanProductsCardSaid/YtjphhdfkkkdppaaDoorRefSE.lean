/- Contracts of the reference of layer 2: Of, Point, Neg, Abs, Meet; alike of law 02. Printed by wip/genSR.py. -/
import Derived.Test.YtjphhdfkkkdppaaDoorRefY
import Derived.Test.YtjphhdfkkkdppaaDoorSpanX
namespace Mnc
open Go
theorem sNeg_ok {s : Int × Int} (h : okS s) : sNeg s = ((-s.2, -s.1), 0) := on1_ok h
theorem sNeg_bad {s : Int × Int} (h : ¬ okS s) : sNeg s = ((0, 0), 20) := on1_bad h
theorem sAbs_bad {s : Int × Int} (h : ¬ okS s) : sAbs s = ((0, 0), 20) := on1_bad h
theorem sAbs_pos {s : Int × Int} (h : okS s) (k : 0 ≤ s.1) : sAbs s = ((s.1, s.2), 0) := by
  have e : sAbs s = _ := on1_ok h
  obtain ⟨h1, h2, h3⟩ := h
  rw [e, show max (max s.1 (-s.2)) 0 = s.1 by omega, show max s.2 (-s.1) = s.2 by omega]
theorem sAbs_neg {s : Int × Int} (h : okS s) (k : s.2 ≤ 0) : sAbs s = ((-s.2, -s.1), 0) := by
  have e : sAbs s = _ := on1_ok h
  obtain ⟨h1, h2, h3⟩ := h
  rw [e, show max (max s.1 (-s.2)) 0 = -s.2 by omega, show max s.2 (-s.1) = -s.1 by omega]
theorem sAbs_mid {s : Int × Int} (h : okS s) (k : ¬ 0 ≤ s.1) (j : ¬ s.2 ≤ 0) : sAbs s = ((0, max (-s.1) s.2), 0) := by
  have e : sAbs s = _ := on1_ok h
  obtain ⟨h1, h2, h3⟩ := h
  rw [e, show max (max s.1 (-s.2)) 0 = 0 by omega, show max s.2 (-s.1) = max (-s.1) s.2 by omega]
theorem sMeet_ok {s t : Int × Int} (h : okS s) (k : okS t) (j : max s.1 t.1 ≤ min s.2 t.2) : sMeet s t = ((max s.1 t.1, min s.2 t.2), 0) := by
  have e : sMeet s t = _ := on2_ok h k
  rw [e, if_pos j]
theorem sMeet_none {s t : Int × Int} (h : okS s) (k : okS t) (j : ¬ max s.1 t.1 ≤ min s.2 t.2) : sMeet s t = ((0, 0), 4) := by
  have e : sMeet s t = _ := on2_ok h k
  rw [e, if_neg j]
theorem sMeet_bad {s t : Int × Int} (h : ¬ (okS s ∧ okS t)) : sMeet s t = ((0, 0), 20) := on2_bad h
end Mnc
namespace Go.Proofs.YtjphhdfkkkdppaaDoor
open Go.RowKit Mnc

set_option maxRecDepth 100000 in
set_option maxHeartbeats 1000000 in
theorem ref2_Of (lo hi : Int) (w : World) :
    Calls Tryd.prog 15 #[.int .i64 lo, .int .i64 hi] w fun e w' => e = .returned (.tuple #[.agg #[.int .i64 (sOf lo hi).1.1, .int .i64 (sOf lo hi).1.2], .int .i64 (sOf lo hi).2]) ∧ Below w.heap.size w w' := by
  have hB := two_start w 0 0 lo hi
  by_cases h : okS (lo, hi)
  · have H := Lib.hid h
    have HR := Lib.hid (sOf_ok h)
    clear h
    go_enter Tryd.func15, Tryd.ntmps15
    go_wp2_with fail
    refine (ref2_Right_mk H.out _).mono ?_; rintro e w2 ⟨rfl, hbel⟩
    have hB := hB.on hbel
    clear hbel
    have c0 := cell_two0 hB.b0
    have c1 := cell_two1 hB.b0
    have f0 := free_two (i := 0) hB.b0
    have f1 := free_two (i := 1) hB.b0
    have l2 := lt_of_block hB.b0
    have d0 := cell_two0 hB.b1
    have d1 := cell_two1 hB.b1
    go_wp2_with fail
    exact bodyPost_ret (v := .tuple #[.agg #[.int .i64 lo, .int .i64 hi], .int .i64 0]) (by simp [results, Tryd.results15, go_sem, c0, c1]) rfl ⟨ret_sp HR.out, below_set2 hB.bel (by omega) _ _⟩
  · have H := Lib.hid h
    have HR := Lib.hid (sOf_bad h)
    clear h
    go_enter Tryd.func15, Tryd.ntmps15
    go_wp2_with fail
    refine (ref2_Right_no H.out _).mono ?_; rintro e w2 ⟨rfl, hbel⟩
    have hB := hB.on hbel
    clear hbel
    have c0 := cell_two0 hB.b0
    have c1 := cell_two1 hB.b0
    have f0 := free_two (i := 0) hB.b0
    have f1 := free_two (i := 1) hB.b0
    have l2 := lt_of_block hB.b0
    go_wp2_with fail
    exact bodyPost_ret (v := .tuple #[.agg #[.int .i64 0, .int .i64 0], .int .i64 20]) (by simp [results, Tryd.results15, go_sem, c0, c1]) rfl ⟨ret_sp HR.out, below_set2 hB.bel (by omega) _ _⟩

set_option maxRecDepth 100000 in
set_option maxHeartbeats 1000000 in
theorem ref2_Point (v : Int) (w : World) :
    Calls Tryd.prog 17 #[.int .i64 v] w fun e w' => e = .returned (.tuple #[.agg #[.int .i64 (sOf v v).1.1, .int .i64 (sOf v v).1.2], .int .i64 (sOf v v).2]) ∧ Below w.heap.size w w' := by
  have hB := Bx1.start w (0, 0)
  go_enter Tryd.func17, Tryd.ntmps17
  go_wp2_with fail
  refine (ref2_Of v v _).mono ?_; rintro e w2 ⟨rfl, hbel⟩
  have hB := hB.on hbel
  clear hbel
  have c0 := cell_two0 hB.b0
  have c1 := cell_two1 hB.b0
  have f0 := free_two (i := 0) hB.b0
  have f1 := free_two (i := 1) hB.b0
  have l2 := lt_of_block hB.b0
  go_wp2_with fail
  exact bodyPost_ret (v := .tuple #[.agg #[.int .i64 (sOf v v).1.1, .int .i64 (sOf v v).1.2], .int .i64 (sOf v v).2]) (by simp [results, Tryd.results17, go_sem, c0, c1]) rfl ⟨rfl, below_set2 hB.bel (by omega) _ _⟩

set_option maxRecDepth 100000 in
set_option maxHeartbeats 1000000 in
theorem ref2_Neg (s : Int × Int) (w : World) :
    Calls Tryd.prog 29 #[.agg #[.int .i64 s.1, .int .i64 s.2]] w fun e w' => e = .returned (.tuple #[.agg #[.int .i64 (sNeg s).1.1, .int .i64 (sNeg s).1.2], .int .i64 (sNeg s).2]) ∧ Below w.heap.size w w' := by
  have hB := Bx2.start w s (0, 0)
  by_cases h : okS s
  · have H := Lib.hid h
    have HR := Lib.hid (sNeg_ok h)
    obtain ⟨s1, s2, s3⟩ := h
    go_enter Tryd.func29, Tryd.ntmps29
    go_wp2_with fail
    refine (ref2_Right_ok H.out _).mono ?_; rintro e w2 ⟨rfl, hbel⟩
    have hB := hB.on hbel
    clear hbel
    have c0 := cell_two0 hB.b1
    have c1 := cell_two1 hB.b1
    have f0 := free_two (i := 0) hB.b1
    have f1 := free_two (i := 1) hB.b1
    have l2 := lt_of_block hB.b1
    have a0 := cell_two0 hB.b0
    have a1 := cell_two1 hB.b0
    go_wp2_with fail
    exact bodyPost_ret (v := .tuple #[.agg #[.int .i64 (-s.2), .int .i64 (-s.1)], .int .i64 0]) (by simp [results, Tryd.results29, go_sem, c0, c1]) rfl ⟨ret_sp HR.out, below_set2 hB.bel (by omega) _ _⟩
  · have H := Lib.hid h
    have HR := Lib.hid (sNeg_bad h)
    clear h
    go_enter Tryd.func29, Tryd.ntmps29
    go_wp2_with fail
    refine (ref2_Right_bad H.out _).mono ?_; rintro e w2 ⟨rfl, hbel⟩
    have hB := hB.on hbel
    clear hbel
    have c0 := cell_two0 hB.b1
    have c1 := cell_two1 hB.b1
    have f0 := free_two (i := 0) hB.b1
    have f1 := free_two (i := 1) hB.b1
    have l2 := lt_of_block hB.b1
    go_wp2_with fail
    exact bodyPost_ret (v := .tuple #[.agg #[.int .i64 0, .int .i64 0], .int .i64 20]) (by simp [results, Tryd.results29, go_sem, c0, c1]) rfl ⟨ret_sp HR.out, below_set2 hB.bel (by omega) _ _⟩

set_option maxRecDepth 100000 in
set_option maxHeartbeats 1000000 in
theorem ref2_Abs (s : Int × Int) (w : World) :
    Calls Tryd.prog 37 #[.agg #[.int .i64 s.1, .int .i64 s.2]] w fun e w' => e = .returned (.tuple #[.agg #[.int .i64 (sAbs s).1.1, .int .i64 (sAbs s).1.2], .int .i64 (sAbs s).2]) ∧ Below w.heap.size w w' := by
  have hB := Bx2.start w s (0, 0)
  by_cases h : okS s
  · have H := Lib.hid h
    by_cases k : 0 ≤ s.1
    · have HR := Lib.hid (sAbs_pos h k)
      obtain ⟨s1, s2, s3⟩ := h
      have d1 : decide (0 ≤ s.1) = true := decide_eq_true k
      go_enter Tryd.func37, Tryd.ntmps37
      go_wp2_with fail
      refine (ref2_Right_ok H.out _).mono ?_; rintro e w2 ⟨rfl, hbel⟩
      have hB := hB.on hbel
      clear hbel
      have c0 := cell_two0 hB.b1
      have c1 := cell_two1 hB.b1
      have f0 := free_two (i := 0) hB.b1
      have f1 := free_two (i := 1) hB.b1
      have l2 := lt_of_block hB.b1
      have a0 := cell_two0 hB.b0
      have a1 := cell_two1 hB.b0
      go_wp2_with fail
      exact bodyPost_ret (v := .tuple #[.agg #[.int .i64 s.1, .int .i64 s.2], .int .i64 0]) (by simp [results, Tryd.results37, go_sem, c0, c1]) rfl ⟨ret_sp HR.out, below_set2 hB.bel (by omega) _ _⟩
    · by_cases j : s.2 ≤ 0
      · have HR := Lib.hid (sAbs_neg h j)
        obtain ⟨s1, s2, s3⟩ := h
        have d1 : decide (0 ≤ s.1) = false := decide_eq_false k
        have d2 : decide (s.2 ≤ 0) = true := decide_eq_true j
        go_enter Tryd.func37, Tryd.ntmps37
        go_wp2_with fail
        refine (ref2_Right_ok H.out _).mono ?_; rintro e w2 ⟨rfl, hbel⟩
        have hB := hB.on hbel
        clear hbel
        have c0 := cell_two0 hB.b1
        have c1 := cell_two1 hB.b1
        have f0 := free_two (i := 0) hB.b1
        have f1 := free_two (i := 1) hB.b1
        have l2 := lt_of_block hB.b1
        have a0 := cell_two0 hB.b0
        have a1 := cell_two1 hB.b0
        go_wp2_with fail
        exact bodyPost_ret (v := .tuple #[.agg #[.int .i64 (-s.2), .int .i64 (-s.1)], .int .i64 0]) (by simp [results, Tryd.results37, go_sem, c0, c1]) rfl ⟨ret_sp HR.out, below_set2 hB.bel (by omega) _ _⟩
      · have HR := Lib.hid (sAbs_mid h k j)
        obtain ⟨s1, s2, s3⟩ := h
        have d1 : decide (0 ≤ s.1) = false := decide_eq_false k
        have d2 : decide (s.2 ≤ 0) = false := decide_eq_false j
        go_enter Tryd.func37, Tryd.ntmps37
        go_wp2_with fail
        refine (ref2_Right_ok H.out _).mono ?_; rintro e w2 ⟨rfl, hbel⟩
        have hB := hB.on hbel
        clear hbel
        have c0 := cell_two0 hB.b1
        have c1 := cell_two1 hB.b1
        have f0 := free_two (i := 0) hB.b1
        have f1 := free_two (i := 1) hB.b1
        have l2 := lt_of_block hB.b1
        have a0 := cell_two0 hB.b0
        have a1 := cell_two1 hB.b0
        go_wp2_with fail
        exact bodyPost_ret (v := .tuple #[.agg #[.int .i64 0, .int .i64 (max (-s.1) s.2)], .int .i64 0]) (by simp [results, Tryd.results37, go_sem, c0, c1]) rfl ⟨ret_sp HR.out, below_set2 hB.bel (by omega) _ _⟩
  · have H := Lib.hid h
    have HR := Lib.hid (sAbs_bad h)
    clear h
    go_enter Tryd.func37, Tryd.ntmps37
    go_wp2_with fail
    refine (ref2_Right_bad H.out _).mono ?_; rintro e w2 ⟨rfl, hbel⟩
    have hB := hB.on hbel
    clear hbel
    have c0 := cell_two0 hB.b1
    have c1 := cell_two1 hB.b1
    have f0 := free_two (i := 0) hB.b1
    have f1 := free_two (i := 1) hB.b1
    have l2 := lt_of_block hB.b1
    go_wp2_with fail
    exact bodyPost_ret (v := .tuple #[.agg #[.int .i64 0, .int .i64 0], .int .i64 20]) (by simp [results, Tryd.results37, go_sem, c0, c1]) rfl ⟨ret_sp HR.out, below_set2 hB.bel (by omega) _ _⟩

set_option maxHeartbeats 1000000 in
theorem law2_alike (p : (Int × Int) × Int) (w : World) :
    Calls Tryd.prog 20 #[.agg #[.int .i64 p.1.1, .int .i64 p.1.2], .int .i64 p.2, .agg #[.int .i64 p.1.1, .int .i64 p.1.2], .int .i64 p.2] w fun e w' => e = .returned (.bool true) ∧ Below w.heap.size w w' := by
  go_enter Tryd.func20, Tryd.ntmps20
  go_wp2
  go_ret
  exact ⟨rfl, below_alloc (below_alloc (Below.refl _ _) _) _⟩
end Go.Proofs.YtjphhdfkkkdppaaDoor
