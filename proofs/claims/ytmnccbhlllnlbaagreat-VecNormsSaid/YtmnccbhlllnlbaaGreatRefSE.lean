/- Contracts of the reference of layer 2: Of, Point, Neg, Abs, Meet; alike of law 02. Printed by wip/genSR.py. -/
import Derived.Test.YtmnccbhlllnlbaaGreatRefY
import Derived.Test.YtmnccbhlllnlbaaGreatSpanX
namespace Mnc
open Go
theorem sNeg_ok {s : Int × Int} (h : okS s) : sNeg s = ((-s.2, -s.1), 0) := on1_ok h
theorem sNeg_bad {s : Int × Int} (h : ¬ okS s) : sNeg s = ((0, 0), 20) := on1_bad h
theorem sAbs_bad {s : Int × Int} (h : ¬ okS s) : sAbs s = ((0, 0), 20) := on1_bad h
theorem sAbs_pos {s : Int × Int} (h : okS s) (k : 0 ≤ s.1) : sAbs s = ((s.1, s.2), 0) := by
  have e : sAbs s = _ := on1_ok h
  obtain ⟨h1, h2, h3⟩ := h
  rw [e, show max (max s.1 (-s.2)) 0 = s.1 by omega, show max s.2 (-s.1) = s.2 by omega]
theorem sAbs_neg {s : Int × Int} (h : okS s) (k : s.2 ≤ 0) : sAbs s = ((-s.2, -s.1), 0) := by
  have e : sAbs s = _ := on1_ok h
  obtain ⟨h1, h2, h3⟩ := h
  rw [e, show max (max s.1 (-s.2)) 0 = -s.2 by omega, show max s.2 (-s.1) = -s.1 by omega]
theorem sAbs_mid {s : Int × Int} (h : okS s) (k : ¬ 0 ≤ s.1) (j : ¬ s.2 ≤ 0) : sAbs s = ((0, max (-s.1) s.2), 0) := by
  have e : sAbs s = _ := on1_ok h
  obtain ⟨h1, h2, h3⟩ := h
  rw [e, show max (max s.1 (-s.2)) 0 = 0 by omega, show max s.2 (-s.1) = max (-s.1) s.2 by omega]
theorem sMeet_ok {s t : Int × Int} (h : okS s) (k : okS t) (j : max s.1 t.1 ≤ min s.2 t.2) : sMeet s t = ((max s.1 t.1, min s.2 t.2), 0) := by
  have e : sMeet s t = _ := on2_ok h k
  rw [e, if_pos j]
theorem sMeet_none {s t : Int × Int} (h : okS s) (k : okS t) (j : ¬ max s.1 t.1 ≤ min s.2 t.2) : sMeet s t = ((0, 0), 4) := by
  have e : sMeet s t = _ := on2_ok h k
  rw [e, if_neg j]
theorem sMeet_bad {s t : Int × Int} (h : ¬ (okS s ∧ okS t)) : sMeet s t = ((0, 0), 20) := on2_bad h
end Mnc
namespace Go.Proofs.YtmnccbhlllnlbaaGreat
open Go.RowKit Mnc

set_option maxRecDepth 100000 in
set_option maxHeartbeats 1000000 in
theorem ref2_Neg (s : Int × Int) (w : World) :
    Calls Tryz.prog 45 #[.agg #[.int .i64 s.1, .int .i64 s.2]] w fun e w' => e = .returned (.tuple #[.agg #[.int .i64 (sNeg s).1.1, .int .i64 (sNeg s).1.2], .int .i64 (sNeg s).2]) ∧ Below w.heap.size w w' := by
  have hB := Bx2.start w s (0, 0)
  by_cases h : okS s
  · have H := Lib.hid h
    have HR := Lib.hid (sNeg_ok h)
    obtain ⟨s1, s2, s3⟩ := h
    go_enter Tryz.func45, Tryz.ntmps45
    go_wp2_with fail
    refine (ref2_Right_ok H.out _).mono ?_; rintro e w2 ⟨rfl, hbel⟩
    have hB := hB.on hbel
    clear hbel
    have c0 := cell_two0 hB.b1
    have c1 := cell_two1 hB.b1
    have f0 := free_two (i := 0) hB.b1
    have f1 := free_two (i := 1) hB.b1
    have l2 := lt_of_block hB.b1
    have a0 := cell_two0 hB.b0
    have a1 := cell_two1 hB.b0
    go_wp2_with fail
    exact bodyPost_ret (v := .tuple #[.agg #[.int .i64 (-s.2), .int .i64 (-s.1)], .int .i64 0]) (by simp [results, Tryz.results45, go_sem, c0, c1]) rfl ⟨ret_sp HR.out, below_set2 hB.bel (by omega) _ _⟩
  · have H := Lib.hid h
    have HR := Lib.hid (sNeg_bad h)
    clear h
    go_enter Tryz.func45, Tryz.ntmps45
    go_wp2_with fail
    refine (ref2_Right_bad H.out _).mono ?_; rintro e w2 ⟨rfl, hbel⟩
    have hB := hB.on hbel
    clear hbel
    have c0 := cell_two0 hB.b1
    have c1 := cell_two1 hB.b1
    have f0 := free_two (i := 0) hB.b1
    have f1 := free_two (i := 1) hB.b1
    have l2 := lt_of_block hB.b1
    go_wp2_with fail
    exact bodyPost_ret (v := .tuple #[.agg #[.int .i64 0, .int .i64 0], .int .i64 20]) (by simp [results, Tryz.results45, go_sem, c0, c1]) rfl ⟨ret_sp HR.out, below_set2 hB.bel (by omega) _ _⟩

end Go.Proofs.YtmnccbhlllnlbaaGreat
