/- Contracts of package span: Scale, Sqrt. Printed by wip/genSH.py. -/
import Derived.Test.YtgpaillkekhmdaaSpanX
import Derived.Test.YtgpaillkekhmdaaPl
namespace Go.Proofs.Ytgpaillkekhmdaa
open Go.RowKit Mnc

theorem sclC_ok {s : Int × Int} {n d x y : Int} (h : scl false s.1 n d = (x, 0)) (k : scl true s.2 n d = (y, 0)) : sclC s n d = ((x, y), 0) := by rw [sclC, h, k]; simp
theorem sclC_bad {s : Int × Int} {n d x y e f : Int} (h : scl false s.1 n d = (x, e)) (k : scl true s.2 n d = (y, f)) (hb : ¬ (e = 0 ∧ f = 0)) : sclC s n d = ((0, 0), max e f) := by rw [sclC, h, k]; simp only; rw [if_neg hb]
theorem sSqrt_ok {s : Int × Int} (h : okS s) (h0 : 0 ≤ s.1) : sSqrt s = sT (rt false s.1).1 (rt true s.2).1 := by
  have e : sSqrt s = _ := on1_ok h
  have hs := h
  obtain ⟨h1, h2, h3⟩ := hs
  rw [e, if_neg (by omega), rt_ok false h.lo h0, rt_ok true h.hi (by omega)]
  have a1 := rtOf_le false (n := s.1.toNat * 4294967296) (r := 4398046511104) (by omega)
  have a2 := rtOf_le true (n := s.2.toNat * 4294967296) (r := 4398046511104) (by omega)
  exact (sT_ok (by omega) (by omega)).symm

/-- The box of the operand set anew. -/
theorem Bx2.set {w W : World} {s r : Int × Int} (h : Bx2 w W s r) (x y : Int) : Bx2 w ((W.setCell ⟨w.heap.size, 0, none⟩ (.int .i64 x)).setCell ⟨w.heap.size, 1, none⟩ (.int .i64 y)) (x, y) r :=
  ⟨below_set2 h.bel (Nat.le_refl _) _ _, by rw [heap_setCell_same _ _ _ _ _ _ (heap_setCell_same _ _ _ _ _ _ h.b0)]; rfl, by rw [heap_setCell_other _ _ _ _ (by simp), heap_setCell_other _ _ _ _ (by simp)]; exact h.b1⟩


set_option maxRecDepth 100000 in
set_option maxHeartbeats 4000000 in
theorem span_Scale (s : Int × Int) (n d : Int) (w : World) :
    Calls Try.prog 21 #[.agg #[.int .i64 s.1, .int .i64 s.2], .int .i64 n, .int .i64 d] w fun e w' => e = .returned (.tuple #[.agg #[.int .i64 (sScl s n d).1.1, .int .i64 (sScl s n d).1.2], .int .i64 (sScl s n d).2]) ∧ Below w.heap.size w w' := by
  have hB := Bx2.start w s (0, 0)
  by_cases hs : okS s
  · have H := Lib.hid hs
    by_cases hn : n < 0
    · by_cases hm : n < -4611686018427387904
      · have HR := Lib.hid (show sScl s n d = ((0, 0), 2) by rw [sScl, if_pos hs, if_pos hn, if_pos hm])
        clear hs
        go_enter Try.func21, Try.ntmps21
        go_wp2_with fail
        refine (span_Check_ok H.out _).mono ?_; rintro e w2 ⟨rfl, hbel⟩
        have hB := hB.on hbel
        clear hbel
        have c0 := cell_two0 hB.b1
        have c1 := cell_two1 hB.b1
        have f0 := free_two (i := 0) hB.b1
        have f1 := free_two (i := 1) hB.b1
        have l2 := lt_of_block hB.b1
        go_wp2_with fail
        exact bodyPost_ret (v := .tuple #[.agg #[.int .i64 0, .int .i64 0], .int .i64 2]) (by simp [results, Try.results21, go_sem, c0, c1]) rfl ⟨ret_sp HR.out, below_set2 hB.bel (by omega) _ _⟩
      · have HR := Lib.hid (show sScl s n d = sclC (-s.2, -s.1) (-n) d by rw [sScl, if_pos hs, if_pos hn, if_neg hm])
        obtain ⟨s1, s2, s3⟩ := hs
        obtain ⟨⟨x, e1⟩, hx⟩ : ∃ y, y = scl false (-s.2, -s.1).1 (-n) d := ⟨_, rfl⟩
        obtain ⟨⟨y, e2⟩, hy⟩ : ∃ y, y = scl true (-s.2, -s.1).2 (-n) d := ⟨_, rfl⟩
        have EX := Lib.hid hx.symm
        have EY := Lib.hid hy.symm
        clear hx hy
        by_cases h1 : e1 = 0
        · subst h1
          by_cases h2 : e2 = 0
          · subst h2
            have HV := Lib.hid (HR.out.trans (sclC_ok EX.out EY.out))
            go_enter Try.func21, Try.ntmps21
            go_wp2_with fail
            refine (span_Check_ok H.out _).mono ?_; rintro e w2 ⟨rfl, hbel⟩
            have hB := hB.on hbel
            clear hbel
            have a0 := cell_two0 hB.b0
            have a1 := cell_two1 hB.b0
            have g0 := free_two (i := 0) hB.b0
            have g1 := free_two (i := 1) hB.b0
            go_upto_region 8 with (fail)
            have hB := hB.set (-s.2) (-s.1)
            clear a0 a1 g0 g1
            generalize ((w2.setCell ⟨w.heap.size, 0, none⟩ (.int .i64 (-s.2))).setCell ⟨w.heap.size, 1, none⟩ (.int .i64 (-s.1))) = w2 at *
            have a0 := cell_two0 hB.b0
            have a1 := cell_two1 hB.b0
            go_wp2_with fail
            refine (fix_ScaleDown _ _ _ _).mono ?_; rintro e w3 ⟨rfl, hbel⟩; rw [EX.out]
            have hB := hB.on hbel
            clear hbel a0 a1
            have a0 := cell_two0 hB.b0
            have a1 := cell_two1 hB.b0
            go_wp2_with fail
            refine (fix_ScaleUp _ _ _ _).mono ?_; rintro e w4 ⟨rfl, hbel⟩; rw [EY.out]
            have hB := hB.on hbel
            clear hbel a0 a1
            have c0 := cell_two0 hB.b1
            have c1 := cell_two1 hB.b1
            have f0 := free_two (i := 0) hB.b1
            have f1 := free_two (i := 1) hB.b1
            have l2 := lt_of_block hB.b1
            go_wp2_with fail
            exact bodyPost_ret (v := .tuple #[.agg #[.int .i64 x, .int .i64 y], .int .i64 0]) (by simp [results, Try.results21, go_sem, c0, c1]) rfl ⟨ret_sp HV.out, below_set2 hB.bel (by omega) _ _⟩
          · have h2b : (e2 == 0) = false := by simp [h2]
            have h2c : (e2 != 0) = true := by simp [h2]
            have HV := Lib.hid (HR.out.trans (sclC_bad EX.out EY.out (fun g => h2 g.2)))
            clear h2
            go_enter Try.func21, Try.ntmps21
            go_wp2_with fail
            refine (span_Check_ok H.out _).mono ?_; rintro e w2 ⟨rfl, hbel⟩
            have hB := hB.on hbel
            clear hbel
            have a0 := cell_two0 hB.b0
            have a1 := cell_two1 hB.b0
            have g0 := free_two (i := 0) hB.b0
            have g1 := free_two (i := 1) hB.b0
            go_upto_region 8 with (fail)
            have hB := hB.set (-s.2) (-s.1)
            clear a0 a1 g0 g1
            generalize ((w2.setCell ⟨w.heap.size, 0, none⟩ (.int .i64 (-s.2))).setCell ⟨w.heap.size, 1, none⟩ (.int .i64 (-s.1))) = w2 at *
            have a0 := cell_two0 hB.b0
            have a1 := cell_two1 hB.b0
            go_wp2_with fail
            refine (fix_ScaleDown _ _ _ _).mono ?_; rintro e w3 ⟨rfl, hbel⟩; rw [EX.out]
            have hB := hB.on hbel
            clear hbel a0 a1
            have a0 := cell_two0 hB.b0
            have a1 := cell_two1 hB.b0
            go_wp2_with fail
            refine (fix_ScaleUp _ _ _ _).mono ?_; rintro e w4 ⟨rfl, hbel⟩; rw [EY.out]
            have hB := hB.on hbel
            clear hbel a0 a1
            have c0 := cell_two0 hB.b1
            have c1 := cell_two1 hB.b1
            have f0 := free_two (i := 0) hB.b1
            have f1 := free_two (i := 1) hB.b1
            have l2 := lt_of_block hB.b1
            go_wp2_with fail
            exact bodyPost_ret (v := .tuple #[.agg #[.int .i64 0, .int .i64 0], .int .i64 (max 0 e2)]) (by simp [results, Try.results21, go_sem, c0, c1]) rfl ⟨ret_sp HV.out, below_set2 hB.bel (by omega) _ _⟩
        · have h1b : (e1 == 0) = false := by simp [h1]
          have h1c : (e1 != 0) = true := by simp [h1]
          have HV := Lib.hid (HR.out.trans (sclC_bad EX.out EY.out (fun g => h1 g.1)))
          clear h1
          go_enter Try.func21, Try.ntmps21
          go_wp2_with fail
          refine (span_Check_ok H.out _).mono ?_; rintro e w2 ⟨rfl, hbel⟩
          have hB := hB.on hbel
          clear hbel
          have a0 := cell_two0 hB.b0
          have a1 := cell_two1 hB.b0
          have g0 := free_two (i := 0) hB.b0
          have g1 := free_two (i := 1) hB.b0
          go_upto_region 8 with (fail)
          have hB := hB.set (-s.2) (-s.1)
          clear a0 a1 g0 g1
          generalize ((w2.setCell ⟨w.heap.size, 0, none⟩ (.int .i64 (-s.2))).setCell ⟨w.heap.size, 1, none⟩ (.int .i64 (-s.1))) = w2 at *
          have a0 := cell_two0 hB.b0
          have a1 := cell_two1 hB.b0
          go_wp2_with fail
          refine (fix_ScaleDown _ _ _ _).mono ?_; rintro e w3 ⟨rfl, hbel⟩; rw [EX.out]
          have hB := hB.on hbel
          clear hbel a0 a1
          have a0 := cell_two0 hB.b0
          have a1 := cell_two1 hB.b0
          go_wp2_with fail
          refine (fix_ScaleUp _ _ _ _).mono ?_; rintro e w4 ⟨rfl, hbel⟩; rw [EY.out]
          have hB := hB.on hbel
          clear hbel a0 a1
          have c0 := cell_two0 hB.b1
          have c1 := cell_two1 hB.b1
          have f0 := free_two (i := 0) hB.b1
          have f1 := free_two (i := 1) hB.b1
          have l2 := lt_of_block hB.b1
          go_wp2_with fail
          exact bodyPost_ret (v := .tuple #[.agg #[.int .i64 0, .int .i64 0], .int .i64 (max e1 e2)]) (by simp [results, Try.results21, go_sem, c0, c1]) rfl ⟨ret_sp HV.out, below_set2 hB.bel (by omega) _ _⟩
    · have HR := Lib.hid (show sScl s n d = sclC s n d by rw [sScl, if_pos hs, if_neg hn])
      clear hs
      obtain ⟨⟨x, e1⟩, hx⟩ : ∃ y, y = scl false s.1 n d := ⟨_, rfl⟩
      obtain ⟨⟨y, e2⟩, hy⟩ : ∃ y, y = scl true s.2 n d := ⟨_, rfl⟩
      have EX := Lib.hid hx.symm
      have EY := Lib.hid hy.symm
      clear hx hy
      by_cases h1 : e1 = 0
      · subst h1
        by_cases h2 : e2 = 0
        · subst h2
          have HV := Lib.hid (HR.out.trans (sclC_ok EX.out EY.out))
          go_enter Try.func21, Try.ntmps21
          go_wp2_with fail
          refine (span_Check_ok H.out _).mono ?_; rintro e w2 ⟨rfl, hbel⟩
          have hB := hB.on hbel
          clear hbel
          have a0 := cell_two0 hB.b0
          have a1 := cell_two1 hB.b0
          go_wp2_with fail
          refine (fix_ScaleDown _ _ _ _).mono ?_; rintro e w3 ⟨rfl, hbel⟩; rw [EX.out]
          have hB := hB.on hbel
          clear hbel a0 a1
          have a0 := cell_two0 hB.b0
          have a1 := cell_two1 hB.b0
          go_wp2_with fail
          refine (fix_ScaleUp _ _ _ _).mono ?_; rintro e w4 ⟨rfl, hbel⟩; rw [EY.out]
          have hB := hB.on hbel
          clear hbel a0 a1
          have c0 := cell_two0 hB.b1
          have c1 := cell_two1 hB.b1
          have f0 := free_two (i := 0) hB.b1
          have f1 := free_two (i := 1) hB.b1
          have l2 := lt_of_block hB.b1
          go_wp2_with fail
          exact bodyPost_ret (v := .tuple #[.agg #[.int .i64 x, .int .i64 y], .int .i64 0]) (by simp [results, Try.results21, go_sem, c0, c1]) rfl ⟨ret_sp HV.out, below_set2 hB.bel (by omega) _ _⟩
        · have h2b : (e2 == 0) = false := by simp [h2]
          have h2c : (e2 != 0) = true := by simp [h2]
          have HV := Lib.hid (HR.out.trans (sclC_bad EX.out EY.out (fun g => h2 g.2)))
          clear h2
          go_enter Try.func21, Try.ntmps21
          go_wp2_with fail
          refine (span_Check_ok H.out _).mono ?_; rintro e w2 ⟨rfl, hbel⟩
          have hB := hB.on hbel
          clear hbel
          have a0 := cell_two0 hB.b0
          have a1 := cell_two1 hB.b0
          go_wp2_with fail
          refine (fix_ScaleDown _ _ _ _).mono ?_; rintro e w3 ⟨rfl, hbel⟩; rw [EX.out]
          have hB := hB.on hbel
          clear hbel a0 a1
          have a0 := cell_two0 hB.b0
          have a1 := cell_two1 hB.b0
          go_wp2_with fail
          refine (fix_ScaleUp _ _ _ _).mono ?_; rintro e w4 ⟨rfl, hbel⟩; rw [EY.out]
          have hB := hB.on hbel
          clear hbel a0 a1
          have c0 := cell_two0 hB.b1
          have c1 := cell_two1 hB.b1
          have f0 := free_two (i := 0) hB.b1
          have f1 := free_two (i := 1) hB.b1
          have l2 := lt_of_block hB.b1
          go_wp2_with fail
          exact bodyPost_ret (v := .tuple #[.agg #[.int .i64 0, .int .i64 0], .int .i64 (max 0 e2)]) (by simp [results, Try.results21, go_sem, c0, c1]) rfl ⟨ret_sp HV.out, below_set2 hB.bel (by omega) _ _⟩
      · have h1b : (e1 == 0) = false := by simp [h1]
        have h1c : (e1 != 0) = true := by simp [h1]
        have HV := Lib.hid (HR.out.trans (sclC_bad EX.out EY.out (fun g => h1 g.1)))
        clear h1
        go_enter Try.func21, Try.ntmps21
        go_wp2_with fail
        refine (span_Check_ok H.out _).mono ?_; rintro e w2 ⟨rfl, hbel⟩
        have hB := hB.on hbel
        clear hbel
        have a0 := cell_two0 hB.b0
        have a1 := cell_two1 hB.b0
        go_wp2_with fail
        refine (fix_ScaleDown _ _ _ _).mono ?_; rintro e w3 ⟨rfl, hbel⟩; rw [EX.out]
        have hB := hB.on hbel
        clear hbel a0 a1
        have a0 := cell_two0 hB.b0
        have a1 := cell_two1 hB.b0
        go_wp2_with fail
        refine (fix_ScaleUp _ _ _ _).mono ?_; rintro e w4 ⟨rfl, hbel⟩; rw [EY.out]
        have hB := hB.on hbel
        clear hbel a0 a1
        have c0 := cell_two0 hB.b1
        have c1 := cell_two1 hB.b1
        have f0 := free_two (i := 0) hB.b1
        have f1 := free_two (i := 1) hB.b1
        have l2 := lt_of_block hB.b1
        go_wp2_with fail
        exact bodyPost_ret (v := .tuple #[.agg #[.int .i64 0, .int .i64 0], .int .i64 (max e1 e2)]) (by simp [results, Try.results21, go_sem, c0, c1]) rfl ⟨ret_sp HV.out, below_set2 hB.bel (by omega) _ _⟩
  · have H := Lib.hid hs
    have HR := Lib.hid (show sScl s n d = ((0, 0), 20) by rw [sScl, if_neg hs])
    clear hs
    go_enter Try.func21, Try.ntmps21
    go_wp2_with fail
    refine (span_Check_bad H.out _).mono ?_; rintro e w2 ⟨rfl, hbel⟩
    have hB := hB.on hbel
    clear hbel
    have c0 := cell_two0 hB.b1
    have c1 := cell_two1 hB.b1
    have f0 := free_two (i := 0) hB.b1
    have f1 := free_two (i := 1) hB.b1
    have l2 := lt_of_block hB.b1
    go_wp2_with fail
    exact bodyPost_ret (v := .tuple #[.agg #[.int .i64 0, .int .i64 0], .int .i64 20]) (by simp [results, Try.results21, go_sem, c0, c1]) rfl ⟨ret_sp HR.out, below_set2 hB.bel (by omega) _ _⟩

end Go.Proofs.Ytgpaillkekhmdaa