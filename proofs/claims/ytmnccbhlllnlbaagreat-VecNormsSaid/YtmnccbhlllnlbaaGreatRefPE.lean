/- Contracts of the reference of layer 2: Pow, Sqr. Printed by wip/genPW.py. -/
import Derived.Test.YtmnccbhlllnlbaaGreatRefPD
namespace Go.Proofs.YtmnccbhlllnlbaaGreat
open Go.RowKit Mnc

set_option maxRecDepth 100000 in
set_option maxHeartbeats 8000000 in
theorem ref2_Pow_bad (s : Int × Int) (n : Int) (h : ¬ okS s) (w : World) :
    Calls Tryz.prog 79 #[.agg #[.int .i64 s.1, .int .i64 s.2], .int .i64 n] w fun e w' => e = .returned (.tuple #[.agg #[.int .i64 (sPow s n).1.1, .int .i64 (sPow s n).1.2], .int .i64 (sPow s n).2]) ∧ Below w.heap.size w w' := by
  have hB := Bx2.start w s (0, 0)
  have H := Lib.hid h
  have HR := Lib.hid (show sPow s n = ((0, 0), 20) from if_neg h)
  clear h
  go_enter Tryz.func79, Tryz.ntmps79
  go_wp2_with fail
  refine (ref2_Right_bad H.out _).mono ?_; rintro e w2 ⟨rfl, hbel⟩
  replace hB := hB.on hbel
  clear hbel
  have c0 := cell_two0 hB.b1
  have c1 := cell_two1 hB.b1
  have f0 := free_two (i := 0) hB.b1
  have f1 := free_two (i := 1) hB.b1
  have l2 := lt_of_block hB.b1
  go_wp2_with fail
  exact bodyPost_ret (v := .tuple #[.agg #[.int .i64 0, .int .i64 0], .int .i64 20]) (by simp [results, Tryz.results79, go_sem, c0, c1]) rfl ⟨ret_sp HR.out, below_set2 hB.bel (by omega) _ _⟩

set_option maxRecDepth 100000 in
set_option maxHeartbeats 8000000 in
theorem ref2_Pow_low (s : Int × Int) (n : Int) (h : okS s) (hn : n < 0) (w : World) :
    Calls Tryz.prog 79 #[.agg #[.int .i64 s.1, .int .i64 s.2], .int .i64 n] w fun e w' => e = .returned (.tuple #[.agg #[.int .i64 (sPow s n).1.1, .int .i64 (sPow s n).1.2], .int .i64 (sPow s n).2]) ∧ Below w.heap.size w w' := by
  have hB := Bx2.start w s (0, 0)
  have H := Lib.hid h
  have HR := Lib.hid (show sPow s n = ((0, 0), 2) by unfold sPow; rw [if_pos h, if_pos (by omega)])
  clear h
  go_enter Tryz.func79, Tryz.ntmps79
  go_wp2_with fail
  refine (ref2_Right_ok H.out _).mono ?_; rintro e w2 ⟨rfl, hbel⟩
  replace hB := hB.on hbel
  clear hbel
  have c0 := cell_two0 hB.b1
  have c1 := cell_two1 hB.b1
  have f0 := free_two (i := 0) hB.b1
  have f1 := free_two (i := 1) hB.b1
  have l2 := lt_of_block hB.b1
  go_wp2_with fail
  exact bodyPost_ret (v := .tuple #[.agg #[.int .i64 0, .int .i64 0], .int .i64 2]) (by simp [results, Tryz.results79, go_sem, c0, c1]) rfl ⟨ret_sp HR.out, below_set2 hB.bel (by omega) _ _⟩

set_option maxRecDepth 100000 in
set_option maxHeartbeats 8000000 in
theorem ref2_Pow_high (s : Int × Int) (n : Int) (h : okS s) (hn : 16 < n) (w : World) :
    Calls Tryz.prog 79 #[.agg #[.int .i64 s.1, .int .i64 s.2], .int .i64 n] w fun e w' => e = .returned (.tuple #[.agg #[.int .i64 (sPow s n).1.1, .int .i64 (sPow s n).1.2], .int .i64 (sPow s n).2]) ∧ Below w.heap.size w w' := by
  have hB := Bx2.start w s (0, 0)
  have H := Lib.hid h
  have HR := Lib.hid (show sPow s n = ((0, 0), 2) by unfold sPow; rw [if_pos h, if_pos (by omega)])
  clear h
  go_enter Tryz.func79, Tryz.ntmps79
  go_wp2_with fail
  refine (ref2_Right_ok H.out _).mono ?_; rintro e w2 ⟨rfl, hbel⟩
  replace hB := hB.on hbel
  clear hbel
  have c0 := cell_two0 hB.b1
  have c1 := cell_two1 hB.b1
  have f0 := free_two (i := 0) hB.b1
  have f1 := free_two (i := 1) hB.b1
  have l2 := lt_of_block hB.b1
  go_wp2_with fail
  exact bodyPost_ret (v := .tuple #[.agg #[.int .i64 0, .int .i64 0], .int .i64 2]) (by simp [results, Tryz.results79, go_sem, c0, c1]) rfl ⟨ret_sp HR.out, below_set2 hB.bel (by omega) _ _⟩

set_option maxRecDepth 100000 in
set_option maxHeartbeats 8000000 in
theorem ref2_Pow_zero (s : Int × Int) (h : okS s) (w : World) :
    Calls Tryz.prog 79 #[.agg #[.int .i64 s.1, .int .i64 s.2], .int .i64 0] w fun e w' => e = .returned (.tuple #[.agg #[.int .i64 (sPow s 0).1.1, .int .i64 (sPow s 0).1.2], .int .i64 (sPow s 0).2]) ∧ Below w.heap.size w w' := by
  have hB := Bx2.start w s (0, 0)
  have H := Lib.hid h
  have HR := Lib.hid (show sPow s 0 = ((4294967296, 4294967296), 0) by unfold sPow; rw [if_pos h, if_neg (by omega), if_pos rfl])
  clear h
  go_enter Tryz.func79, Tryz.ntmps79
  go_wp2_with fail
  refine (ref2_Right_ok H.out _).mono ?_; rintro e w2 ⟨rfl, hbel⟩
  replace hB := hB.on hbel
  clear hbel
  have c0 := cell_two0 hB.b1
  have c1 := cell_two1 hB.b1
  have f0 := free_two (i := 0) hB.b1
  have f1 := free_two (i := 1) hB.b1
  have l2 := lt_of_block hB.b1
  go_wp2_with fail
  exact bodyPost_ret (v := .tuple #[.agg #[.int .i64 4294967296, .int .i64 4294967296], .int .i64 0]) (by simp [results, Tryz.results79, go_sem, c0, c1]) rfl ⟨ret_sp HR.out, below_set2 hB.bel (by omega) _ _⟩

set_option maxRecDepth 100000 in
set_option maxHeartbeats 8000000 in
theorem ref2_Pow_odd (s : Int × Int) (n : Nat) (h : okS s) (h1 : 1 ≤ n) (hn : n ≤ 16) (he : n % 2 = 1) (w : World) :
    Calls Tryz.prog 79 #[.agg #[.int .i64 s.1, .int .i64 s.2], .int .i64 (n : Int)] w fun e w' => e = .returned (.tuple #[.agg #[.int .i64 (sPow s (n : Int)).1.1, .int .i64 (sPow s (n : Int)).1.2], .int .i64 (sPow s (n : Int)).2]) ∧ Below w.heap.size w w' := by
  have hB := Bx2.start w s (0, 0)
  have H := Lib.hid h
  have HL := Lib.hid (pow_laws h h1 hn)
  have HLo := Lib.hid (show pLo s n = (min (rwr false s.1 n) (rwr false s.2 n)) from if_neg (by omega))
  have HHi := Lib.hid (show pHi s n = max (rwr true s.1 n) (rwr true s.2 n) from rfl)
  have HC1 := Lib.hid (fun W => ref2_raised s.1 h.lo n h1 hn false W)
  have HC2 := Lib.hid (fun W => ref2_raised s.2 h.hi n h1 hn false W)
  have HC3 := Lib.hid (fun W => ref2_raised s.1 h.lo n h1 hn true W)
  have HC4 := Lib.hid (fun W => ref2_raised s.2 h.hi n h1 hn true W)
  have d1 : ((n : Int) % 2 == 0) = false := by simp; omega
  clear h
  go_enter Tryz.func79, Tryz.ntmps79
  go_wp2_with fail
  refine (ref2_Right_ok H.out _).mono ?_; rintro e w2 ⟨rfl, hbel⟩
  replace hB := hB.on hbel
  clear hbel
  have a0 := cell_two0 hB.b0
  have a1 := cell_two1 hB.b0
  have la := lt_of_block hB.b0
  go_wp2_with fail
  clear a0 a1 la
  refine (HC1.out _).mono ?_; rintro e w2 ⟨⟨R1, F1, rfl, ha1, hb1, -, -⟩, hbel⟩
  replace hB := hB.on hbel
  clear hbel
  have HA1 := Lib.hid ha1
  have HB1 := Lib.hid hb1
  clear ha1 hb1
  have a0 := cell_two0 hB.b0
  have a1 := cell_two1 hB.b0
  have la := lt_of_block hB.b0
  go_wp2_with fail
  clear a0 a1 la
  refine (HC2.out _).mono ?_; rintro e w2 ⟨⟨R2, F2, rfl, ha2, hb2, -, -⟩, hbel⟩
  replace hB := hB.on hbel
  clear hbel
  have HA2 := Lib.hid ha2
  have HB2 := Lib.hid hb2
  clear ha2 hb2
  have a0 := cell_two0 hB.b0
  have a1 := cell_two1 hB.b0
  have la := lt_of_block hB.b0
  go_wp2_with fail
  clear a0 a1 la
  refine (HC3.out _).mono ?_; rintro e w2 ⟨⟨R3, F3, rfl, ha3, hb3, -, -⟩, hbel⟩
  replace hB := hB.on hbel
  clear hbel
  have HA3 := Lib.hid ha3
  have HB3 := Lib.hid hb3
  clear ha3 hb3
  have a0 := cell_two0 hB.b0
  have a1 := cell_two1 hB.b0
  have la := lt_of_block hB.b0
  go_wp2_with fail
  clear a0 a1 la
  refine (HC4.out _).mono ?_; rintro e w2 ⟨⟨R4, F4, rfl, ha4, hb4, -, -⟩, hbel⟩
  replace hB := hB.on hbel
  clear hbel
  have HA4 := Lib.hid ha4
  have HB4 := Lib.hid hb4
  clear ha4 hb4
  clear HC1 HC2 HC3 HC4
  cases F1 with
  | false =>
    have HBad := Lib.hid (HL.out.2 (fun g => HB1.out rfl g.1))
    have a0 := cell_two0 hB.b0
    have a1 := cell_two1 hB.b0
    have la := lt_of_block hB.b0
    go_wp2_with fail
    clear a0 a1 la
    refine (ref2_result_no _ _ _).mono ?_; rintro e w2 ⟨rfl, hbel⟩
    replace hB := hB.on hbel
    clear hbel
    have c0 := cell_two0 hB.b1
    have c1 := cell_two1 hB.b1
    have f0 := free_two (i := 0) hB.b1
    have f1 := free_two (i := 1) hB.b1
    have l2 := lt_of_block hB.b1
    go_wp2_with fail
    exact bodyPost_ret (v := .tuple #[.agg #[.int .i64 0, .int .i64 0], .int .i64 6]) (by simp [results, Tryz.results79, go_sem, c0, c1]) rfl ⟨ret_sp HBad.out, below_set2 hB.bel (by omega) _ _⟩
  | true =>
    obtain ⟨rfl, k1⟩ := HA1.out rfl
    have K1 := Lib.hid k1
    clear k1
    cases F2 with
    | false =>
      have HBad := Lib.hid (HL.out.2 (fun g => HB2.out rfl g.2.1))
      have a0 := cell_two0 hB.b0
      have a1 := cell_two1 hB.b0
      have la := lt_of_block hB.b0
      go_wp2_with fail
      clear a0 a1 la
      refine (ref2_result_no _ _ _).mono ?_; rintro e w2 ⟨rfl, hbel⟩
      replace hB := hB.on hbel
      clear hbel
      have c0 := cell_two0 hB.b1
      have c1 := cell_two1 hB.b1
      have f0 := free_two (i := 0) hB.b1
      have f1 := free_two (i := 1) hB.b1
      have l2 := lt_of_block hB.b1
      go_wp2_with fail
      exact bodyPost_ret (v := .tuple #[.agg #[.int .i64 0, .int .i64 0], .int .i64 6]) (by simp [results, Tryz.results79, go_sem, c0, c1]) rfl ⟨ret_sp HBad.out, below_set2 hB.bel (by omega) _ _⟩
    | true =>
      obtain ⟨rfl, k2⟩ := HA2.out rfl
      have K2 := Lib.hid k2
      clear k2
      cases F3 with
      | false =>
        have HBad := Lib.hid (HL.out.2 (fun g => HB3.out rfl g.2.2.1))
        have a0 := cell_two0 hB.b0
        have a1 := cell_two1 hB.b0
        have la := lt_of_block hB.b0
        go_wp2_with fail
        clear a0 a1 la
        refine (ref2_result_no _ _ _).mono ?_; rintro e w2 ⟨rfl, hbel⟩
        replace hB := hB.on hbel
        clear hbel
        have c0 := cell_two0 hB.b1
        have c1 := cell_two1 hB.b1
        have f0 := free_two (i := 0) hB.b1
        have f1 := free_two (i := 1) hB.b1
        have l2 := lt_of_block hB.b1
        go_wp2_with fail
        exact bodyPost_ret (v := .tuple #[.agg #[.int .i64 0, .int .i64 0], .int .i64 6]) (by simp [results, Tryz.results79, go_sem, c0, c1]) rfl ⟨ret_sp HBad.out, below_set2 hB.bel (by omega) _ _⟩
      | true =>
        obtain ⟨rfl, k3⟩ := HA3.out rfl
        have K3 := Lib.hid k3
        clear k3
        cases F4 with
        | false =>
          have HBad := Lib.hid (HL.out.2 (fun g => HB4.out rfl g.2.2.2))
          have a0 := cell_two0 hB.b0
          have a1 := cell_two1 hB.b0
          have la := lt_of_block hB.b0
          go_wp2_with fail
          clear a0 a1 la
          refine (ref2_result_no _ _ _).mono ?_; rintro e w2 ⟨rfl, hbel⟩
          replace hB := hB.on hbel
          clear hbel
          have c0 := cell_two0 hB.b1
          have c1 := cell_two1 hB.b1
          have f0 := free_two (i := 0) hB.b1
          have f1 := free_two (i := 1) hB.b1
          have l2 := lt_of_block hB.b1
          go_wp2_with fail
          exact bodyPost_ret (v := .tuple #[.agg #[.int .i64 0, .int .i64 0], .int .i64 6]) (by simp [results, Tryz.results79, go_sem, c0, c1]) rfl ⟨ret_sp HBad.out, below_set2 hB.bel (by omega) _ _⟩
        | true =>
          obtain ⟨rfl, k4⟩ := HA4.out rfl
          have K4 := Lib.hid k4
          clear k4
          obtain ⟨hle, heq⟩ := HL.out.1 ⟨K1.out, K2.out, K3.out, K4.out⟩
          rw [HLo.out, HHi.out] at hle heq
          have HLE := Lib.hid hle
          have HEQ := Lib.hid heq
          clear hle heq HL HLo HHi HA1 HA2 HA3 HA4 HB1 HB2 HB3 HB4 K1 K2 K3 K4
          have a0 := cell_two0 hB.b0
          have a1 := cell_two1 hB.b0
          have la := lt_of_block hB.b0
          go_wp2_with fail
          clear a0 a1 la
          refine (ref2_result (min (rwr false s.1 n) (rwr false s.2 n)) (max (rwr true s.1 n) (rwr true s.2 n)) HLE.out _).mono ?_; rintro e w2 ⟨rfl, hbel⟩
          replace hB := hB.on hbel
          clear hbel
          have HF := Lib.hid HEQ.out
          clear HEQ HLE
          generalize sT (min (rwr false s.1 n) (rwr false s.2 n)) (max (rwr true s.1 n) (rwr true s.2 n)) = r at *
          have c0 := cell_two0 hB.b1
          have c1 := cell_two1 hB.b1
          have f0 := free_two (i := 0) hB.b1
          have f1 := free_two (i := 1) hB.b1
          have l2 := lt_of_block hB.b1
          go_wp2_with fail
          exact bodyPost_ret (v := .tuple #[.agg #[.int .i64 r.1.1, .int .i64 r.1.2], .int .i64 r.2]) (by simp [results, Tryz.results79, go_sem, c0, c1]) rfl ⟨by rw [HF.out], below_set2 hB.bel (by omega) _ _⟩

set_option maxRecDepth 100000 in
set_option maxHeartbeats 8000000 in
theorem ref2_Pow_pos (s : Int × Int) (n : Nat) (h : okS s) (h1 : 1 ≤ n) (hn : n ≤ 16) (he : n % 2 = 0) (hl : ¬ s.1 < 0) (w : World) :
    Calls Tryz.prog 79 #[.agg #[.int .i64 s.1, .int .i64 s.2], .int .i64 (n : Int)] w fun e w' => e = .returned (.tuple #[.agg #[.int .i64 (sPow s (n : Int)).1.1, .int .i64 (sPow s (n : Int)).1.2], .int .i64 (sPow s (n : Int)).2]) ∧ Below w.heap.size w w' := by
  have hB := Bx2.start w s (0, 0)
  have H := Lib.hid h
  have HL := Lib.hid (pow_laws h h1 hn)
  have HLo := Lib.hid (show pLo s n = (min (rwr false s.1 n) (rwr false s.2 n)) from if_neg (by omega))
  have HHi := Lib.hid (show pHi s n = max (rwr true s.1 n) (rwr true s.2 n) from rfl)
  have HC1 := Lib.hid (fun W => ref2_raised s.1 h.lo n h1 hn false W)
  have HC2 := Lib.hid (fun W => ref2_raised s.2 h.hi n h1 hn false W)
  have HC3 := Lib.hid (fun W => ref2_raised s.1 h.lo n h1 hn true W)
  have HC4 := Lib.hid (fun W => ref2_raised s.2 h.hi n h1 hn true W)
  have d1 : ((n : Int) % 2 == 0) = true := by simp; omega
  have d2 : decide (s.1 < 0) = false := decide_eq_false hl
  clear h
  go_enter Tryz.func79, Tryz.ntmps79
  go_wp2_with fail
  refine (ref2_Right_ok H.out _).mono ?_; rintro e w2 ⟨rfl, hbel⟩
  replace hB := hB.on hbel
  clear hbel
  have a0 := cell_two0 hB.b0
  have a1 := cell_two1 hB.b0
  have la := lt_of_block hB.b0
  go_wp2_with fail
  clear a0 a1 la
  refine (HC1.out _).mono ?_; rintro e w2 ⟨⟨R1, F1, rfl, ha1, hb1, -, -⟩, hbel⟩
  replace hB := hB.on hbel
  clear hbel
  have HA1 := Lib.hid ha1
  have HB1 := Lib.hid hb1
  clear ha1 hb1
  have a0 := cell_two0 hB.b0
  have a1 := cell_two1 hB.b0
  have la := lt_of_block hB.b0
  go_wp2_with fail
  clear a0 a1 la
  refine (HC2.out _).mono ?_; rintro e w2 ⟨⟨R2, F2, rfl, ha2, hb2, -, -⟩, hbel⟩
  replace hB := hB.on hbel
  clear hbel
  have HA2 := Lib.hid ha2
  have HB2 := Lib.hid hb2
  clear ha2 hb2
  have a0 := cell_two0 hB.b0
  have a1 := cell_two1 hB.b0
  have la := lt_of_block hB.b0
  go_wp2_with fail
  clear a0 a1 la
  refine (HC3.out _).mono ?_; rintro e w2 ⟨⟨R3, F3, rfl, ha3, hb3, -, -⟩, hbel⟩
  replace hB := hB.on hbel
  clear hbel
  have HA3 := Lib.hid ha3
  have HB3 := Lib.hid hb3
  clear ha3 hb3
  have a0 := cell_two0 hB.b0
  have a1 := cell_two1 hB.b0
  have la := lt_of_block hB.b0
  go_wp2_with fail
  clear a0 a1 la
  refine (HC4.out _).mono ?_; rintro e w2 ⟨⟨R4, F4, rfl, ha4, hb4, -, -⟩, hbel⟩
  replace hB := hB.on hbel
  clear hbel
  have HA4 := Lib.hid ha4
  have HB4 := Lib.hid hb4
  clear ha4 hb4
  clear HC1 HC2 HC3 HC4
  cases F1 with
  | false =>
    have HBad := Lib.hid (HL.out.2 (fun g => HB1.out rfl g.1))
    have a0 := cell_two0 hB.b0
    have a1 := cell_two1 hB.b0
    have la := lt_of_block hB.b0
    go_wp2_with fail
    clear a0 a1 la
    refine (ref2_result_no _ _ _).mono ?_; rintro e w2 ⟨rfl, hbel⟩
    replace hB := hB.on hbel
    clear hbel
    have c0 := cell_two0 hB.b1
    have c1 := cell_two1 hB.b1
    have f0 := free_two (i := 0) hB.b1
    have f1 := free_two (i := 1) hB.b1
    have l2 := lt_of_block hB.b1
    go_wp2_with fail
    exact bodyPost_ret (v := .tuple #[.agg #[.int .i64 0, .int .i64 0], .int .i64 6]) (by simp [results, Tryz.results79, go_sem, c0, c1]) rfl ⟨ret_sp HBad.out, below_set2 hB.bel (by omega) _ _⟩
  | true =>
    obtain ⟨rfl, k1⟩ := HA1.out rfl
    have K1 := Lib.hid k1
    clear k1
    cases F2 with
    | false =>
      have HBad := Lib.hid (HL.out.2 (fun g => HB2.out rfl g.2.1))
      have a0 := cell_two0 hB.b0
      have a1 := cell_two1 hB.b0
      have la := lt_of_block hB.b0
      go_wp2_with fail
      clear a0 a1 la
      refine (ref2_result_no _ _ _).mono ?_; rintro e w2 ⟨rfl, hbel⟩
      replace hB := hB.on hbel
      clear hbel
      have c0 := cell_two0 hB.b1
      have c1 := cell_two1 hB.b1
      have f0 := free_two (i := 0) hB.b1
      have f1 := free_two (i := 1) hB.b1
      have l2 := lt_of_block hB.b1
      go_wp2_with fail
      exact bodyPost_ret (v := .tuple #[.agg #[.int .i64 0, .int .i64 0], .int .i64 6]) (by simp [results, Tryz.results79, go_sem, c0, c1]) rfl ⟨ret_sp HBad.out, below_set2 hB.bel (by omega) _ _⟩
    | true =>
      obtain ⟨rfl, k2⟩ := HA2.out rfl
      have K2 := Lib.hid k2
      clear k2
      cases F3 with
      | false =>
        have HBad := Lib.hid (HL.out.2 (fun g => HB3.out rfl g.2.2.1))
        have a0 := cell_two0 hB.b0
        have a1 := cell_two1 hB.b0
        have la := lt_of_block hB.b0
        go_wp2_with fail
        clear a0 a1 la
        refine (ref2_result_no _ _ _).mono ?_; rintro e w2 ⟨rfl, hbel⟩
        replace hB := hB.on hbel
        clear hbel
        have c0 := cell_two0 hB.b1
        have c1 := cell_two1 hB.b1
        have f0 := free_two (i := 0) hB.b1
        have f1 := free_two (i := 1) hB.b1
        have l2 := lt_of_block hB.b1
        go_wp2_with fail
        exact bodyPost_ret (v := .tuple #[.agg #[.int .i64 0, .int .i64 0], .int .i64 6]) (by simp [results, Tryz.results79, go_sem, c0, c1]) rfl ⟨ret_sp HBad.out, below_set2 hB.bel (by omega) _ _⟩
      | true =>
        obtain ⟨rfl, k3⟩ := HA3.out rfl
        have K3 := Lib.hid k3
        clear k3
        cases F4 with
        | false =>
          have HBad := Lib.hid (HL.out.2 (fun g => HB4.out rfl g.2.2.2))
          have a0 := cell_two0 hB.b0
          have a1 := cell_two1 hB.b0
          have la := lt_of_block hB.b0
          go_wp2_with fail
          clear a0 a1 la
          refine (ref2_result_no _ _ _).mono ?_; rintro e w2 ⟨rfl, hbel⟩
          replace hB := hB.on hbel
          clear hbel
          have c0 := cell_two0 hB.b1
          have c1 := cell_two1 hB.b1
          have f0 := free_two (i := 0) hB.b1
          have f1 := free_two (i := 1) hB.b1
          have l2 := lt_of_block hB.b1
          go_wp2_with fail
          exact bodyPost_ret (v := .tuple #[.agg #[.int .i64 0, .int .i64 0], .int .i64 6]) (by simp [results, Tryz.results79, go_sem, c0, c1]) rfl ⟨ret_sp HBad.out, below_set2 hB.bel (by omega) _ _⟩
        | true =>
          obtain ⟨rfl, k4⟩ := HA4.out rfl
          have K4 := Lib.hid k4
          clear k4
          obtain ⟨hle, heq⟩ := HL.out.1 ⟨K1.out, K2.out, K3.out, K4.out⟩
          rw [HLo.out, HHi.out] at hle heq
          have HLE := Lib.hid hle
          have HEQ := Lib.hid heq
          clear hle heq HL HLo HHi HA1 HA2 HA3 HA4 HB1 HB2 HB3 HB4 K1 K2 K3 K4
          have a0 := cell_two0 hB.b0
          have a1 := cell_two1 hB.b0
          have la := lt_of_block hB.b0
          go_wp2_with fail
          clear a0 a1 la
          refine (ref2_result (min (rwr false s.1 n) (rwr false s.2 n)) (max (rwr true s.1 n) (rwr true s.2 n)) HLE.out _).mono ?_; rintro e w2 ⟨rfl, hbel⟩
          replace hB := hB.on hbel
          clear hbel
          have HF := Lib.hid HEQ.out
          clear HEQ HLE
          generalize sT (min (rwr false s.1 n) (rwr false s.2 n)) (max (rwr true s.1 n) (rwr true s.2 n)) = r at *
          have c0 := cell_two0 hB.b1
          have c1 := cell_two1 hB.b1
          have f0 := free_two (i := 0) hB.b1
          have f1 := free_two (i := 1) hB.b1
          have l2 := lt_of_block hB.b1
          go_wp2_with fail
          exact bodyPost_ret (v := .tuple #[.agg #[.int .i64 r.1.1, .int .i64 r.1.2], .int .i64 r.2]) (by simp [results, Tryz.results79, go_sem, c0, c1]) rfl ⟨by rw [HF.out], below_set2 hB.bel (by omega) _ _⟩

set_option maxRecDepth 100000 in
set_option maxHeartbeats 8000000 in
theorem ref2_Pow_neg (s : Int × Int) (n : Nat) (h : okS s) (h1 : 1 ≤ n) (hn : n ≤ 16) (he : n % 2 = 0) (hl : s.1 < 0) (hh : ¬ 0 < s.2) (w : World) :
    Calls Tryz.prog 79 #[.agg #[.int .i64 s.1, .int .i64 s.2], .int .i64 (n : Int)] w fun e w' => e = .returned (.tuple #[.agg #[.int .i64 (sPow s (n : Int)).1.1, .int .i64 (sPow s (n : Int)).1.2], .int .i64 (sPow s (n : Int)).2]) ∧ Below w.heap.size w w' := by
  have hB := Bx2.start w s (0, 0)
  have H := Lib.hid h
  have HL := Lib.hid (pow_laws h h1 hn)
  have HLo := Lib.hid (show pLo s n = (min (rwr false s.1 n) (rwr false s.2 n)) from if_neg (by omega))
  have HHi := Lib.hid (show pHi s n = max (rwr true s.1 n) (rwr true s.2 n) from rfl)
  have HC1 := Lib.hid (fun W => ref2_raised s.1 h.lo n h1 hn false W)
  have HC2 := Lib.hid (fun W => ref2_raised s.2 h.hi n h1 hn false W)
  have HC3 := Lib.hid (fun W => ref2_raised s.1 h.lo n h1 hn true W)
  have HC4 := Lib.hid (fun W => ref2_raised s.2 h.hi n h1 hn true W)
  have d1 : ((n : Int) % 2 == 0) = true := by simp; omega
  have d2 : decide (s.1 < 0) = true := decide_eq_true hl
  have d3 : decide (0 < s.2) = false := decide_eq_false hh
  clear h
  go_enter Tryz.func79, Tryz.ntmps79
  go_wp2_with fail
  refine (ref2_Right_ok H.out _).mono ?_; rintro e w2 ⟨rfl, hbel⟩
  replace hB := hB.on hbel
  clear hbel
  have a0 := cell_two0 hB.b0
  have a1 := cell_two1 hB.b0
  have la := lt_of_block hB.b0
  go_wp2_with fail
  clear a0 a1 la
  refine (HC1.out _).mono ?_; rintro e w2 ⟨⟨R1, F1, rfl, ha1, hb1, -, -⟩, hbel⟩
  replace hB := hB.on hbel
  clear hbel
  have HA1 := Lib.hid ha1
  have HB1 := Lib.hid hb1
  clear ha1 hb1
  have a0 := cell_two0 hB.b0
  have a1 := cell_two1 hB.b0
  have la := lt_of_block hB.b0
  go_wp2_with fail
  clear a0 a1 la
  refine (HC2.out _).mono ?_; rintro e w2 ⟨⟨R2, F2, rfl, ha2, hb2, -, -⟩, hbel⟩
  replace hB := hB.on hbel
  clear hbel
  have HA2 := Lib.hid ha2
  have HB2 := Lib.hid hb2
  clear ha2 hb2
  have a0 := cell_two0 hB.b0
  have a1 := cell_two1 hB.b0
  have la := lt_of_block hB.b0
  go_wp2_with fail
  clear a0 a1 la
  refine (HC3.out _).mono ?_; rintro e w2 ⟨⟨R3, F3, rfl, ha3, hb3, -, -⟩, hbel⟩
  replace hB := hB.on hbel
  clear hbel
  have HA3 := Lib.hid ha3
  have HB3 := Lib.hid hb3
  clear ha3 hb3
  have a0 := cell_two0 hB.b0
  have a1 := cell_two1 hB.b0
  have la := lt_of_block hB.b0
  go_wp2_with fail
  clear a0 a1 la
  refine (HC4.out _).mono ?_; rintro e w2 ⟨⟨R4, F4, rfl, ha4, hb4, -, -⟩, hbel⟩
  replace hB := hB.on hbel
  clear hbel
  have HA4 := Lib.hid ha4
  have HB4 := Lib.hid hb4
  clear ha4 hb4
  clear HC1 HC2 HC3 HC4
  cases F1 with
  | false =>
    have HBad := Lib.hid (HL.out.2 (fun g => HB1.out rfl g.1))
    have a0 := cell_two0 hB.b0
    have a1 := cell_two1 hB.b0
    have la := lt_of_block hB.b0
    go_wp2_with fail
    clear a0 a1 la
    refine (ref2_result_no _ _ _).mono ?_; rintro e w2 ⟨rfl, hbel⟩
    replace hB := hB.on hbel
    clear hbel
    have c0 := cell_two0 hB.b1
    have c1 := cell_two1 hB.b1
    have f0 := free_two (i := 0) hB.b1
    have f1 := free_two (i := 1) hB.b1
    have l2 := lt_of_block hB.b1
    go_wp2_with fail
    exact bodyPost_ret (v := .tuple #[.agg #[.int .i64 0, .int .i64 0], .int .i64 6]) (by simp [results, Tryz.results79, go_sem, c0, c1]) rfl ⟨ret_sp HBad.out, below_set2 hB.bel (by omega) _ _⟩
  | true =>
    obtain ⟨rfl, k1⟩ := HA1.out rfl
    have K1 := Lib.hid k1
    clear k1
    cases F2 with
    | false =>
      have HBad := Lib.hid (HL.out.2 (fun g => HB2.out rfl g.2.1))
      have a0 := cell_two0 hB.b0
      have a1 := cell_two1 hB.b0
      have la := lt_of_block hB.b0
      go_wp2_with fail
      clear a0 a1 la
      refine (ref2_result_no _ _ _).mono ?_; rintro e w2 ⟨rfl, hbel⟩
      replace hB := hB.on hbel
      clear hbel
      have c0 := cell_two0 hB.b1
      have c1 := cell_two1 hB.b1
      have f0 := free_two (i := 0) hB.b1
      have f1 := free_two (i := 1) hB.b1
      have l2 := lt_of_block hB.b1
      go_wp2_with fail
      exact bodyPost_ret (v := .tuple #[.agg #[.int .i64 0, .int .i64 0], .int .i64 6]) (by simp [results, Tryz.results79, go_sem, c0, c1]) rfl ⟨ret_sp HBad.out, below_set2 hB.bel (by omega) _ _⟩
    | true =>
      obtain ⟨rfl, k2⟩ := HA2.out rfl
      have K2 := Lib.hid k2
      clear k2
      cases F3 with
      | false =>
        have HBad := Lib.hid (HL.out.2 (fun g => HB3.out rfl g.2.2.1))
        have a0 := cell_two0 hB.b0
        have a1 := cell_two1 hB.b0
        have la := lt_of_block hB.b0
        go_wp2_with fail
        clear a0 a1 la
        refine (ref2_result_no _ _ _).mono ?_; rintro e w2 ⟨rfl, hbel⟩
        replace hB := hB.on hbel
        clear hbel
        have c0 := cell_two0 hB.b1
        have c1 := cell_two1 hB.b1
        have f0 := free_two (i := 0) hB.b1
        have f1 := free_two (i := 1) hB.b1
        have l2 := lt_of_block hB.b1
        go_wp2_with fail
        exact bodyPost_ret (v := .tuple #[.agg #[.int .i64 0, .int .i64 0], .int .i64 6]) (by simp [results, Tryz.results79, go_sem, c0, c1]) rfl ⟨ret_sp HBad.out, below_set2 hB.bel (by omega) _ _⟩
      | true =>
        obtain ⟨rfl, k3⟩ := HA3.out rfl
        have K3 := Lib.hid k3
        clear k3
        cases F4 with
        | false =>
          have HBad := Lib.hid (HL.out.2 (fun g => HB4.out rfl g.2.2.2))
          have a0 := cell_two0 hB.b0
          have a1 := cell_two1 hB.b0
          have la := lt_of_block hB.b0
          go_wp2_with fail
          clear a0 a1 la
          refine (ref2_result_no _ _ _).mono ?_; rintro e w2 ⟨rfl, hbel⟩
          replace hB := hB.on hbel
          clear hbel
          have c0 := cell_two0 hB.b1
          have c1 := cell_two1 hB.b1
          have f0 := free_two (i := 0) hB.b1
          have f1 := free_two (i := 1) hB.b1
          have l2 := lt_of_block hB.b1
          go_wp2_with fail
          exact bodyPost_ret (v := .tuple #[.agg #[.int .i64 0, .int .i64 0], .int .i64 6]) (by simp [results, Tryz.results79, go_sem, c0, c1]) rfl ⟨ret_sp HBad.out, below_set2 hB.bel (by omega) _ _⟩
        | true =>
          obtain ⟨rfl, k4⟩ := HA4.out rfl
          have K4 := Lib.hid k4
          clear k4
          obtain ⟨hle, heq⟩ := HL.out.1 ⟨K1.out, K2.out, K3.out, K4.out⟩
          rw [HLo.out, HHi.out] at hle heq
          have HLE := Lib.hid hle
          have HEQ := Lib.hid heq
          clear hle heq HL HLo HHi HA1 HA2 HA3 HA4 HB1 HB2 HB3 HB4 K1 K2 K3 K4
          have a0 := cell_two0 hB.b0
          have a1 := cell_two1 hB.b0
          have la := lt_of_block hB.b0
          go_wp2_with fail
          clear a0 a1 la
          refine (ref2_result (min (rwr false s.1 n) (rwr false s.2 n)) (max (rwr true s.1 n) (rwr true s.2 n)) HLE.out _).mono ?_; rintro e w2 ⟨rfl, hbel⟩
          replace hB := hB.on hbel
          clear hbel
          have HF := Lib.hid HEQ.out
          clear HEQ HLE
          generalize sT (min (rwr false s.1 n) (rwr false s.2 n)) (max (rwr true s.1 n) (rwr true s.2 n)) = r at *
          have c0 := cell_two0 hB.b1
          have c1 := cell_two1 hB.b1
          have f0 := free_two (i := 0) hB.b1
          have f1 := free_two (i := 1) hB.b1
          have l2 := lt_of_block hB.b1
          go_wp2_with fail
          exact bodyPost_ret (v := .tuple #[.agg #[.int .i64 r.1.1, .int .i64 r.1.2], .int .i64 r.2]) (by simp [results, Tryz.results79, go_sem, c0, c1]) rfl ⟨by rw [HF.out], below_set2 hB.bel (by omega) _ _⟩

set_option maxRecDepth 100000 in
set_option maxHeartbeats 8000000 in
theorem ref2_Pow_mid (s : Int × Int) (n : Nat) (h : okS s) (h1 : 1 ≤ n) (hn : n ≤ 16) (he : n % 2 = 0) (hl : s.1 < 0) (hh : 0 < s.2) (w : World) :
    Calls Tryz.prog 79 #[.agg #[.int .i64 s.1, .int .i64 s.2], .int .i64 (n : Int)] w fun e w' => e = .returned (.tuple #[.agg #[.int .i64 (sPow s (n : Int)).1.1, .int .i64 (sPow s (n : Int)).1.2], .int .i64 (sPow s (n : Int)).2]) ∧ Below w.heap.size w w' := by
  have hB := Bx2.start w s (0, 0)
  have H := Lib.hid h
  have HL := Lib.hid (pow_laws h h1 hn)
  have HLo := Lib.hid (show pLo s n = 0 from if_pos ⟨he, hl, hh⟩)
  have HHi := Lib.hid (show pHi s n = max (rwr true s.1 n) (rwr true s.2 n) from rfl)
  have HC1 := Lib.hid (fun W => ref2_raised s.1 h.lo n h1 hn false W)
  have HC2 := Lib.hid (fun W => ref2_raised s.2 h.hi n h1 hn false W)
  have HC3 := Lib.hid (fun W => ref2_raised s.1 h.lo n h1 hn true W)
  have HC4 := Lib.hid (fun W => ref2_raised s.2 h.hi n h1 hn true W)
  have d1 : ((n : Int) % 2 == 0) = true := by simp; omega
  have d2 : decide (s.1 < 0) = true := decide_eq_true hl
  have d3 : decide (0 < s.2) = true := decide_eq_true hh
  clear h
  go_enter Tryz.func79, Tryz.ntmps79
  go_wp2_with fail
  refine (ref2_Right_ok H.out _).mono ?_; rintro e w2 ⟨rfl, hbel⟩
  replace hB := hB.on hbel
  clear hbel
  have a0 := cell_two0 hB.b0
  have a1 := cell_two1 hB.b0
  have la := lt_of_block hB.b0
  go_wp2_with fail
  clear a0 a1 la
  refine (HC1.out _).mono ?_; rintro e w2 ⟨⟨R1, F1, rfl, ha1, hb1, -, -⟩, hbel⟩
  replace hB := hB.on hbel
  clear hbel
  have HA1 := Lib.hid ha1
  have HB1 := Lib.hid hb1
  clear ha1 hb1
  have a0 := cell_two0 hB.b0
  have a1 := cell_two1 hB.b0
  have la := lt_of_block hB.b0
  go_wp2_with fail
  clear a0 a1 la
  refine (HC2.out _).mono ?_; rintro e w2 ⟨⟨R2, F2, rfl, ha2, hb2, -, -⟩, hbel⟩
  replace hB := hB.on hbel
  clear hbel
  have HA2 := Lib.hid ha2
  have HB2 := Lib.hid hb2
  clear ha2 hb2
  have a0 := cell_two0 hB.b0
  have a1 := cell_two1 hB.b0
  have la := lt_of_block hB.b0
  go_wp2_with fail
  clear a0 a1 la
  refine (HC3.out _).mono ?_; rintro e w2 ⟨⟨R3, F3, rfl, ha3, hb3, -, -⟩, hbel⟩
  replace hB := hB.on hbel
  clear hbel
  have HA3 := Lib.hid ha3
  have HB3 := Lib.hid hb3
  clear ha3 hb3
  have a0 := cell_two0 hB.b0
  have a1 := cell_two1 hB.b0
  have la := lt_of_block hB.b0
  go_wp2_with fail
  clear a0 a1 la
  refine (HC4.out _).mono ?_; rintro e w2 ⟨⟨R4, F4, rfl, ha4, hb4, -, -⟩, hbel⟩
  replace hB := hB.on hbel
  clear hbel
  have HA4 := Lib.hid ha4
  have HB4 := Lib.hid hb4
  clear ha4 hb4
  clear HC1 HC2 HC3 HC4
  cases F1 with
  | false =>
    have HBad := Lib.hid (HL.out.2 (fun g => HB1.out rfl g.1))
    have a0 := cell_two0 hB.b0
    have a1 := cell_two1 hB.b0
    have la := lt_of_block hB.b0
    go_wp2_with fail
    clear a0 a1 la
    refine (ref2_result_no _ _ _).mono ?_; rintro e w2 ⟨rfl, hbel⟩
    replace hB := hB.on hbel
    clear hbel
    have c0 := cell_two0 hB.b1
    have c1 := cell_two1 hB.b1
    have f0 := free_two (i := 0) hB.b1
    have f1 := free_two (i := 1) hB.b1
    have l2 := lt_of_block hB.b1
    go_wp2_with fail
    exact bodyPost_ret (v := .tuple #[.agg #[.int .i64 0, .int .i64 0], .int .i64 6]) (by simp [results, Tryz.results79, go_sem, c0, c1]) rfl ⟨ret_sp HBad.out, below_set2 hB.bel (by omega) _ _⟩
  | true =>
    obtain ⟨rfl, k1⟩ := HA1.out rfl
    have K1 := Lib.hid k1
    clear k1
    cases F2 with
    | false =>
      have HBad := Lib.hid (HL.out.2 (fun g => HB2.out rfl g.2.1))
      have a0 := cell_two0 hB.b0
      have a1 := cell_two1 hB.b0
      have la := lt_of_block hB.b0
      go_wp2_with fail
      clear a0 a1 la
      refine (ref2_result_no _ _ _).mono ?_; rintro e w2 ⟨rfl, hbel⟩
      replace hB := hB.on hbel
      clear hbel
      have c0 := cell_two0 hB.b1
      have c1 := cell_two1 hB.b1
      have f0 := free_two (i := 0) hB.b1
      have f1 := free_two (i := 1) hB.b1
      have l2 := lt_of_block hB.b1
      go_wp2_with fail
      exact bodyPost_ret (v := .tuple #[.agg #[.int .i64 0, .int .i64 0], .int .i64 6]) (by simp [results, Tryz.results79, go_sem, c0, c1]) rfl ⟨ret_sp HBad.out, below_set2 hB.bel (by omega) _ _⟩
    | true =>
      obtain ⟨rfl, k2⟩ := HA2.out rfl
      have K2 := Lib.hid k2
      clear k2
      cases F3 with
      | false =>
        have HBad := Lib.hid (HL.out.2 (fun g => HB3.out rfl g.2.2.1))
        have a0 := cell_two0 hB.b0
        have a1 := cell_two1 hB.b0
        have la := lt_of_block hB.b0
        go_wp2_with fail
        clear a0 a1 la
        refine (ref2_result_no _ _ _).mono ?_; rintro e w2 ⟨rfl, hbel⟩
        replace hB := hB.on hbel
        clear hbel
        have c0 := cell_two0 hB.b1
        have c1 := cell_two1 hB.b1
        have f0 := free_two (i := 0) hB.b1
        have f1 := free_two (i := 1) hB.b1
        have l2 := lt_of_block hB.b1
        go_wp2_with fail
        exact bodyPost_ret (v := .tuple #[.agg #[.int .i64 0, .int .i64 0], .int .i64 6]) (by simp [results, Tryz.results79, go_sem, c0, c1]) rfl ⟨ret_sp HBad.out, below_set2 hB.bel (by omega) _ _⟩
      | true =>
        obtain ⟨rfl, k3⟩ := HA3.out rfl
        have K3 := Lib.hid k3
        clear k3
        cases F4 with
        | false =>
          have HBad := Lib.hid (HL.out.2 (fun g => HB4.out rfl g.2.2.2))
          have a0 := cell_two0 hB.b0
          have a1 := cell_two1 hB.b0
          have la := lt_of_block hB.b0
          go_wp2_with fail
          clear a0 a1 la
          refine (ref2_result_no _ _ _).mono ?_; rintro e w2 ⟨rfl, hbel⟩
          replace hB := hB.on hbel
          clear hbel
          have c0 := cell_two0 hB.b1
          have c1 := cell_two1 hB.b1
          have f0 := free_two (i := 0) hB.b1
          have f1 := free_two (i := 1) hB.b1
          have l2 := lt_of_block hB.b1
          go_wp2_with fail
          exact bodyPost_ret (v := .tuple #[.agg #[.int .i64 0, .int .i64 0], .int .i64 6]) (by simp [results, Tryz.results79, go_sem, c0, c1]) rfl ⟨ret_sp HBad.out, below_set2 hB.bel (by omega) _ _⟩
        | true =>
          obtain ⟨rfl, k4⟩ := HA4.out rfl
          have K4 := Lib.hid k4
          clear k4
          obtain ⟨hle, heq⟩ := HL.out.1 ⟨K1.out, K2.out, K3.out, K4.out⟩
          rw [HLo.out, HHi.out] at hle heq
          have HLE := Lib.hid hle
          have HEQ := Lib.hid heq
          clear hle heq HL HLo HHi HA1 HA2 HA3 HA4 HB1 HB2 HB3 HB4 K1 K2 K3 K4
          have a0 := cell_two0 hB.b0
          have a1 := cell_two1 hB.b0
          have la := lt_of_block hB.b0
          go_wp2_with fail
          clear a0 a1 la
          refine (ref2_result 0 (max (rwr true s.1 n) (rwr true s.2 n)) HLE.out _).mono ?_; rintro e w2 ⟨rfl, hbel⟩
          replace hB := hB.on hbel
          clear hbel
          have HF := Lib.hid HEQ.out
          clear HEQ HLE
          generalize sT 0 (max (rwr true s.1 n) (rwr true s.2 n)) = r at *
          have c0 := cell_two0 hB.b1
          have c1 := cell_two1 hB.b1
          have f0 := free_two (i := 0) hB.b1
          have f1 := free_two (i := 1) hB.b1
          have l2 := lt_of_block hB.b1
          go_wp2_with fail
          exact bodyPost_ret (v := .tuple #[.agg #[.int .i64 r.1.1, .int .i64 r.1.2], .int .i64 r.2]) (by simp [results, Tryz.results79, go_sem, c0, c1]) rfl ⟨by rw [HF.out], below_set2 hB.bel (by omega) _ _⟩

theorem ref2_Pow (s : Int × Int) (n : Int) (w : World) :
    Calls Tryz.prog 79 #[.agg #[.int .i64 s.1, .int .i64 s.2], .int .i64 n] w fun e w' => e = .returned (.tuple #[.agg #[.int .i64 (sPow s n).1.1, .int .i64 (sPow s n).1.2], .int .i64 (sPow s n).2]) ∧ Below w.heap.size w w' := by
  by_cases h : okS s
  · by_cases h1 : n < 0
    · exact ref2_Pow_low s n h h1 w
    · by_cases h2 : 16 < n
      · exact ref2_Pow_high s n h h2 w
      · by_cases h3 : n = 0
        · subst h3
          exact ref2_Pow_zero s h w
        · obtain ⟨k, rfl⟩ := Int.eq_ofNat_of_zero_le (show 0 ≤ n by omega)
          by_cases e : k % 2 = 0
          · by_cases hl : s.1 < 0
            · by_cases hh : 0 < s.2
              · exact ref2_Pow_mid s k h (by omega) (by omega) e hl hh w
              · exact ref2_Pow_neg s k h (by omega) (by omega) e hl hh w
            · exact ref2_Pow_pos s k h (by omega) (by omega) e hl w
          · exact ref2_Pow_odd s k h (by omega) (by omega) (by omega) w
  · exact ref2_Pow_bad s n h w

set_option maxRecDepth 100000 in
set_option maxHeartbeats 1000000 in
theorem ref2_Sqr (s : Int × Int) (w : World) :
    Calls Tryz.prog 56 #[.agg #[.int .i64 s.1, .int .i64 s.2]] w fun e w' => e = .returned (.tuple #[.agg #[.int .i64 (sPow s 2).1.1, .int .i64 (sPow s 2).1.2], .int .i64 (sPow s 2).2]) ∧ Below w.heap.size w w' := by
  have hB := Bx2.start w s (0, 0)
  go_enter Tryz.func56, Tryz.ntmps56
  go_wp2_with fail
  refine (ref2_Pow s 2 _).mono ?_; rintro e w2 ⟨rfl, hbel⟩
  replace hB := hB.on hbel
  clear hbel
  have c0 := cell_two0 hB.b1
  have c1 := cell_two1 hB.b1
  have f0 := free_two (i := 0) hB.b1
  have f1 := free_two (i := 1) hB.b1
  have l2 := lt_of_block hB.b1
  obtain ⟨r, hr⟩ : ∃ r, r = sPow s 2 := ⟨_, rfl⟩
  have HR := Lib.hid hr
  rw [← hr]
  clear hr
  go_wp2_with fail
  exact bodyPost_ret (v := .tuple #[.agg #[.int .i64 r.1.1, .int .i64 r.1.2], .int .i64 r.2]) (by simp [results, Tryz.results56, go_sem, c0, c1]) rfl ⟨by rw [HR.out], below_set2 hB.bel (by omega) _ _⟩
end Go.Proofs.YtmnccbhlllnlbaaGreat
