/- Contracts of package span: Pow, Sqr. Printed by wip/genSP.py. -/
import Derived.Test.YtmnccbhlllnlbaaGreatPowD
namespace Mnc
open Go
theorem pwr_err (v : Int) (n : Nat) : (pwr v n).2.2 = 0 ∧ v.natAbs ^ n / pDen n ≤ 4503599627370496 ∨ ((pwr v n).2.2 == 0) = false ∧ ¬ v.natAbs ^ n / pDen n ≤ 4503599627370496 := by
  by_cases h : v.natAbs ^ n / pDen n ≤ 4503599627370496
  · exact .inl ⟨by rw [pwr_ok h], h⟩
  · exact .inr ⟨by rw [pwr_bad h]; rfl, h⟩
theorem sPow_arg {s : Int × Int} {n : Int} (h : okS s) (hn : n < 0 ∨ 16 < n) : sPow s n = ((0, 0), 2) := by rw [sPow, if_pos h, if_pos hn]
theorem sPow_zero {s : Int × Int} (h : okS s) : sPow s 0 = ((4294967296, 4294967296), 0) := by rw [sPow, if_pos h, if_neg (by omega), if_pos rfl]
theorem sPow_even {s : Int × Int} {n : Nat} (h : okS s) (h1 : 1 ≤ n) (hn : n ≤ 16) (he : n % 2 = 0) : sPow s (n : Int) = pw (sAbs s).1 n := by rw [sPow, if_pos h, if_neg (by omega), if_neg (by omega), if_pos (by omega)]; rfl
theorem sPow_odd {s : Int × Int} {n : Nat} (h : okS s) (h1 : 1 ≤ n) (hn : n ≤ 16) (he : n % 2 = 1) : sPow s (n : Int) = pw s n := by rw [sPow, if_pos h, if_neg (by omega), if_neg (by omega), if_neg (by omega)]; rfl
theorem sPow_bad {s : Int × Int} {n : Int} (h : ¬ okS s) : sPow s n = ((0, 0), 20) := by rw [sPow, if_neg h]
theorem sAbs_ok {s : Int × Int} (h : okS s) : okS (sAbs s).1 ∧ 0 ≤ (sAbs s).1.1 := by
  have e : sAbs s = _ := on1_ok h
  obtain ⟨h1, h2, h3⟩ := h
  rw [e]
  simp only
  exact ⟨⟨by omega, by omega, by omega⟩, by omega⟩
end Mnc
namespace Go.Proofs.YtmnccbhlllnlbaaGreat
open Go.RowKit Mnc

set_option maxRecDepth 100000 in
set_option maxHeartbeats 2000000 in
theorem span_Pow_bad (s : Int × Int) (n : Int) (hs : ¬ okS s) (w : World) :
    Calls Tryz.prog 90 #[.agg #[.int .i64 s.1, .int .i64 s.2], .int .i64 n] w fun e w' => e = .returned (.tuple #[.agg #[.int .i64 (sPow s n).1.1, .int .i64 (sPow s n).1.2], .int .i64 (sPow s n).2]) ∧ Below w.heap.size w w' := by
  have hB := Bx2.start w s (0, 0)
  have H := Lib.hid hs
  have HR := Lib.hid (sPow_bad (n := n) hs)
  clear hs
  go_enter Tryz.func90, Tryz.ntmps90
  go_wp2_with fail
  refine (span_Check_bad H.out _).mono ?_; rintro e w2 ⟨rfl, hbel⟩
  have hB := hB.on hbel
  clear hbel
  have c0 := cell_two0 hB.b1
  have c1 := cell_two1 hB.b1
  have f0 := free_two (i := 0) hB.b1
  have f1 := free_two (i := 1) hB.b1
  have l2 := lt_of_block hB.b1
  go_wp2_with fail
  exact bodyPost_ret (v := .tuple #[.agg #[.int .i64 0, .int .i64 0], .int .i64 20]) (by simp [results, Tryz.results90, go_sem, c0, c1]) rfl ⟨ret_sp HR.out, below_set2 hB.bel (by omega) _ _⟩

set_option maxRecDepth 100000 in
set_option maxHeartbeats 2000000 in
theorem span_Pow_low (s : Int × Int) (n : Int) (hs : okS s) (hn : n < 0) (w : World) :
    Calls Tryz.prog 90 #[.agg #[.int .i64 s.1, .int .i64 s.2], .int .i64 n] w fun e w' => e = .returned (.tuple #[.agg #[.int .i64 (sPow s n).1.1, .int .i64 (sPow s n).1.2], .int .i64 (sPow s n).2]) ∧ Below w.heap.size w w' := by
  have hB := Bx2.start w s (0, 0)
  have H := Lib.hid hs
  have HR := Lib.hid (sPow_arg (n := n) hs (.inl hn))
  clear hs
  go_enter Tryz.func90, Tryz.ntmps90
  go_wp2_with fail
  refine (span_Check_ok H.out _).mono ?_; rintro e w2 ⟨rfl, hbel⟩
  have hB := hB.on hbel
  clear hbel
  have c0 := cell_two0 hB.b1
  have c1 := cell_two1 hB.b1
  have f0 := free_two (i := 0) hB.b1
  have f1 := free_two (i := 1) hB.b1
  have l2 := lt_of_block hB.b1
  go_wp2_with fail
  exact bodyPost_ret (v := .tuple #[.agg #[.int .i64 0, .int .i64 0], .int .i64 2]) (by simp [results, Tryz.results90, go_sem, c0, c1]) rfl ⟨ret_sp HR.out, below_set2 hB.bel (by omega) _ _⟩

set_option maxRecDepth 100000 in
set_option maxHeartbeats 2000000 in
theorem span_Pow_high (s : Int × Int) (n : Int) (hs : okS s) (hn : 16 < n) (w : World) :
    Calls Tryz.prog 90 #[.agg #[.int .i64 s.1, .int .i64 s.2], .int .i64 n] w fun e w' => e = .returned (.tuple #[.agg #[.int .i64 (sPow s n).1.1, .int .i64 (sPow s n).1.2], .int .i64 (sPow s n).2]) ∧ Below w.heap.size w w' := by
  have hB := Bx2.start w s (0, 0)
  have H := Lib.hid hs
  have HR := Lib.hid (sPow_arg (n := n) hs (.inr hn))
  have d1 : decide (n < 0) = false := by simp; omega
  clear hs
  go_enter Tryz.func90, Tryz.ntmps90
  go_wp2_with fail
  refine (span_Check_ok H.out _).mono ?_; rintro e w2 ⟨rfl, hbel⟩
  have hB := hB.on hbel
  clear hbel
  have c0 := cell_two0 hB.b1
  have c1 := cell_two1 hB.b1
  have f0 := free_two (i := 0) hB.b1
  have f1 := free_two (i := 1) hB.b1
  have l2 := lt_of_block hB.b1
  go_wp2_with fail
  exact bodyPost_ret (v := .tuple #[.agg #[.int .i64 0, .int .i64 0], .int .i64 2]) (by simp [results, Tryz.results90, go_sem, c0, c1]) rfl ⟨ret_sp HR.out, below_set2 hB.bel (by omega) _ _⟩

set_option maxRecDepth 100000 in
set_option maxHeartbeats 2000000 in
theorem span_Pow_zero (s : Int × Int) (hs : okS s) (w : World) :
    Calls Tryz.prog 90 #[.agg #[.int .i64 s.1, .int .i64 s.2], .int .i64 0] w fun e w' => e = .returned (.tuple #[.agg #[.int .i64 (sPow s 0).1.1, .int .i64 (sPow s 0).1.2], .int .i64 (sPow s 0).2]) ∧ Below w.heap.size w w' := by
  have hB := Bx2.start w s (0, 0)
  have H := Lib.hid hs
  have HR := Lib.hid (sPow_zero hs)
  clear hs
  go_enter Tryz.func90, Tryz.ntmps90
  go_wp2_with fail
  refine (span_Check_ok H.out _).mono ?_; rintro e w2 ⟨rfl, hbel⟩
  have hB := hB.on hbel
  clear hbel
  go_wp2_with fail
  refine (span_Point _ _).mono ?_; rintro e w3 ⟨rfl, hbel⟩
  rw [sOf_ok (show okS (4294967296, 4294967296) from ⟨by decide, by decide, by decide⟩)]
  have hB := hB.on hbel
  clear hbel
  have c0 := cell_two0 hB.b1
  have c1 := cell_two1 hB.b1
  have f0 := free_two (i := 0) hB.b1
  have f1 := free_two (i := 1) hB.b1
  have l2 := lt_of_block hB.b1
  go_wp2_with fail
  exact bodyPost_ret (v := .tuple #[.agg #[.int .i64 4294967296, .int .i64 4294967296], .int .i64 0]) (by simp [results, Tryz.results90, go_sem, c0, c1]) rfl ⟨ret_sp HR.out, below_set2 hB.bel (by omega) _ _⟩

set_option maxRecDepth 100000 in
set_option maxHeartbeats 2000000 in
theorem span_Pow_odd (s : Int × Int) (n : Nat) (hs : okS s) (h1 : 1 ≤ n) (hn : n ≤ 16) (ho : n % 2 = 1) (w : World) :
    Calls Tryz.prog 90 #[.agg #[.int .i64 s.1, .int .i64 s.2], .int .i64 (n : Int)] w fun e w' => e = .returned (.tuple #[.agg #[.int .i64 (sPow s (n : Int)).1.1, .int .i64 (sPow s (n : Int)).1.2], .int .i64 (sPow s (n : Int)).2]) ∧ Below w.heap.size w w' := by
  have hB := Bx2.start w s (0, 0)
  have H := Lib.hid hs
  have HR := Lib.hid (sPow_odd hs h1 hn ho)
  have HP1 := Lib.hid (fun W => span_power s.1 n hs.lo h1 hn W)
  have HP2 := Lib.hid (fun W => span_power s.2 n hs.hi h1 hn W)
  have HX := Lib.hid (fun hb => pw_bad (a := s) (n := n) hs.2.1 (.inl ho) hb)
  have HO := Lib.hid (fun k1 k2 => pw_ok (a := s) (n := n) k1 k2)
  have hE1 := pwr_err s.1 n
  have hE2 := pwr_err s.2 n
  generalize pwr s.1 n = p1 at *
  generalize pwr s.2 n = p2 at *
  have d3 : ((n : Int) % 2 == 0) = false := by simp; omega
  have d4 : ((n : Int) == 0) = false := by simp; omega
  clear hs
  go_enter Tryz.func90, Tryz.ntmps90
  go_wp2_with fail
  refine (span_Check_ok H.out _).mono ?_; rintro e w2 ⟨rfl, hbel⟩
  have hB := hB.on hbel
  clear hbel
  have a0 := cell_two0 hB.b0
  have a1 := cell_two1 hB.b0
  go_wp2_with fail
  refine (HP1.out _).mono ?_; rintro e w4 ⟨rfl, hbel⟩
  have hB := hB.on hbel
  clear hbel a0 a1
  have a0 := cell_two0 hB.b0
  have a1 := cell_two1 hB.b0
  go_wp2_with fail
  refine (HP2.out _).mono ?_; rintro e w5 ⟨rfl, hbel⟩
  have hB := hB.on hbel
  clear hbel a0 a1
  rcases hE1 with ⟨z1, k1⟩ | ⟨z1, k1⟩
  · rcases hE2 with ⟨z2, k2⟩ | ⟨z2, k2⟩
    · have HR2 := Lib.hid (HR.out.trans (HO.out k1 k2))
      clear k1 k2
      go_wp2_with fail
      refine (span_told _ _ _).mono ?_; rintro e w6 ⟨rfl, hbel⟩
      rw [← HR2.out]
      have hB := hB.on hbel
      clear hbel
      have c0 := cell_two0 hB.b1
      have c1 := cell_two1 hB.b1
      have f0 := free_two (i := 0) hB.b1
      have f1 := free_two (i := 1) hB.b1
      have l2 := lt_of_block hB.b1
      go_wp2_with fail
      exact bodyPost_ret (v := .tuple #[.agg #[.int .i64 (sPow s (n : Int)).1.1, .int .i64 (sPow s (n : Int)).1.2], .int .i64 (sPow s (n : Int)).2]) (by simp [results, Tryz.results90, go_sem, c0, c1]) rfl ⟨rfl, below_set2 hB.bel (by omega) _ _⟩
    · have c0 := cell_two0 hB.b1
      have c1 := cell_two1 hB.b1
      have f0 := free_two (i := 0) hB.b1
      have f1 := free_two (i := 1) hB.b1
      have l2 := lt_of_block hB.b1
      go_wp2_with fail
      exact bodyPost_ret (v := .tuple #[.agg #[.int .i64 0, .int .i64 0], .int .i64 6]) (by simp [results, Tryz.results90, go_sem, c0, c1]) rfl ⟨ret_sp (HR.out.trans (HX.out (fun hh => k2 hh.2))), below_set2 hB.bel (by omega) _ _⟩
  · have c0 := cell_two0 hB.b1
    have c1 := cell_two1 hB.b1
    have f0 := free_two (i := 0) hB.b1
    have f1 := free_two (i := 1) hB.b1
    have l2 := lt_of_block hB.b1
    go_wp2_with fail
    exact bodyPost_ret (v := .tuple #[.agg #[.int .i64 0, .int .i64 0], .int .i64 6]) (by simp [results, Tryz.results90, go_sem, c0, c1]) rfl ⟨ret_sp (HR.out.trans (HX.out (fun hh => k1 hh.1))), below_set2 hB.bel (by omega) _ _⟩

set_option maxRecDepth 100000 in
set_option maxHeartbeats 2000000 in
theorem span_Pow_even (s : Int × Int) (n : Nat) (hs : okS s) (h1 : 1 ≤ n) (hn : n ≤ 16) (ho : n % 2 = 0) (w : World) :
    Calls Tryz.prog 90 #[.agg #[.int .i64 s.1, .int .i64 s.2], .int .i64 (n : Int)] w fun e w' => e = .returned (.tuple #[.agg #[.int .i64 (sPow s (n : Int)).1.1, .int .i64 (sPow s (n : Int)).1.2], .int .i64 (sPow s (n : Int)).2]) ∧ Below w.heap.size w w' := by
  have hB := Bx2.start w s (0, 0)
  have H := Lib.hid hs
  have HR := Lib.hid (sPow_even hs h1 hn ho)
  have hA := sAbs_ok hs
  have HAb := Lib.hid (fun W => span_Abs s W)
  generalize sAbs s = ab at *
  obtain ⟨A, hAA⟩ : ∃ A, A = ab.1 := ⟨_, rfl⟩
  rw [← hAA] at HR hA HAb
  have HP1 := Lib.hid (fun W => span_power A.1 n hA.1.lo h1 hn W)
  have HP2 := Lib.hid (fun W => span_power A.2 n hA.1.hi h1 hn W)
  have HX := Lib.hid (fun hb => pw_bad (a := A) (n := n) hA.1.2.1 (.inr hA.2) hb)
  have HO := Lib.hid (fun k1 k2 => pw_ok (a := A) (n := n) k1 k2)
  have hE1 := pwr_err A.1 n
  have hE2 := pwr_err A.2 n
  generalize pwr A.1 n = p1 at *
  generalize pwr A.2 n = p2 at *
  have d3 : ((n : Int) % 2 == 0) = true := by simp; omega
  have d4 : ((n : Int) == 0) = false := by simp; omega
  clear hs hA hAA
  go_enter Tryz.func90, Tryz.ntmps90
  go_wp2_with fail
  refine (span_Check_ok H.out _).mono ?_; rintro e w2 ⟨rfl, hbel⟩
  have hB := hB.on hbel
  clear hbel
  have a0 := cell_two0 hB.b0
  have a1 := cell_two1 hB.b0
  have g0 := free_two (i := 0) hB.b0
  have g1 := free_two (i := 1) hB.b0
  have l0 := lt_of_block hB.b0
  go_wp2_with fail
  refine (HAb.out _).mono ?_; rintro e w3 ⟨rfl, hbel⟩
  have hB := hB.on hbel
  clear hbel a0 a1 g0 g1 l0
  have a0 := cell_two0 hB.b0
  have a1 := cell_two1 hB.b0
  have g0 := free_two (i := 0) hB.b0
  have g1 := free_two (i := 1) hB.b0
  have l0 := lt_of_block hB.b0
  have hB2 := hB.set A.1 A.2
  have HB2 := Lib.hid hB2
  clear hB hB2
  go_upto_region 10 with (fail)
  have hB := HB2.out
  generalize (w3.setCell ⟨w.heap.size, 0, none⟩ (.int .i64 A.1)).setCell ⟨w.heap.size, 1, none⟩ (.int .i64 A.2) = W3 at *
  clear HB2 a0 a1 g0 g1 l0
  have a0 := cell_two0 hB.b0
  have a1 := cell_two1 hB.b0
  go_wp2_with fail
  refine (HP1.out _).mono ?_; rintro e w4 ⟨rfl, hbel⟩
  have hB := hB.on hbel
  clear hbel a0 a1
  have a0 := cell_two0 hB.b0
  have a1 := cell_two1 hB.b0
  go_wp2_with fail
  refine (HP2.out _).mono ?_; rintro e w5 ⟨rfl, hbel⟩
  have hB := hB.on hbel
  clear hbel a0 a1
  rcases hE1 with ⟨z1, k1⟩ | ⟨z1, k1⟩
  · rcases hE2 with ⟨z2, k2⟩ | ⟨z2, k2⟩
    · have HR2 := Lib.hid (HR.out.trans (HO.out k1 k2))
      clear k1 k2
      go_wp2_with fail
      refine (span_told _ _ _).mono ?_; rintro e w6 ⟨rfl, hbel⟩
      rw [← HR2.out]
      have hB := hB.on hbel
      clear hbel
      have c0 := cell_two0 hB.b1
      have c1 := cell_two1 hB.b1
      have f0 := free_two (i := 0) hB.b1
      have f1 := free_two (i := 1) hB.b1
      have l2 := lt_of_block hB.b1
      go_wp2_with fail
      exact bodyPost_ret (v := .tuple #[.agg #[.int .i64 (sPow s (n : Int)).1.1, .int .i64 (sPow s (n : Int)).1.2], .int .i64 (sPow s (n : Int)).2]) (by simp [results, Tryz.results90, go_sem, c0, c1]) rfl ⟨rfl, below_set2 hB.bel (by omega) _ _⟩
    · have c0 := cell_two0 hB.b1
      have c1 := cell_two1 hB.b1
      have f0 := free_two (i := 0) hB.b1
      have f1 := free_two (i := 1) hB.b1
      have l2 := lt_of_block hB.b1
      go_wp2_with fail
      exact bodyPost_ret (v := .tuple #[.agg #[.int .i64 0, .int .i64 0], .int .i64 6]) (by simp [results, Tryz.results90, go_sem, c0, c1]) rfl ⟨ret_sp (HR.out.trans (HX.out (fun hh => k2 hh.2))), below_set2 hB.bel (by omega) _ _⟩
  · have c0 := cell_two0 hB.b1
    have c1 := cell_two1 hB.b1
    have f0 := free_two (i := 0) hB.b1
    have f1 := free_two (i := 1) hB.b1
    have l2 := lt_of_block hB.b1
    go_wp2_with fail
    exact bodyPost_ret (v := .tuple #[.agg #[.int .i64 0, .int .i64 0], .int .i64 6]) (by simp [results, Tryz.results90, go_sem, c0, c1]) rfl ⟨ret_sp (HR.out.trans (HX.out (fun hh => k1 hh.1))), below_set2 hB.bel (by omega) _ _⟩

theorem span_Pow (s : Int × Int) (n : Int) (w : World) :
    Calls Tryz.prog 90 #[.agg #[.int .i64 s.1, .int .i64 s.2], .int .i64 n] w fun e w' => e = .returned (.tuple #[.agg #[.int .i64 (sPow s n).1.1, .int .i64 (sPow s n).1.2], .int .i64 (sPow s n).2]) ∧ Below w.heap.size w w' := by
  by_cases hs : okS s
  · rcases Int.lt_or_le n 0 with h0 | h0
    · exact span_Pow_low s n hs h0 w
    · rcases Int.lt_or_le 16 n with h16 | h16
      · exact span_Pow_high s n hs h16 w
      · obtain ⟨k, rfl⟩ := Int.eq_ofNat_of_zero_le h0
        rcases Nat.eq_zero_or_pos k with rfl | hk
        · exact span_Pow_zero s hs w
        · rcases Nat.mod_two_eq_zero_or_one k with hm | hm
          · exact span_Pow_even s k hs hk (by omega) hm w
          · exact span_Pow_odd s k hs hk (by omega) hm w
  · exact span_Pow_bad s n hs w
set_option maxHeartbeats 1000000 in
theorem span_Sqr (s : Int × Int) (w : World) :
    Calls Tryz.prog 77 #[.agg #[.int .i64 s.1, .int .i64 s.2]] w fun e w' => e = .returned (.tuple #[.agg #[.int .i64 (sPow s 2).1.1, .int .i64 (sPow s 2).1.2], .int .i64 (sPow s 2).2]) ∧ Below w.heap.size w w' := by
  have hB := Bx2.start w s (0, 0)
  go_enter Tryz.func77, Tryz.ntmps77
  go_wp2_with fail
  refine (span_Pow s 2 _).mono ?_; rintro e w2 ⟨rfl, hbel⟩
  have hB := hB.on hbel
  clear hbel
  have c0 := cell_two0 hB.b1
  have c1 := cell_two1 hB.b1
  have f0 := free_two (i := 0) hB.b1
  have f1 := free_two (i := 1) hB.b1
  have l2 := lt_of_block hB.b1
  go_wp2_with fail
  exact bodyPost_ret (v := .tuple #[.agg #[.int .i64 (sPow s 2).1.1, .int .i64 (sPow s 2).1.2], .int .i64 (sPow s 2).2]) (by simp [results, Tryz.results77, go_sem, c0, c1]) rfl ⟨rfl, below_set2 hB.bel (by omega) _ _⟩
end Go.Proofs.YtmnccbhlllnlbaaGreat
