/- Contracts of the reference of layer 2: Mul, for any intervals; Scale, by small fractions. Printed by wip/genRC.py. -/
import Derived.Test.YtgfofilkpaelnaaRefSC
namespace Go.Proofs.Ytgfofilkpaelnaa
open Go.RowKit Mnc

set_option maxHeartbeats 1000000 in
theorem ref2_Mul (s t : Int × Int) (w : World) :
    Calls Try.prog 87 #[.agg #[.int .i64 s.1, .int .i64 s.2], .agg #[.int .i64 t.1, .int .i64 t.2]] w fun e w' => e = .returned (.tuple #[.agg #[.int .i64 (sMul s t).1.1, .int .i64 (sMul s t).1.2], .int .i64 (sMul s t).2]) ∧ Below w.heap.size w w' := by
  by_cases hs : okS s
  · by_cases ht : okS t
    · exact ref2_Mul_ok s t w hs ht
    · have hB := Bx3.start w s t
      have HS := Lib.hid hs
      have HT := Lib.hid ht
      have HR := Lib.hid (show sMul s t = ((0, 0), 20) from on2_bad (fun g => ht g.2))
      clear hs ht
      go_enter Try.func87, Try.ntmps87
      go_wp2_with fail
      refine (ref2_Right_ok HS.out _).mono ?_; rintro e w2 ⟨rfl, hbel⟩
      have hB := hB.on hbel
      clear hbel
      have a0 := cell_two0 hB.b0
      have a1 := cell_two1 hB.b0
      have b0 := cell_two0 hB.b1
      have b1 := cell_two1 hB.b1
      go_wp2_with fail
      refine (ref2_Right_bad HT.out _).mono ?_; rintro e w3 ⟨rfl, hbel⟩
      have hB := hB.on hbel
      clear hbel a0 a1 b0 b1
      have c0 := cell_two0 hB.b2
      have c1 := cell_two1 hB.b2
      have f0 := free_two (i := 0) hB.b2
      have f1 := free_two (i := 1) hB.b2
      have l2 := lt_of_block hB.b2
      go_wp2_with fail
      exact bodyPost_ret (v := .tuple #[.agg #[.int .i64 0, .int .i64 0], .int .i64 20]) (by simp [results, Try.results87, go_sem, c0, c1]) rfl ⟨ret_sp HR.out, below_set2 hB.bel (by omega) _ _⟩
  · have hB := Bx3.start w s t
    have HS := Lib.hid hs
    have HR := Lib.hid (show sMul s t = ((0, 0), 20) from on2_bad (fun g => hs g.1))
    clear hs
    go_enter Try.func87, Try.ntmps87
    go_wp2_with fail
    refine (ref2_Right_bad HS.out _).mono ?_; rintro e w2 ⟨rfl, hbel⟩
    have hB := hB.on hbel
    clear hbel
    have c0 := cell_two0 hB.b2
    have c1 := cell_two1 hB.b2
    have f0 := free_two (i := 0) hB.b2
    have f1 := free_two (i := 1) hB.b2
    have l2 := lt_of_block hB.b2
    go_wp2_with fail
    exact bodyPost_ret (v := .tuple #[.agg #[.int .i64 0, .int .i64 0], .int .i64 20]) (by simp [results, Try.results87, go_sem, c0, c1]) rfl ⟨ret_sp HR.out, below_set2 hB.bel (by omega) _ _⟩
theorem rScl_small (up : Bool) {a n : Int} (ha : ok a) (hn : 0 ≤ n ∧ n ≤ 1000) : rScl up a n 1 = fit (a * n) := by
  rw [rScl_ok up ⟨ha, by omega, by omega, by omega, by omega⟩]
  congr 1
  cases up <;> simp [rnd]

set_option maxRecDepth 100000 in
set_option maxHeartbeats 1000000 in
theorem ref2_Scale_ok (s : Int × Int) (n : Int) (hs : okS s) (hn : 0 ≤ n ∧ n ≤ 1000) (w : World) :
    Calls Try.prog 90 #[.agg #[.int .i64 s.1, .int .i64 s.2], .int .i64 n, .int .i64 1] w fun e w' => e = .returned (.tuple #[.agg #[.int .i64 (sT (s.1 * n) (s.2 * n)).1.1, .int .i64 (sT (s.1 * n) (s.2 * n)).1.2], .int .i64 (sT (s.1 * n) (s.2 * n)).2]) ∧ Below w.heap.size w w' := by
  have hB := Bx2.start w s (0, 0)
  have HS := Lib.hid hs
  have hle : s.1 * n ≤ s.2 * n := Int.mul_le_mul_of_nonneg_right hs.2.1 hn.1
  have HD1 := Lib.hid (fun W => ref1_ScaleDown s.1 n 1 ⟨hs.lo, by omega, by omega, by omega, by omega⟩ W)
  have HD2 := Lib.hid (fun W => ref1_ScaleDown s.2 n 1 ⟨hs.hi, by omega, by omega, by omega, by omega⟩ W)
  have HU1 := Lib.hid (fun W => ref1_ScaleUp s.1 n 1 ⟨hs.lo, by omega, by omega, by omega, by omega⟩ W)
  have HU2 := Lib.hid (fun W => ref1_ScaleUp s.2 n 1 ⟨hs.hi, by omega, by omega, by omega, by omega⟩ W)
  rw [show ((1 : Nat) : Int) = 1 from rfl] at HD1 HD2 HU1 HU2
  rw [rScl_small false hs.lo hn] at HD1
  rw [rScl_small false hs.hi hn] at HD2
  rw [rScl_small true hs.lo hn] at HU1
  rw [rScl_small true hs.hi hn] at HU2
  obtain ⟨x, hx⟩ : ∃ x, x = s.1 * n := ⟨_, rfl⟩
  obtain ⟨y, hy⟩ : ∃ y, y = s.2 * n := ⟨_, rfl⟩
  rw [← hx] at HD1 HU1 hle
  rw [← hy] at HD2 HU2 hle
  rw [← hx, ← hy]
  clear hx hy hs hn
  by_cases h1 : ok x
  · rw [fit_ok h1] at HD1 HU1
    by_cases h2 : ok y
    · rw [fit_ok h2] at HD2 HU2
      have HM : Hid (min x y = x ∧ max x y = y) := Lib.hid (by omega)
      have HLE := Lib.hid hle
      clear h1 h2 hle
      go_enter Try.func90, Try.ntmps90
      go_wp2_with fail
      refine (ref2_Right_ok HS.out _).mono ?_; rintro e w2 ⟨rfl, hbel⟩
      have hB := hB.on hbel
      have a0 := cell_two0 hB.b0
      have a1 := cell_two1 hB.b0
      clear hbel
      go_wp2_with fail
      refine (HD1.out _).mono ?_; rintro e w2 ⟨rfl, hbel⟩
      have hB := hB.on hbel
      clear hbel a0 a1
      have a0 := cell_two0 hB.b0
      have a1 := cell_two1 hB.b0
      go_wp2_with fail
      refine (HD2.out _).mono ?_; rintro e w2 ⟨rfl, hbel⟩
      have hB := hB.on hbel
      clear hbel a0 a1
      have a0 := cell_two0 hB.b0
      have a1 := cell_two1 hB.b0
      go_wp2_with fail
      refine (HU1.out _).mono ?_; rintro e w2 ⟨rfl, hbel⟩
      have hB := hB.on hbel
      clear hbel a0 a1
      have a0 := cell_two0 hB.b0
      have a1 := cell_two1 hB.b0
      go_wp2_with fail
      refine (HU2.out _).mono ?_; rintro e w2 ⟨rfl, hbel⟩
      have hB := hB.on hbel
      clear hbel a0 a1
      go_wp2_with fail
      rw [HM.out.1, HM.out.2]
      refine (ref2_result _ _ HLE.out _).mono ?_; rintro e w3 ⟨rfl, hbel⟩
      have hB := hB.on hbel
      clear hbel
      have c0 := cell_two0 hB.b1
      have c1 := cell_two1 hB.b1
      have f0 := free_two (i := 0) hB.b1
      have f1 := free_two (i := 1) hB.b1
      have l2 := lt_of_block hB.b1
      go_wp2_with fail
      exact bodyPost_ret (v := .tuple #[.agg #[.int .i64 (sT x y).1.1, .int .i64 (sT x y).1.2], .int .i64 (sT x y).2]) (by simp [results, Try.results90, go_sem, c0, c1]) rfl ⟨rfl, below_set2 hB.bel (by omega) _ _⟩
    · rw [fit_bad h2] at HD2 HU2
      have HR : Hid (sT x y = ((0, 0), 6)) := Lib.hid (sT_bad (by unfold ok at h1 h2; omega))
      clear h1 h2 hle
      go_enter Try.func90, Try.ntmps90
      go_wp2_with fail
      refine (ref2_Right_ok HS.out _).mono ?_; rintro e w2 ⟨rfl, hbel⟩
      have hB := hB.on hbel
      have a0 := cell_two0 hB.b0
      have a1 := cell_two1 hB.b0
      clear hbel
      go_wp2_with fail
      refine (HD1.out _).mono ?_; rintro e w2 ⟨rfl, hbel⟩
      have hB := hB.on hbel
      clear hbel a0 a1
      have a0 := cell_two0 hB.b0
      have a1 := cell_two1 hB.b0
      go_wp2_with fail
      refine (HD2.out _).mono ?_; rintro e w2 ⟨rfl, hbel⟩
      have hB := hB.on hbel
      clear hbel a0 a1
      have a0 := cell_two0 hB.b0
      have a1 := cell_two1 hB.b0
      go_wp2_with fail
      refine (HU1.out _).mono ?_; rintro e w2 ⟨rfl, hbel⟩
      have hB := hB.on hbel
      clear hbel a0 a1
      have a0 := cell_two0 hB.b0
      have a1 := cell_two1 hB.b0
      go_wp2_with fail
      refine (HU2.out _).mono ?_; rintro e w2 ⟨rfl, hbel⟩
      have hB := hB.on hbel
      clear hbel a0 a1
      go_wp2_with fail
      refine (ref2_result_no _ _ _).mono ?_; rintro e w3 ⟨rfl, hbel⟩
      have hB := hB.on hbel
      clear hbel
      have c0 := cell_two0 hB.b1
      have c1 := cell_two1 hB.b1
      have f0 := free_two (i := 0) hB.b1
      have f1 := free_two (i := 1) hB.b1
      have l2 := lt_of_block hB.b1
      go_wp2_with fail
      exact bodyPost_ret (v := .tuple #[.agg #[.int .i64 0, .int .i64 0], .int .i64 6]) (by simp [results, Try.results90, go_sem, c0, c1]) rfl ⟨ret_sp HR.out, below_set2 hB.bel (by omega) _ _⟩
  · rw [fit_bad h1] at HD1 HU1
    have HR : Hid (sT x y = ((0, 0), 6)) := Lib.hid (by
      by_cases h2 : ok y
      · exact sT_bad (by unfold ok at h1 h2; omega)
      · exact sT_bad (by unfold ok at h1 h2; omega))
    have HF2 := Lib.hid (show (fit y).2 = 0 ∨ (fit y).2 = 6 by unfold fit; split <;> simp)
    clear h1 hle
    generalize fit y = fy at *
    obtain ⟨yv, ye⟩ := fy
    go_enter Try.func90, Try.ntmps90
    go_wp2_with fail
    refine (ref2_Right_ok HS.out _).mono ?_; rintro e w2 ⟨rfl, hbel⟩
    have hB := hB.on hbel
    have a0 := cell_two0 hB.b0
    have a1 := cell_two1 hB.b0
    clear hbel
    go_wp2_with fail
    refine (HD1.out _).mono ?_; rintro e w2 ⟨rfl, hbel⟩
    have hB := hB.on hbel
    clear hbel a0 a1
    have a0 := cell_two0 hB.b0
    have a1 := cell_two1 hB.b0
    go_wp2_with fail
    refine (HD2.out _).mono ?_; rintro e w2 ⟨rfl, hbel⟩
    have hB := hB.on hbel
    clear hbel a0 a1
    have a0 := cell_two0 hB.b0
    have a1 := cell_two1 hB.b0
    go_wp2_with fail
    refine (HU1.out _).mono ?_; rintro e w2 ⟨rfl, hbel⟩
    have hB := hB.on hbel
    clear hbel a0 a1
    have a0 := cell_two0 hB.b0
    have a1 := cell_two1 hB.b0
    go_wp2_with fail
    refine (HU2.out _).mono ?_; rintro e w2 ⟨rfl, hbel⟩
    have hB := hB.on hbel
    clear hbel a0 a1
    go_wp2_with fail
    refine (ref2_result_no _ _ _).mono ?_; rintro e w3 ⟨rfl, hbel⟩
    have hB := hB.on hbel
    clear hbel
    have c0 := cell_two0 hB.b1
    have c1 := cell_two1 hB.b1
    have f0 := free_two (i := 0) hB.b1
    have f1 := free_two (i := 1) hB.b1
    have l2 := lt_of_block hB.b1
    go_wp2_with fail
    exact bodyPost_ret (v := .tuple #[.agg #[.int .i64 0, .int .i64 0], .int .i64 6]) (by simp [results, Try.results90, go_sem, c0, c1]) rfl ⟨ret_sp HR.out, below_set2 hB.bel (by omega) _ _⟩
end Go.Proofs.Ytgfofilkpaelnaa
