/- Contracts of the reference of layer 2: Mul, for any intervals; Scale, by small fractions. Printed by wip/genRC.py. -/
import Derived.Test.YtmnccbhlllnlbaaGreatRefSC
namespace Go.Proofs.YtmnccbhlllnlbaaGreat
open Go.RowKit Mnc

set_option maxHeartbeats 1000000 in
theorem ref2_Mul (s t : Int × Int) (w : World) :
    Calls Tryz.prog 49 #[.agg #[.int .i64 s.1, .int .i64 s.2], .agg #[.int .i64 t.1, .int .i64 t.2]] w fun e w' => e = .returned (.tuple #[.agg #[.int .i64 (sMul s t).1.1, .int .i64 (sMul s t).1.2], .int .i64 (sMul s t).2]) ∧ Below w.heap.size w w' := by
  by_cases hs : okS s
  · by_cases ht : okS t
    · exact ref2_Mul_ok s t w hs ht
    · have hB := Bx3.start w s t
      have HS := Lib.hid hs
      have HT := Lib.hid ht
      have HR := Lib.hid (show sMul s t = ((0, 0), 20) from on2_bad (fun g => ht g.2))
      clear hs ht
      go_enter Tryz.func49, Tryz.ntmps49
      go_wp2_with fail
      refine (ref2_Right_ok HS.out _).mono ?_; rintro e w2 ⟨rfl, hbel⟩
      have hB := hB.on hbel
      clear hbel
      have a0 := cell_two0 hB.b0
      have a1 := cell_two1 hB.b0
      have b0 := cell_two0 hB.b1
      have b1 := cell_two1 hB.b1
      go_wp2_with fail
      refine (ref2_Right_bad HT.out _).mono ?_; rintro e w3 ⟨rfl, hbel⟩
      have hB := hB.on hbel
      clear hbel a0 a1 b0 b1
      have c0 := cell_two0 hB.b2
      have c1 := cell_two1 hB.b2
      have f0 := free_two (i := 0) hB.b2
      have f1 := free_two (i := 1) hB.b2
      have l2 := lt_of_block hB.b2
      go_wp2_with fail
      exact bodyPost_ret (v := .tuple #[.agg #[.int .i64 0, .int .i64 0], .int .i64 20]) (by simp [results, Tryz.results49, go_sem, c0, c1]) rfl ⟨ret_sp HR.out, below_set2 hB.bel (by omega) _ _⟩
  · have hB := Bx3.start w s t
    have HS := Lib.hid hs
    have HR := Lib.hid (show sMul s t = ((0, 0), 20) from on2_bad (fun g => hs g.1))
    clear hs
    go_enter Tryz.func49, Tryz.ntmps49
    go_wp2_with fail
    refine (ref2_Right_bad HS.out _).mono ?_; rintro e w2 ⟨rfl, hbel⟩
    have hB := hB.on hbel
    clear hbel
    have c0 := cell_two0 hB.b2
    have c1 := cell_two1 hB.b2
    have f0 := free_two (i := 0) hB.b2
    have f1 := free_two (i := 1) hB.b2
    have l2 := lt_of_block hB.b2
    go_wp2_with fail
    exact bodyPost_ret (v := .tuple #[.agg #[.int .i64 0, .int .i64 0], .int .i64 20]) (by simp [results, Tryz.results49, go_sem, c0, c1]) rfl ⟨ret_sp HR.out, below_set2 hB.bel (by omega) _ _⟩
theorem rScl_small (up : Bool) {a n : Int} (ha : ok a) (hn : 0 ≤ n ∧ n ≤ 1000) : rScl up a n 1 = fit (a * n) := by
  rw [rScl_ok up ⟨ha, by omega, by omega, by omega, by omega⟩]
  congr 1
  cases up <;> simp [rnd]

end Go.Proofs.YtmnccbhlllnlbaaGreat
