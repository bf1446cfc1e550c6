/- Contracts of the reference of layer 2: Width, Sign, Mid, Has. Printed by wip/genSS.py. -/
import Derived.Test.YtjphhdfkkkdppaaDoorRefSE
namespace Go.Proofs.YtjphhdfkkkdppaaDoor
open Go.RowKit Mnc

theorem tdiv2_neg {n : Int} (h : n < 0) : n.tdiv 2 = -((-n) / 2) := by
  have := Int.neg_tdiv n 2
  rw [Int.tdiv_eq_ediv_of_nonneg (show 0 ≤ -n by omega)] at this
  omega
theorem tmod2_neg {n : Int} (h : n < 0) : n.tmod 2 = -((-n) % 2) := by
  have := Int.neg_tmod n 2
  rw [Int.tmod_eq_emod_of_nonneg (show 0 ≤ -n by omega)] at this
  omega
set_option maxRecDepth 100000 in
set_option maxHeartbeats 2000000 in
theorem ref2_Width (s : Int × Int) (w : World) :
    Calls Tryd.prog 54 #[.agg #[.int .i64 s.1, .int .i64 s.2]] w fun e w' => e = .returned (.tuple #[.int .i64 (sWidth s).1, .int .i64 (sWidth s).2]) ∧ Below w.heap.size w w' := by
  have hB := Bx1.start w s
  by_cases hs : okS s
  · have H := Lib.hid hs
    obtain ⟨s1, s2, s3⟩ := hs
    have HR := Lib.hid (show sWidth s = (s.2 - s.1, 0) by
      have e : sWidth s = _ := sNum_ok H.out
      rw [e]
      skip)
    go_enter Tryd.func54, Tryd.ntmps54
    go_wp2_with fail
    refine (ref2_Right_ok H.out _).mono ?_; rintro e w2 ⟨rfl, hbel⟩
    have hB := hB.on hbel
    clear hbel
    have c0 := cell_two0 hB.b0
    have c1 := cell_two1 hB.b0
    go_wp2_with fail
    go_ret2
    exact ⟨ret2 HR.out, hB.bel⟩
  · have H := Lib.hid hs
    have HR := Lib.hid (show sWidth s = (0, 20) from sNum_bad hs)
    clear hs
    go_enter Tryd.func54, Tryd.ntmps54
    go_wp2_with fail
    refine (ref2_Right_bad H.out _).mono ?_; rintro e w2 ⟨rfl, hbel⟩
    have hB := hB.on hbel
    clear hbel
    go_wp2_with fail
    go_ret2
    exact ⟨ret2 HR.out, hB.bel⟩

set_option maxRecDepth 100000 in
set_option maxHeartbeats 2000000 in
theorem ref2_Sign (s : Int × Int) (w : World) :
    Calls Tryd.prog 56 #[.agg #[.int .i64 s.1, .int .i64 s.2]] w fun e w' => e = .returned (.tuple #[.int .i64 (sSign s).1, .int .i64 (sSign s).2]) ∧ Below w.heap.size w w' := by
  have hB := Bx1.start w s
  by_cases hs : okS s
  · have H := Lib.hid hs
    obtain ⟨s1, s2, s3⟩ := hs
    by_cases k1 : s.2 < 0
    · have d1 : decide (s.2 < 0) = true := decide_eq_true k1
      have HR := Lib.hid (show sSign s = (-1, 0) by
        have e : sSign s = _ := sNum_ok H.out
        rw [e]
        rw [if_neg (by omega), if_pos k1])
      go_enter Tryd.func56, Tryd.ntmps56
      go_wp2_with fail
      refine (ref2_Right_ok H.out _).mono ?_; rintro e w2 ⟨rfl, hbel⟩
      have hB := hB.on hbel
      clear hbel
      have c0 := cell_two0 hB.b0
      have c1 := cell_two1 hB.b0
      go_wp2_with fail
      go_ret2
      exact ⟨ret2 HR.out, hB.bel⟩
    · have d1 : decide (s.2 < 0) = false := decide_eq_false k1
      by_cases k2 : 0 < s.1
      · have d2 : decide (0 < s.1) = true := decide_eq_true k2
        have HR := Lib.hid (show sSign s = (1, 0) by
          have e : sSign s = _ := sNum_ok H.out
          rw [e]
          rw [if_pos k2])
        go_enter Tryd.func56, Tryd.ntmps56
        go_wp2_with fail
        refine (ref2_Right_ok H.out _).mono ?_; rintro e w2 ⟨rfl, hbel⟩
        have hB := hB.on hbel
        clear hbel
        have c0 := cell_two0 hB.b0
        have c1 := cell_two1 hB.b0
        go_wp2_with fail
        go_ret2
        exact ⟨ret2 HR.out, hB.bel⟩
      · have d2 : decide (0 < s.1) = false := decide_eq_false k2
        by_cases k3 : s.1 = 0
        · have d3 : (s.1 == 0) = true := by simp [k3]
          by_cases k4 : s.2 = 0
          · have d4 : (s.2 == 0) = true := by simp [k4]
            have HR := Lib.hid (show sSign s = (0, 0) by
              have e : sSign s = _ := sNum_ok H.out
              rw [e]
              rw [if_neg k2, if_neg k1, if_pos (Prod.ext k3 k4)])
            clear k3 k4
            go_enter Tryd.func56, Tryd.ntmps56
            go_wp2_with fail
            refine (ref2_Right_ok H.out _).mono ?_; rintro e w2 ⟨rfl, hbel⟩
            have hB := hB.on hbel
            clear hbel
            have c0 := cell_two0 hB.b0
            have c1 := cell_two1 hB.b0
            go_wp2_with fail
            go_ret2
            exact ⟨ret2 HR.out, hB.bel⟩
          · have d4 : (s.2 == 0) = false := by simp [k4]
            have HR := Lib.hid (show sSign s = (2, 0) by
              have e : sSign s = _ := sNum_ok H.out
              rw [e]
              rw [if_neg k2, if_neg k1, if_neg (fun h => k4 (by rw [h]))])
            clear k3 k4
            go_enter Tryd.func56, Tryd.ntmps56
            go_wp2_with fail
            refine (ref2_Right_ok H.out _).mono ?_; rintro e w2 ⟨rfl, hbel⟩
            have hB := hB.on hbel
            clear hbel
            have c0 := cell_two0 hB.b0
            have c1 := cell_two1 hB.b0
            go_wp2_with fail
            go_ret2
            exact ⟨ret2 HR.out, hB.bel⟩
        · have d3 : (s.1 == 0) = false := by simp [k3]
          have HR := Lib.hid (show sSign s = (2, 0) by
            have e : sSign s = _ := sNum_ok H.out
            rw [e]
            rw [if_neg k2, if_neg k1, if_neg (fun h => k3 (by rw [h]))])
          clear k3
          go_enter Tryd.func56, Tryd.ntmps56
          go_wp2_with fail
          refine (ref2_Right_ok H.out _).mono ?_; rintro e w2 ⟨rfl, hbel⟩
          have hB := hB.on hbel
          clear hbel
          have c0 := cell_two0 hB.b0
          have c1 := cell_two1 hB.b0
          go_wp2_with fail
          go_ret2
          exact ⟨ret2 HR.out, hB.bel⟩
  · have H := Lib.hid hs
    have HR := Lib.hid (show sSign s = (0, 20) from sNum_bad hs)
    clear hs
    go_enter Tryd.func56, Tryd.ntmps56
    go_wp2_with fail
    refine (ref2_Right_bad H.out _).mono ?_; rintro e w2 ⟨rfl, hbel⟩
    have hB := hB.on hbel
    clear hbel
    go_wp2_with fail
    go_ret2
    exact ⟨ret2 HR.out, hB.bel⟩

set_option maxRecDepth 100000 in
set_option maxHeartbeats 2000000 in
theorem ref2_Mid (s : Int × Int) (w : World) :
    Calls Tryd.prog 52 #[.agg #[.int .i64 s.1, .int .i64 s.2]] w fun e w' => e = .returned (.tuple #[.int .i64 (sMid s).1, .int .i64 (sMid s).2]) ∧ Below w.heap.size w w' := by
  have hB := Bx1.start w s
  by_cases hs : okS s
  · have H := Lib.hid hs
    obtain ⟨s1, s2, s3⟩ := hs
    by_cases k1 : s.1 + s.2 < 0
    · have d1 : decide (s.1 + s.2 < 0) = true := decide_eq_true k1
      by_cases k2 : (s.1 + s.2).tmod 2 = 0
      · have d2 : ((s.1 + s.2).tmod 2 == 0) = true := by simp [k2]
        have d3 : ((s.1 + s.2).tmod 2 != 0) = false := by simp [k2]
        have HR := Lib.hid (show sMid s = ((s.1 + s.2).tdiv 2, 0) by
          have e : sMid s = _ := sNum_ok H.out
          rw [e]
          rw [tdiv2_neg k1]
          rw [tmod2_neg k1] at k2
          refine congrArg (fun z => (z, (0 : Int))) ?_
          omega)
        clear k2
        go_enter Tryd.func52, Tryd.ntmps52
        go_wp2_with fail
        refine (ref2_Right_ok H.out _).mono ?_; rintro e w2 ⟨rfl, hbel⟩
        have hB := hB.on hbel
        clear hbel
        have c0 := cell_two0 hB.b0
        have c1 := cell_two1 hB.b0
        go_wp2_with fail
        go_ret2
        exact ⟨ret2 HR.out, hB.bel⟩
      · have d2 : ((s.1 + s.2).tmod 2 == 0) = false := by simp [k2]
        have d3 : ((s.1 + s.2).tmod 2 != 0) = true := by simp [k2]
        have HR := Lib.hid (show sMid s = ((s.1 + s.2 - 1).tdiv 2, 0) by
          have e : sMid s = _ := sNum_ok H.out
          rw [e]
          rw [tdiv2_neg (show s.1 + s.2 - 1 < 0 by omega)]
          rw [tmod2_neg k1] at k2
          refine congrArg (fun z => (z, (0 : Int))) ?_
          omega)
        clear k2
        go_enter Tryd.func52, Tryd.ntmps52
        go_wp2_with fail
        refine (ref2_Right_ok H.out _).mono ?_; rintro e w2 ⟨rfl, hbel⟩
        have hB := hB.on hbel
        clear hbel
        have c0 := cell_two0 hB.b0
        have c1 := cell_two1 hB.b0
        go_wp2_with fail
        go_ret2
        exact ⟨ret2 HR.out, hB.bel⟩
    · have d1 : decide (s.1 + s.2 < 0) = false := decide_eq_false k1
      have HR := Lib.hid (show sMid s = ((s.1 + s.2) / 2, 0) by
        have e : sMid s = _ := sNum_ok H.out
        rw [e]
        skip)
      go_enter Tryd.func52, Tryd.ntmps52
      go_wp2_with fail
      refine (ref2_Right_ok H.out _).mono ?_; rintro e w2 ⟨rfl, hbel⟩
      have hB := hB.on hbel
      clear hbel
      have c0 := cell_two0 hB.b0
      have c1 := cell_two1 hB.b0
      go_wp2_with fail
      go_ret2
      exact ⟨ret2 HR.out, hB.bel⟩
  · have H := Lib.hid hs
    have HR := Lib.hid (show sMid s = (0, 20) from sNum_bad hs)
    clear hs
    go_enter Tryd.func52, Tryd.ntmps52
    go_wp2_with fail
    refine (ref2_Right_bad H.out _).mono ?_; rintro e w2 ⟨rfl, hbel⟩
    have hB := hB.on hbel
    clear hbel
    go_wp2_with fail
    go_ret2
    exact ⟨ret2 HR.out, hB.bel⟩

theorem retB {p : Bool × Int} {b : Bool} {n : Int} (h : p = (b, n)) : (Ending.returned (.tuple #[.bool b, .int .i64 n])) = .returned (.tuple #[.bool p.1, .int .i64 p.2]) := by rw [h]
set_option maxRecDepth 100000 in
set_option maxHeartbeats 2000000 in
theorem ref2_Has (s : Int × Int) (v : Int) (w : World) :
    Calls Tryd.prog 50 #[.agg #[.int .i64 s.1, .int .i64 s.2], .int .i64 v] w fun e w' => e = .returned (.tuple #[.bool (sHas s v).1, .int .i64 (sHas s v).2]) ∧ Below w.heap.size w w' := by
  have hB := Bx1.start w s
  by_cases hs : okS s
  · have H := Lib.hid hs
    obtain ⟨s1, s2, s3⟩ := hs
    by_cases k1 : s.1 ≤ v
    · have d1 : decide (s.1 ≤ v) = true := decide_eq_true k1
      by_cases k2 : v ≤ s.2
      · have d2 : decide (v ≤ s.2) = true := decide_eq_true k2
        have HR := Lib.hid (show sHas s v = (true, 0) by
          rw [sHas_ok H.out]
          simp [k1, k2])
        go_enter Tryd.func50, Tryd.ntmps50
        go_wp2_with fail
        refine (ref2_Right_ok H.out _).mono ?_; rintro e w2 ⟨rfl, hbel⟩
        have hB := hB.on hbel
        clear hbel
        have c0 := cell_two0 hB.b0
        have c1 := cell_two1 hB.b0
        go_wp2_with fail
        go_ret2
        exact ⟨retB HR.out, hB.bel⟩
      · have d2 : decide (v ≤ s.2) = false := decide_eq_false k2
        have HR := Lib.hid (show sHas s v = (false, 0) by
          rw [sHas_ok H.out]
          simp [k2])
        go_enter Tryd.func50, Tryd.ntmps50
        go_wp2_with fail
        refine (ref2_Right_ok H.out _).mono ?_; rintro e w2 ⟨rfl, hbel⟩
        have hB := hB.on hbel
        clear hbel
        have c0 := cell_two0 hB.b0
        have c1 := cell_two1 hB.b0
        go_wp2_with fail
        go_ret2
        exact ⟨retB HR.out, hB.bel⟩
    · have d1 : decide (s.1 ≤ v) = false := decide_eq_false k1
      have HR := Lib.hid (show sHas s v = (false, 0) by
        rw [sHas_ok H.out]
        simp [k1])
      go_enter Tryd.func50, Tryd.ntmps50
      go_wp2_with fail
      refine (ref2_Right_ok H.out _).mono ?_; rintro e w2 ⟨rfl, hbel⟩
      have hB := hB.on hbel
      clear hbel
      have c0 := cell_two0 hB.b0
      have c1 := cell_two1 hB.b0
      go_wp2_with fail
      go_ret2
      exact ⟨retB HR.out, hB.bel⟩
  · have H := Lib.hid hs
    have HR := Lib.hid (sHas_bad hs v)
    clear hs
    go_enter Tryd.func50, Tryd.ntmps50
    go_wp2_with fail
    refine (ref2_Right_bad H.out _).mono ?_; rintro e w2 ⟨rfl, hbel⟩
    have hB := hB.on hbel
    clear hbel
    go_wp2_with fail
    go_ret2
    exact ⟨retB HR.out, hB.bel⟩

end Go.Proofs.YtjphhdfkkkdppaaDoor
