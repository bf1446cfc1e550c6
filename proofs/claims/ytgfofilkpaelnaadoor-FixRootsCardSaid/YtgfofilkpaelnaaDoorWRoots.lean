/- The walk of monoclelaw01.FixRoots. Printed by wip/genFR.py. -/
import Derived.Test.YtgfofilkpaelnaaDoorLawB
import Derived.Test.YtgfofilkpaelnaaDoorRefD
namespace Go.Proofs.YtgfofilkpaelnaaDoor.fixRoots
open Go.RowKit Mnc

theorem pick5_0 (x0 x1 x2 x3 x4 : Int) (w : World) :
    (Instr.index 34 (.agg #[.int .i64 x0, .int .i64 x1, .int .i64 x2, .int .i64 x3, .int .i64 x4]) (.int .i64 0)).run Tryd.prog w = .ok (.int .i64 x0) w := by kernel_rfl
theorem pick5_1 (x0 x1 x2 x3 x4 : Int) (w : World) :
    (Instr.index 34 (.agg #[.int .i64 x0, .int .i64 x1, .int .i64 x2, .int .i64 x3, .int .i64 x4]) (.int .i64 1)).run Tryd.prog w = .ok (.int .i64 x1) w := by kernel_rfl
theorem pick5_2 (x0 x1 x2 x3 x4 : Int) (w : World) :
    (Instr.index 34 (.agg #[.int .i64 x0, .int .i64 x1, .int .i64 x2, .int .i64 x3, .int .i64 x4]) (.int .i64 2)).run Tryd.prog w = .ok (.int .i64 x2) w := by kernel_rfl
theorem pick5_3 (x0 x1 x2 x3 x4 : Int) (w : World) :
    (Instr.index 34 (.agg #[.int .i64 x0, .int .i64 x1, .int .i64 x2, .int .i64 x3, .int .i64 x4]) (.int .i64 3)).run Tryd.prog w = .ok (.int .i64 x3) w := by kernel_rfl
theorem pick5_4 (x0 x1 x2 x3 x4 : Int) (w : World) :
    (Instr.index 34 (.agg #[.int .i64 x0, .int .i64 x1, .int .i64 x2, .int .i64 x3, .int .i64 x4]) (.int .i64 4)).run Tryd.prog w = .ok (.int .i64 x4) w := by kernel_rfl

set_option maxRecDepth 100000 in
set_option maxHeartbeats 4000000 in
theorem walk (a : Int) (raw : Bool) (r : Int) (w : World) (hP : Pows w) :
    Calls Tryd.prog 5 #[.int .i64 a, .bool raw, .int .u32 r] w fun e w' => e = .returned (.bool true) ∧ Below w.heap.size w w' := by
  have HP := Lib.hid hP
  clear hP
  go_enter Tryd.func5, Tryd.ntmps5
  go_wp2_with fail
  refine (law1_works _ HP.out).mono ?_; rintro e w1 ⟨rfl, hW⟩
  go_wp2_with fail
  refine (law1_near _ _ _).mono ?_; rintro e w2 ⟨rfl, rfl⟩
  generalize nearOf a raw = A
  go_wp2_with fail
  generalize wrap64 (wrap64 (r.tmod 67108864) * wrap64 (r.tmod 67108864)) = x2
  generalize wrap64 (x2 - 1) = x3
  generalize wrap64 (x2 + 1) = x4
  generalize A / 1073741824 = x1
  obtain ⟨x0, rfl⟩ : ∃ x0, x0 = A := ⟨_, rfl⟩
  go_loopw [39] (fun i wr => ∃ k : Nat, k ≤ 5 ∧ i = .int .i64 k ∧ Below w.heap.size w wr) (fun i _ => 5 - (intOf i).toNat)
  case atStart => exact ⟨0, by omega, rfl, hW⟩
  case round =>
    obtain ⟨k, hk, rfl, hbw⟩ := hrel
    rcases (by omega : k = 0 ∨ k = 1 ∨ k = 2 ∨ k = 3 ∨ k = 4 ∨ k = 5) with rfl | rfl | rfl | rfl | rfl | rfl
    · have hi := pick5_0 x0 x1 x2 x3 x4
      go_wp2_with fail
      refine (fix_SqrtDown _ _).mono ?_; rintro e wn ⟨rfl, hb⟩
      have hbw := below_step hbw hb
      clear hb
      go_wp2_with fail
      refine (fix_SqrtUp _ _).mono ?_; rintro e wn ⟨rfl, hb⟩
      have hbw := below_step hbw hb
      clear hb
      go_wp2_with fail
      refine (ref1_SqrtDown _ _).mono ?_; rintro e wn ⟨rfl, rfl⟩
      go_wp2_with fail
      refine (ref1_SqrtUp _ _).mono ?_; rintro e wn ⟨rfl, rfl⟩
      go_wp2_with fail
      go_roundw
      case rel => exact ⟨1, by omega, rfl, hbw⟩
      case measure => simp [intOf]
    · have hi := pick5_1 x0 x1 x2 x3 x4
      go_wp2_with fail
      refine (fix_SqrtDown _ _).mono ?_; rintro e wn ⟨rfl, hb⟩
      have hbw := below_step hbw hb
      clear hb
      go_wp2_with fail
      refine (fix_SqrtUp _ _).mono ?_; rintro e wn ⟨rfl, hb⟩
      have hbw := below_step hbw hb
      clear hb
      go_wp2_with fail
      refine (ref1_SqrtDown _ _).mono ?_; rintro e wn ⟨rfl, rfl⟩
      go_wp2_with fail
      refine (ref1_SqrtUp _ _).mono ?_; rintro e wn ⟨rfl, rfl⟩
      go_wp2_with fail
      go_roundw
      case rel => exact ⟨2, by omega, rfl, hbw⟩
      case measure => simp [intOf]
    · have hi := pick5_2 x0 x1 x2 x3 x4
      go_wp2_with fail
      refine (fix_SqrtDown _ _).mono ?_; rintro e wn ⟨rfl, hb⟩
      have hbw := below_step hbw hb
      clear hb
      go_wp2_with fail
      refine (fix_SqrtUp _ _).mono ?_; rintro e wn ⟨rfl, hb⟩
      have hbw := below_step hbw hb
      clear hb
      go_wp2_with fail
      refine (ref1_SqrtDown _ _).mono ?_; rintro e wn ⟨rfl, rfl⟩
      go_wp2_with fail
      refine (ref1_SqrtUp _ _).mono ?_; rintro e wn ⟨rfl, rfl⟩
      go_wp2_with fail
      go_roundw
      case rel => exact ⟨3, by omega, rfl, hbw⟩
      case measure => simp [intOf]
    · have hi := pick5_3 x0 x1 x2 x3 x4
      go_wp2_with fail
      refine (fix_SqrtDown _ _).mono ?_; rintro e wn ⟨rfl, hb⟩
      have hbw := below_step hbw hb
      clear hb
      go_wp2_with fail
      refine (fix_SqrtUp _ _).mono ?_; rintro e wn ⟨rfl, hb⟩
      have hbw := below_step hbw hb
      clear hb
      go_wp2_with fail
      refine (ref1_SqrtDown _ _).mono ?_; rintro e wn ⟨rfl, rfl⟩
      go_wp2_with fail
      refine (ref1_SqrtUp _ _).mono ?_; rintro e wn ⟨rfl, rfl⟩
      go_wp2_with fail
      go_roundw
      case rel => exact ⟨4, by omega, rfl, hbw⟩
      case measure => simp [intOf]
    · have hi := pick5_4 x0 x1 x2 x3 x4
      go_wp2_with fail
      refine (fix_SqrtDown _ _).mono ?_; rintro e wn ⟨rfl, hb⟩
      have hbw := below_step hbw hb
      clear hb
      go_wp2_with fail
      refine (fix_SqrtUp _ _).mono ?_; rintro e wn ⟨rfl, hb⟩
      have hbw := below_step hbw hb
      clear hb
      go_wp2_with fail
      refine (ref1_SqrtDown _ _).mono ?_; rintro e wn ⟨rfl, rfl⟩
      go_wp2_with fail
      refine (ref1_SqrtUp _ _).mono ?_; rintro e wn ⟨rfl, rfl⟩
      go_wp2_with fail
      go_roundw
      case rel => exact ⟨5, by omega, rfl, hbw⟩
      case measure => simp [intOf]
    · go_wp2_with fail
      go_ret
      exact ⟨rfl, hbw⟩
end Go.Proofs.YtgfofilkpaelnaaDoor.fixRoots
