/- The walk of monoclelaw01.FixQuotients. Printed by wip/genFQ.py. -/
import Derived.Test.YtgfofilkpaelnaaDoorLawB
import Derived.Test.YtgfofilkpaelnaaDoorRefC
namespace Go.Proofs.YtgfofilkpaelnaaDoor.fixQuotients
open Go.RowKit Mnc

theorem pick4_0 (x0 x1 x2 x3 x4 x5 x6 x7 : Value) (w : World) :
    (Instr.index 32 (.agg #[x0, x1, x2, x3, x4, x5, x6, x7]) (.int .i64 0)).run Tryd.prog w = .ok (.agg #[x0, x1]) w := by kernel_rfl
theorem pick4_1 (x0 x1 x2 x3 x4 x5 x6 x7 : Value) (w : World) :
    (Instr.index 32 (.agg #[x0, x1, x2, x3, x4, x5, x6, x7]) (.int .i64 1)).run Tryd.prog w = .ok (.agg #[x2, x3]) w := by kernel_rfl
theorem pick4_2 (x0 x1 x2 x3 x4 x5 x6 x7 : Value) (w : World) :
    (Instr.index 32 (.agg #[x0, x1, x2, x3, x4, x5, x6, x7]) (.int .i64 2)).run Tryd.prog w = .ok (.agg #[x4, x5]) w := by kernel_rfl
theorem pick4_3 (x0 x1 x2 x3 x4 x5 x6 x7 : Value) (w : World) :
    (Instr.index 32 (.agg #[x0, x1, x2, x3, x4, x5, x6, x7]) (.int .i64 3)).run Tryd.prog w = .ok (.agg #[x6, x7]) w := by kernel_rfl

/-- Two cells that were just laid, behind a call that leaves what was there. -/
theorem hold20 {w wr W : World} {x y : Value} {t : TypeId} (hbw : Below w.heap.size w wr) (hb : Below (wr.alloc (.cells #[x, y] t)).heap.size (wr.alloc (.cells #[x, y] t)) W) :
    W.cell? ⟨wr.heap.size, 0, none⟩ = some x ∧ W.cell? ⟨wr.heap.size, 1, none⟩ = some y ∧ wr.heap.size < W.heap.size ∧ Below w.heap.size w W := by
  rw [show (wr.alloc (.cells #[x, y] t)).heap.size = wr.heap.size + 1 by simp] at hb
  refine ⟨(hb.cell (p := ⟨wr.heap.size, 0, none⟩) (by simp)).trans (by simp), (hb.cell (p := ⟨wr.heap.size, 1, none⟩) (by simp)).trans (by simp), ?_, ?_⟩
  · have := hb.size
    simp at this
    omega
  · exact (hbw.alloc hbw.size _).trans (hb.mono (by have := hbw.size; omega))
theorem hold2 {w W W' : World} {x y : Value} {B : Nat} (h0 : W.cell? ⟨B, 0, none⟩ = some x) (h1 : W.cell? ⟨B, 1, none⟩ = some y) (hl : B < W.heap.size) (hbw : Below w.heap.size w W) (hb : Below W.heap.size W W') :
    W'.cell? ⟨B, 0, none⟩ = some x ∧ W'.cell? ⟨B, 1, none⟩ = some y ∧ B < W'.heap.size ∧ Below w.heap.size w W' :=
  ⟨(hb.cell (p := ⟨B, 0, none⟩) hl).trans h0, (hb.cell (p := ⟨B, 1, none⟩) hl).trans h1, Nat.lt_of_lt_of_le hl hb.size, below_step hbw hb⟩

set_option maxRecDepth 100000 in
set_option maxHeartbeats 4000000 in
theorem walk (a b : Int) (raw : Bool) (w : World) (hP : Pows w) :
    Calls Tryd.prog 4 #[.int .i64 a, .int .i64 b, .bool raw] w fun e w' => e = .returned (.bool true) ∧ Below w.heap.size w w' := by
  have HP := Lib.hid hP
  clear hP
  go_enter Tryd.func4, Tryd.ntmps4
  go_wp2_with fail
  refine (law1_works _ HP.out).mono ?_; rintro e w1 ⟨rfl, hW⟩
  go_wp2_with fail
  refine (law1_near _ _ _).mono ?_; rintro e w2 ⟨rfl, rfl⟩
  go_wp2_with fail
  refine (law1_near _ _ _).mono ?_; rintro e w2 ⟨rfl, rfl⟩
  generalize nearOf a raw = A
  generalize nearOf b raw = B
  go_wp2_with fail
  go_loopw [39] (fun i wr => ∃ k : Nat, k ≤ 4 ∧ i = .int .i64 k ∧ Below w.heap.size w wr) (fun i _ => 4 - (intOf i).toNat)
  case atStart => exact ⟨0, by omega, rfl, hW⟩
  case round =>
    obtain ⟨k, hk, rfl, hbw⟩ := hrel
    rcases (by omega : k = 0 ∨ k = 1 ∨ k = 2 ∨ k = 3 ∨ k = 4) with rfl | rfl | rfl | rfl | rfl
    · have hi := pick4_0 (.int .i64 A) (.int .i64 B) (.int .i64 (A / 16777216)) (.int .i64 B) (.int .i64 B) (.int .i64 (A / 1073741824)) (.int .i64 B) (.int .i64 0)
      go_wp2_with fail
      refine (fix_DivDown _ _ _).mono ?_; rintro e wn ⟨rfl, hb⟩
      obtain ⟨hc0, hc1, hl, hbw⟩ := hold20 hbw hb
      clear hb
      go_wp2_with fail
      refine (fix_DivUp _ _ _).mono ?_; rintro e wn ⟨rfl, hb⟩
      obtain ⟨hc0, hc1, hl, hbw⟩ := hold2 hc0 hc1 hl hbw hb
      clear hb
      go_wp2_with fail
      refine (ref1_DivDown _ _ _).mono ?_; rintro e wn ⟨rfl, hb⟩
      obtain ⟨hc0, hc1, hl, hbw⟩ := hold2 hc0 hc1 hl hbw hb
      clear hb
      go_wp2_with fail
      refine (ref1_DivUp _ _ _).mono ?_; rintro e wn ⟨rfl, hb⟩
      obtain ⟨hc0, hc1, hl, hbw⟩ := hold2 hc0 hc1 hl hbw hb
      clear hb
      go_wp2_with fail
      go_roundw
      case rel => exact ⟨1, by omega, rfl, hbw⟩
      case measure => simp [intOf]
    · have hi := pick4_1 (.int .i64 A) (.int .i64 B) (.int .i64 (A / 16777216)) (.int .i64 B) (.int .i64 B) (.int .i64 (A / 1073741824)) (.int .i64 B) (.int .i64 0)
      go_wp2_with fail
      refine (fix_DivDown _ _ _).mono ?_; rintro e wn ⟨rfl, hb⟩
      obtain ⟨hc0, hc1, hl, hbw⟩ := hold20 hbw hb
      clear hb
      go_wp2_with fail
      refine (fix_DivUp _ _ _).mono ?_; rintro e wn ⟨rfl, hb⟩
      obtain ⟨hc0, hc1, hl, hbw⟩ := hold2 hc0 hc1 hl hbw hb
      clear hb
      go_wp2_with fail
      refine (ref1_DivDown _ _ _).mono ?_; rintro e wn ⟨rfl, hb⟩
      obtain ⟨hc0, hc1, hl, hbw⟩ := hold2 hc0 hc1 hl hbw hb
      clear hb
      go_wp2_with fail
      refine (ref1_DivUp _ _ _).mono ?_; rintro e wn ⟨rfl, hb⟩
      obtain ⟨hc0, hc1, hl, hbw⟩ := hold2 hc0 hc1 hl hbw hb
      clear hb
      go_wp2_with fail
      go_roundw
      case rel => exact ⟨2, by omega, rfl, hbw⟩
      case measure => simp [intOf]
    · have hi := pick4_2 (.int .i64 A) (.int .i64 B) (.int .i64 (A / 16777216)) (.int .i64 B) (.int .i64 B) (.int .i64 (A / 1073741824)) (.int .i64 B) (.int .i64 0)
      go_wp2_with fail
      refine (fix_DivDown _ _ _).mono ?_; rintro e wn ⟨rfl, hb⟩
      obtain ⟨hc0, hc1, hl, hbw⟩ := hold20 hbw hb
      clear hb
      go_wp2_with fail
      refine (fix_DivUp _ _ _).mono ?_; rintro e wn ⟨rfl, hb⟩
      obtain ⟨hc0, hc1, hl, hbw⟩ := hold2 hc0 hc1 hl hbw hb
      clear hb
      go_wp2_with fail
      refine (ref1_DivDown _ _ _).mono ?_; rintro e wn ⟨rfl, hb⟩
      obtain ⟨hc0, hc1, hl, hbw⟩ := hold2 hc0 hc1 hl hbw hb
      clear hb
      go_wp2_with fail
      refine (ref1_DivUp _ _ _).mono ?_; rintro e wn ⟨rfl, hb⟩
      obtain ⟨hc0, hc1, hl, hbw⟩ := hold2 hc0 hc1 hl hbw hb
      clear hb
      go_wp2_with fail
      go_roundw
      case rel => exact ⟨3, by omega, rfl, hbw⟩
      case measure => simp [intOf]
    · have hi := pick4_3 (.int .i64 A) (.int .i64 B) (.int .i64 (A / 16777216)) (.int .i64 B) (.int .i64 B) (.int .i64 (A / 1073741824)) (.int .i64 B) (.int .i64 0)
      go_wp2_with fail
      refine (fix_DivDown _ _ _).mono ?_; rintro e wn ⟨rfl, hb⟩
      obtain ⟨hc0, hc1, hl, hbw⟩ := hold20 hbw hb
      clear hb
      go_wp2_with fail
      refine (fix_DivUp _ _ _).mono ?_; rintro e wn ⟨rfl, hb⟩
      obtain ⟨hc0, hc1, hl, hbw⟩ := hold2 hc0 hc1 hl hbw hb
      clear hb
      go_wp2_with fail
      refine (ref1_DivDown _ _ _).mono ?_; rintro e wn ⟨rfl, hb⟩
      obtain ⟨hc0, hc1, hl, hbw⟩ := hold2 hc0 hc1 hl hbw hb
      clear hb
      go_wp2_with fail
      refine (ref1_DivUp _ _ _).mono ?_; rintro e wn ⟨rfl, hb⟩
      obtain ⟨hc0, hc1, hl, hbw⟩ := hold2 hc0 hc1 hl hbw hb
      clear hb
      go_wp2_with fail
      go_roundw
      case rel => exact ⟨4, by omega, rfl, hbw⟩
      case measure => simp [intOf]
    · go_wp2_with fail
      go_ret
      exact ⟨rfl, hbw⟩
end Go.Proofs.YtgfofilkpaelnaaDoor.fixQuotients
