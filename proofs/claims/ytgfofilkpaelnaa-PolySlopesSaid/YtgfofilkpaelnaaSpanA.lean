/- Contracts of package span: Check, all, told, Of, Point, Add, Sub, Neg, Abs, Min, Max, Hull, Meet, Has, Mid, Width, Sign. Printed by wip/genSA.py. -/
import Derived.Test.YtgfofilkpaelnaaFixT
import Derived.Test.YtgfofilkpaelnaaSpanMath
namespace Go.Proofs.Ytgfofilkpaelnaa
open Go.RowKit Mnc

theorem below_alloc {w W : World} (h : Below w.heap.size w W) (o : Obj) : Below w.heap.size w (W.alloc o) := h.alloc h.size _

set_option maxHeartbeats 400000 in
theorem span_Check (s : Int × Int) (w : World) :
    Calls Try.prog 106 #[.agg #[.int .i64 s.1, .int .i64 s.2]] w fun e w' => e = .returned (.int .i64 (sChk s)) ∧ Below w.heap.size w w' := by
  obtain ⟨lo, hi⟩ := s
  by_cases h1 : lo < -4503599627370496
  · rw [sChk_bad (by unfold okS; simp only; omega)]
    go_enter Try.func106, Try.ntmps106
    go_wp2
    go_ret
    exact ⟨rfl, below_alloc (Below.refl _ _) _⟩
  · by_cases h2 : hi < lo
    · rw [sChk_bad (by unfold okS; simp only; omega)]
      go_enter Try.func106, Try.ntmps106
      go_wp2
      go_ret
      exact ⟨rfl, below_alloc (Below.refl _ _) _⟩
    · by_cases h3 : 4503599627370496 < hi
      · rw [sChk_bad (by unfold okS; simp only; omega)]
        go_enter Try.func106, Try.ntmps106
        go_wp2
        go_ret
        exact ⟨rfl, below_alloc (Below.refl _ _) _⟩
      · rw [sChk_ok (by unfold okS; simp only; omega)]
        go_enter Try.func106, Try.ntmps106
        go_wp2
        go_ret
        exact ⟨rfl, below_alloc (Below.refl _ _) _⟩

theorem span_Check_ok {s : Int × Int} (h : okS s) (w : World) :
    Calls Try.prog 106 #[.agg #[.int .i64 s.1, .int .i64 s.2]] w fun e w' => e = .returned (.int .i64 0) ∧ Below w.heap.size w w' := by
  have := span_Check s w
  rw [sChk_ok h] at this
  exact this
theorem span_Check_bad {s : Int × Int} (h : ¬ okS s) (w : World) :
    Calls Try.prog 106 #[.agg #[.int .i64 s.1, .int .i64 s.2]] w fun e w' => e = .returned (.int .i64 20) ∧ Below w.heap.size w w' := by
  have := span_Check s w
  rw [sChk_bad h] at this
  exact this

structure Four (w W : World) (B : Nat) (a b c d : Value) : Prop where
  bel : Below w.heap.size w W
  lt : B < W.heap.size
  c0 : W.cell? ⟨B, 0, none⟩ = some a
  c1 : W.cell? ⟨B, 1, none⟩ = some b
  c2 : W.cell? ⟨B, 2, none⟩ = some c
  c3 : W.cell? ⟨B, 3, none⟩ = some d
theorem Four.on {w W W' : World} {B : Nat} {a b c d : Value} (h : Four w W B a b c d) (k : Below W.heap.size W W') : Four w W' B a b c d :=
  ⟨below_step h.bel k, Nat.lt_of_lt_of_le h.lt k.size, (k.cell (p := ⟨B, 0, none⟩) h.lt).trans h.c0, (k.cell (p := ⟨B, 1, none⟩) h.lt).trans h.c1, (k.cell (p := ⟨B, 2, none⟩) h.lt).trans h.c2, (k.cell (p := ⟨B, 3, none⟩) h.lt).trans h.c3⟩

set_option maxRecDepth 100000 in
set_option maxHeartbeats 1000000 in
theorem span_all2 (s t : Int × Int) (w W : World) (B : Nat) (h : Four w W B (.int .i64 s.1) (.int .i64 s.2) (.int .i64 t.1) (.int .i64 t.2)) :
    Calls Try.prog 109 #[.slice (some ⟨B, 0, none⟩) 2 2] W fun e w' => e = .returned (.int .i64 (sChk2 s t)) ∧ Below w.heap.size w w' := by
  go_enter Try.func109, Try.ntmps109
  go_wp2
  go_loopw [8] (fun i wr => ∃ k : Nat, k ≤ 2 ∧ i = .int .i64 k ∧ (1 ≤ k → okS s) ∧ (2 ≤ k → okS t) ∧ Hid (Four w wr B (.int .i64 s.1) (.int .i64 s.2) (.int .i64 t.1) (.int .i64 t.2))) (fun i _ => 2 - (intOf i).toNat)
  case atStart => exact ⟨0, by omega, rfl, by omega, by omega, Lib.hid h⟩
  case round =>
    obtain ⟨k, hk, rfl, ha, hb, HF⟩ := hrel
    have hc0 := HF.out.c0
    have hc1 := HF.out.c1
    have hc2 := HF.out.c2
    have hc3 := HF.out.c3
    rcases (by omega : k = 0 ∨ k = 1 ∨ k = 2) with rfl | rfl | rfl
    · by_cases hs : okS s
      · have H := Lib.hid hs
        clear hs ha hb
        go_wp2_with fail
        refine (span_Check_ok H.out _).mono ?_; rintro e w2 ⟨rfl, hbel⟩
        have HF2 := Lib.hid (HF.out.on (below_step (below_alloc (Below.refl _ _) _) hbel))
        clear hbel hc0 hc1 hc2 hc3
        go_wp2_with fail
        go_roundw
        case rel => exact ⟨1, by omega, rfl, fun _ => H.out, by omega, HF2⟩
        case measure => simp [intOf]
      · have H := Lib.hid hs
        clear hs ha hb
        go_wp2_with fail
        refine (span_Check_bad H.out _).mono ?_; rintro e w2 ⟨rfl, hbel⟩
        have HF2 := Lib.hid (HF.out.on (below_step (below_alloc (Below.refl _ _) _) hbel))
        clear hbel hc0 hc1 hc2 hc3
        go_wp2_with fail
        go_ret
        exact ⟨ret_int (sChk2_bad (fun g => H.out g.1)).symm, HF2.out.bel⟩
    · by_cases hs : okS t
      · have H := Lib.hid hs
        have HA := Lib.hid (ha (by omega))
        clear hs ha hb
        go_wp2_with fail
        refine (span_Check_ok H.out _).mono ?_; rintro e w2 ⟨rfl, hbel⟩
        have HF2 := Lib.hid (HF.out.on (below_step (below_alloc (Below.refl _ _) _) hbel))
        clear hbel hc0 hc1 hc2 hc3
        go_wp2_with fail
        go_roundw
        case rel => exact ⟨2, by omega, rfl, fun _ => HA.out, fun _ => H.out, HF2⟩
        case measure => simp [intOf]
      · have H := Lib.hid hs
        clear hs ha hb
        go_wp2_with fail
        refine (span_Check_bad H.out _).mono ?_; rintro e w2 ⟨rfl, hbel⟩
        have HF2 := Lib.hid (HF.out.on (below_step (below_alloc (Below.refl _ _) _) hbel))
        clear hbel hc0 hc1 hc2 hc3
        go_wp2_with fail
        go_ret
        exact ⟨ret_int (sChk2_bad (fun g => H.out g.2)).symm, HF2.out.bel⟩
    · have HA := Lib.hid (ha (by omega))
      have HB := Lib.hid (hb (by omega))
      clear ha hb
      go_wp2
      go_ret
      exact ⟨ret_int (sChk2_ok HA.out HB.out).symm, HF.out.bel⟩

theorem ret_sp {k : IntKind} {a b c : Int} {p : (Int × Int) × Int} (h : p = ((a, b), c)) : Ending.returned (.tuple #[.agg #[.int k a, .int k b], .int k c]) = .returned (.tuple #[.agg #[.int k p.1.1, .int k p.1.2], .int k p.2]) := by rw [h]

set_option maxHeartbeats 1000000 in
theorem span_told (lo hi : Int) (w : World) :
    Calls Try.prog 115 #[.int .i64 lo, .int .i64 hi] w fun e w' => e = .returned (.tuple #[.agg #[.int .i64 (sT lo hi).1.1, .int .i64 (sT lo hi).1.2], .int .i64 (sT lo hi).2]) ∧ Below w.heap.size w w' := by
  by_cases h1 : lo < -4503599627370496
  · have HR := Lib.hid (sT_bad (lo := lo) (hi := hi) (by omega))
    go_enter Try.func115, Try.ntmps115
    go_wp2
    exact bodyPost_ret (v := .tuple #[.agg #[.int .i64 0, .int .i64 0], .int .i64 6]) (by simp [results, Try.results115, go_sem]) rfl ⟨ret_sp HR.out, below_alloc (Below.refl _ _) _⟩
  · by_cases h2 : 4503599627370496 < hi
    · have HR := Lib.hid (sT_bad (lo := lo) (hi := hi) (by omega))
      go_enter Try.func115, Try.ntmps115
      go_wp2
      exact bodyPost_ret (v := .tuple #[.agg #[.int .i64 0, .int .i64 0], .int .i64 6]) (by simp [results, Try.results115, go_sem]) rfl ⟨ret_sp HR.out, below_alloc (Below.refl _ _) _⟩
    · have HR := Lib.hid (sT_ok (lo := lo) (hi := hi) (by omega) (by omega))
      go_enter Try.func115, Try.ntmps115
      go_wp2
      exact bodyPost_ret (v := .tuple #[.agg #[.int .i64 lo, .int .i64 hi], .int .i64 0]) (by simp [results, Try.results115, go_sem]) rfl ⟨ret_sp HR.out, below_alloc (Below.refl _ _) _⟩

end Go.Proofs.Ytgfofilkpaelnaa