/- Contracts of the reference of layer 2: four. -/
import Derived.Deep.QuietTactic
import Derived.BigQuiet
import Derived.Test.YtgfofilkpaelnaaRefSA
namespace Mnc
open Go
def mnK (a b c d : Int) : Nat → Int
  | 2 => min a b
  | 3 => min (min a b) c
  | 4 => min (min (min a b) c) d
  | _ => a
def mxK (a b c d : Int) : Nat → Int
  | 2 => max a b
  | 3 => max (max a b) c
  | 4 => max (max (max a b) c) d
  | _ => a
theorem mnK4 (a b c d : Int) : min (min (min a b) c) d = min4 a b c d := by unfold min4; omega
theorem mxK4 (a b c d : Int) : max (max (max a b) c) d = max4 a b c d := by unfold max4; omega
end Mnc
namespace Go.Proofs.Ytgfofilkpaelnaa
open Go.RowKit Mnc

/-- Two arrays of four numbers, and the result's box. -/
structure F4 (w W : World) (a b c d p q r s : Int) : Prop where
  bel : Below w.heap.size w W
  b0 : W.heap[w.heap.size]? = some (.cells #[.int .i64 a, .int .i64 b, .int .i64 c, .int .i64 d] 170 (0, 0))
  b1 : W.heap[w.heap.size + 1]? = some (.cells #[.int .i64 p, .int .i64 q, .int .i64 r, .int .i64 s] 170 (0, 0))
  b2 : W.heap[w.heap.size + 1 + 1]? = some (.cells #[.int .i64 0, .int .i64 0] 24 (0, 0))
theorem F4.on {w W W' : World} {a b c d p q r s : Int} (h : F4 w W a b c d p q r s) (k : Below W.heap.size W W') : F4 w W' a b c d p q r s :=
  ⟨below_step h.bel k, (k.block _ (lt_of_block h.b0)).trans h.b0, (k.block _ (lt_of_block h.b1)).trans h.b1, (k.block _ (lt_of_block h.b2)).trans h.b2⟩
theorem F4.start (w : World) (a b c d p q r s : Int) : F4 w (((w.alloc (.cells #[.int .i64 a, .int .i64 b, .int .i64 c, .int .i64 d] 170)).alloc (.cells #[.int .i64 p, .int .i64 q, .int .i64 r, .int .i64 s] 170)).alloc (.cells #[.int .i64 0, .int .i64 0] 24)) a b c d p q r s where
  bel := below_alloc (below_alloc (below_alloc (Below.refl _ _) _) _) _
  b0 := heap_up _ (heap_up _ (heap_at _ rfl))
  b1 := heap_up _ (heap_at _ (by simp))
  b2 := heap_at _ (by simp)

theorem below_drewN {B : Nat} {a w : World} (h : Below B a w) (n : Nat) : Below B a (w.drewN n) := ⟨h.os, h.tape, h.output, h.size, h.block⟩

set_option maxRecDepth 100000 in
set_option maxHeartbeats 2000000 in
theorem ref2_four (a b c d p q r s : Int) (f : Bool) (hle : f = true → min4 a b c d ≤ max4 p q r s) (w : World) :
    Calls Try.prog 153 #[.agg #[.int .i64 a, .int .i64 b, .int .i64 c, .int .i64 d], .agg #[.int .i64 p, .int .i64 q, .int .i64 r, .int .i64 s], .bool f] w fun e w' => e = .returned (.tuple #[.agg #[.int .i64 (if f then sT (min4 a b c d) (max4 p q r s) else ((0, 0), 6)).1.1, .int .i64 (if f then sT (min4 a b c d) (max4 p q r s) else ((0, 0), 6)).1.2], .int .i64 (if f then sT (min4 a b c d) (max4 p q r s) else ((0, 0), 6)).2]) ∧ Below w.heap.size w w' := by
  have hB := F4.start w a b c d p q r s
  have HLE := Lib.hid hle
  obtain ⟨res, hres⟩ : ∃ res, res = (if f then sT (min4 a b c d) (max4 p q r s) else ((0, 0), 6)) := ⟨_, rfl⟩
  rw [← hres]
  have HRES := Lib.hid hres
  clear hle hres
  go_enter Try.func153, Try.ntmps153
  go_wp2
  generalize (((w.alloc (.cells #[.int .i64 a, .int .i64 b, .int .i64 c, .int .i64 d] 170)).alloc (.cells #[.int .i64 p, .int .i64 q, .int .i64 r, .int .i64 s] 170)).alloc (.cells #[.int .i64 0, .int .i64 0] 24)) = W0 at *
  obtain ⟨c0, c1, c2, c3⟩ := cell_four hB.b0
  obtain ⟨d0, d1, d2, d3⟩ := cell_four hB.b1
  go_quiet (fail)
  have HB := Lib.hid hB
  clear hB c0 c1 c2 c3 d0 d1 d2 d3
  go_wp2
  go_loopw [8, 9, 10] (fun lo hi i wr => ∃ k : Nat, 1 ≤ k ∧ k ≤ 4 ∧ i = .int .i64 k ∧ lo = .int .i64 (mnK a b c d k) ∧ hi = .int .i64 (mxK p q r s k) ∧ Hid (F4 w wr a b c d p q r s)) (fun _ _ i _ => 4 - (intOf i).toNat)
  case atStart => exact ⟨1, by omega, by omega, rfl, rfl, rfl, Lib.hid (HB.out.on (below_drewN (Below.refl _ _) _))⟩
  case round =>
    obtain ⟨k, hk1, hk, rfl, rfl, rfl, HF⟩ := hrel
    obtain ⟨c0, c1, c2, c3⟩ := cell_four HF.out.b0
    obtain ⟨d0, d1, d2, d3⟩ := cell_four HF.out.b1
    rcases (by omega : k = 1 ∨ k = 2 ∨ k = 3 ∨ k = 4) with rfl | rfl | rfl | rfl
    all_goals dsimp only [mnK, mxK]
    · go_wp2
      go_quiet (fail)
      go_wp2
      go_roundw
      case rel => exact ⟨2, by omega, by omega, rfl, int_congr (by first | rfl | (show _ = min (min a b) c; omega) | (show _ = min (min (min a b) c) d; omega)), int_congr (by first | rfl | (show _ = max (max p q) r; omega) | (show _ = max (max (max p q) r) s; omega)), Lib.hid (HF.out.on (below_drewN (Below.refl _ _) _))⟩
      case measure => simp [intOf]
    · go_wp2
      go_quiet (fail)
      go_wp2
      go_roundw
      case rel => exact ⟨3, by omega, by omega, rfl, int_congr (by first | rfl | (show _ = min (min a b) c; omega) | (show _ = min (min (min a b) c) d; omega)), int_congr (by first | rfl | (show _ = max (max p q) r; omega) | (show _ = max (max (max p q) r) s; omega)), Lib.hid (HF.out.on (below_drewN (Below.refl _ _) _))⟩
      case measure => simp [intOf]
    · go_wp2
      go_quiet (fail)
      go_wp2
      go_roundw
      case rel => exact ⟨4, by omega, by omega, rfl, int_congr (by first | rfl | (show _ = min (min a b) c; omega) | (show _ = min (min (min a b) c) d; omega)), int_congr (by first | rfl | (show _ = max (max p q) r; omega) | (show _ = max (max (max p q) r) s; omega)), Lib.hid (HF.out.on (below_drewN (Below.refl _ _) _))⟩
      case measure => simp [intOf]
    · rw [mnK4, mxK4]
      clear c0 c1 c2 c3 d0 d1 d2 d3
      have HB2 := Lib.hid (fun W hS => (F4.on HF.out (W' := W) hS))
      generalize min4 a b c d = lo at *
      generalize max4 p q r s = hi at *
      cases f
      · go_wp2_with fail
        refine (ref2_result_no _ _ _).mono ?_; rintro e w2 ⟨rfl, hbel⟩
        have hB := HB2.out _ hbel
        clear hbel
        have c0 := cell_two0 hB.b2
        have c1 := cell_two1 hB.b2
        have f0 := free_two (i := 0) hB.b2
        have f1 := free_two (i := 1) hB.b2
        have l2 := lt_of_block hB.b2
        go_wp2_with fail
        exact bodyPost_ret (v := .tuple #[.agg #[.int .i64 0, .int .i64 0], .int .i64 6]) (by simp [results, Try.results153, go_sem, c0, c1]) rfl ⟨ret_sp (by rw [HRES.out]; rfl), below_set2 hB.bel (by omega) _ _⟩
      · go_wp2_with fail
        refine (ref2_result _ _ (HLE.out (by trivial)) _).mono ?_; rintro e w2 ⟨rfl, hbel⟩
        have hB := HB2.out _ hbel
        have HR : Hid (res = sT lo hi) := Lib.hid HRES.out
        rw [← HR.out]
        clear hbel
        have c0 := cell_two0 hB.b2
        have c1 := cell_two1 hB.b2
        have f0 := free_two (i := 0) hB.b2
        have f1 := free_two (i := 1) hB.b2
        have l2 := lt_of_block hB.b2
        go_wp2_with fail
        exact bodyPost_ret (v := .tuple #[.agg #[.int .i64 res.1.1, .int .i64 res.1.2], .int .i64 res.2]) (by simp [results, Try.results153, go_sem, c0, c1]) rfl ⟨rfl, below_set2 hB.bel (by omega) _ _⟩
end Go.Proofs.Ytgfofilkpaelnaa
