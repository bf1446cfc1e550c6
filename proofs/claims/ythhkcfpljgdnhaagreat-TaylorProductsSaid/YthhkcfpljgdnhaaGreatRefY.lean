/- Contracts of the reference of layer 2: Right, Check, result, Add, Sub, Neg, Min, Max, Hull, Meet, Abs, Of, Point, Has, Mid, Width, Sign. Printed by wip/genRS.py. -/
import Derived.Test.YthhkcfpljgdnhaaGreatSpanX
import Derived.Test.YthhkcfpljgdnhaaGreatRefX
import Derived.Deep.QuietTactic
import Derived.BigQuiet
namespace Go.Proofs.YthhkcfpljgdnhaaGreat
open Go.RowKit Mnc

set_option maxHeartbeats 400000 in
theorem ref2_Right (s : Int × Int) (w : World) :
  Calls Tryz.prog 89 #[.agg #[.int .i64 s.1, .int .i64 s.2]] w fun e w' => e = .returned (.bool (decide (okS s))) ∧ Below w.heap.size w w' := by
 obtain ⟨lo, hi⟩ := s
 by_cases h1 : ok lo
 ·have H1 := Lib.hid h1
  by_cases h2 : ok hi
  ·have H2 := Lib.hid h2
   by_cases h3 : lo ≤ hi
   ·rw [show decide (okS (lo, hi)) = true from decide_eq_true (by unfold ok at h1 h2; unfold okS; simp only; omega)]
    clear h1 h2
    go_enter Tryz.func89, Tryz.ntmps89
    go_wp2_with fail
    refine (ref1_Right_ok H1.out _).mono ?_; rintro e w2 ⟨rfl, rfl⟩
    go_wp2_with fail
    refine (ref1_Right_ok H2.out _).mono ?_; rintro e w2 ⟨rfl, rfl⟩
    go_wp2_with fail
    go_ret
    exact ⟨rfl, below_alloc (Below.refl _ _) _⟩
   ·rw [show decide (okS (lo, hi)) = false from decide_eq_false (by unfold okS; simp only; omega)]
    have h4 : decide (lo ≤ hi) = false := by simp; omega
    clear h1 h2 h3
    go_enter Tryz.func89, Tryz.ntmps89
    go_wp2_with fail
    refine (ref1_Right_ok H1.out _).mono ?_; rintro e w2 ⟨rfl, rfl⟩
    go_wp2_with fail
    refine (ref1_Right_ok H2.out _).mono ?_; rintro e w2 ⟨rfl, rfl⟩
    go_wp2_with fail
    go_ret
    exact ⟨rfl, below_alloc (Below.refl _ _) _⟩
  ·have H2 := Lib.hid h2
   rw [show decide (okS (lo, hi)) = false from decide_eq_false (fun g => h2 g.hi)]
   clear h1 h2
   go_enter Tryz.func89, Tryz.ntmps89
   go_wp2_with fail
   refine (ref1_Right_ok H1.out _).mono ?_; rintro e w2 ⟨rfl, rfl⟩
   go_wp2_with fail
   refine (ref1_Right_bad H2.out _).mono ?_; rintro e w2 ⟨rfl, rfl⟩
   go_wp2_with fail
   go_ret
   exact ⟨rfl, below_alloc (Below.refl _ _) _⟩
 ·have H1 := Lib.hid h1
  rw [show decide (okS (lo, hi)) = false from decide_eq_false (fun g => h1 g.lo)]
  clear h1
  go_enter Tryz.func89, Tryz.ntmps89
  go_wp2_with fail
  refine (ref1_Right_bad H1.out _).mono ?_; rintro e w2 ⟨rfl, rfl⟩
  go_wp2_with fail
  go_ret
  exact ⟨rfl, below_alloc (Below.refl _ _) _⟩
theorem ref2_Right_ok {s : Int × Int} (h : okS s) (w : World) :
  Calls Tryz.prog 89 #[.agg #[.int .i64 s.1, .int .i64 s.2]] w fun e w' => e = .returned (.bool true) ∧ Below w.heap.size w w' := by
 have := ref2_Right s w
 rw [decide_eq_true h] at this
 exact this
theorem ref2_Right_bad {s : Int × Int} (h : ¬ okS s) (w : World) :
  Calls Tryz.prog 89 #[.agg #[.int .i64 s.1, .int .i64 s.2]] w fun e w' => e = .returned (.bool false) ∧ Below w.heap.size w w' := by
 have := ref2_Right s w
 rw [decide_eq_false h] at this
 exact this
theorem ref2_Right_mk {x y : Int} (h : okS (x, y)) (w : World) :
  Calls Tryz.prog 89 #[.agg #[.int .i64 x, .int .i64 y]] w fun e w' => e = .returned (.bool true) ∧ Below w.heap.size w w' := ref2_Right_ok h w
theorem ref2_Right_no {x y : Int} (h : ¬ okS (x, y)) (w : World) :
  Calls Tryz.prog 89 #[.agg #[.int .i64 x, .int .i64 y]] w fun e w' => e = .returned (.bool false) ∧ Below w.heap.size w w' := ref2_Right_bad h w

theorem ref2_Check (s : Int × Int) (w : World) :
  Calls Tryz.prog 92 #[.agg #[.int .i64 s.1, .int .i64 s.2]] w fun e w' => e = .returned (.int .i64 (sChk s)) ∧ Below w.heap.size w w' := by
 by_cases h : okS s
 ·have H := Lib.hid h
  rw [sChk_ok h]
  clear h
  go_enter Tryz.func92, Tryz.ntmps92
  go_wp2_with fail
  refine (ref2_Right_ok H.out _).mono ?_; rintro e w2 ⟨rfl, hbel⟩
  have hb := below_step (below_alloc (Below.refl _ _) _) hbel
  clear hbel
  go_wp2_with fail
  go_ret
  exact ⟨rfl, hb⟩
 ·have H := Lib.hid h
  rw [sChk_bad h]
  clear h
  go_enter Tryz.func92, Tryz.ntmps92
  go_wp2_with fail
  refine (ref2_Right_bad H.out _).mono ?_; rintro e w2 ⟨rfl, hbel⟩
  have hb := below_step (below_alloc (Below.refl _ _) _) hbel
  clear hbel
  go_wp2_with fail
  go_ret
  exact ⟨rfl, hb⟩

/-- Where two blocks of one interval stand. -/
theorem two_start (w : World) (a b c d : Int) : Bx2 w ((w.alloc (.cells #[.int .i64 a, .int .i64 b] 31)).alloc (.cells #[.int .i64 c, .int .i64 d] 31)) (a, b) (c, d) := Bx2.start w (a, b) (c, d)

set_option maxHeartbeats 1000000 in
theorem ref2_result (lo hi : Int) (hle : lo ≤ hi) (w : World) :
  Calls Tryz.prog 99 #[.int .i64 lo, .int .i64 hi, .bool true] w fun e w' => e = .returned (.tuple #[.agg #[.int .i64 (sT lo hi).1.1, .int .i64 (sT lo hi).1.2], .int .i64 (sT lo hi).2]) ∧ Below w.heap.size w w' := by
 have hB := two_start w 0 0 lo hi
 by_cases h : okS (lo, hi)
 ·have H := Lib.hid h
  have HR := Lib.hid (sT_ok h.1 h.2.2)
  clear h hle
  go_enter Tryz.func99, Tryz.ntmps99
  go_wp2_with fail
  refine (ref2_Right_mk H.out _).mono ?_; rintro e w2 ⟨rfl, hbel⟩
  have hB := hB.on hbel
  clear hbel
  have c0 := cell_two0 hB.b0
  have c1 := cell_two1 hB.b0
  have d0 := cell_two0 hB.b1
  have d1 := cell_two1 hB.b1
  have f0 := free_two (i := 0) hB.b0
  have f1 := free_two (i := 1) hB.b0
  have l2 := lt_of_block hB.b0
  go_wp2_with fail
  exact bodyPost_ret (v := .tuple #[.agg #[.int .i64 lo, .int .i64 hi], .int .i64 0]) (by simp [results, Tryz.results99, go_sem, c0, c1]) rfl ⟨ret_sp HR.out, below_set2 hB.bel (by omega) _ _⟩
 ·have H := Lib.hid h
  have HR := Lib.hid (sT_bad (lo := lo) (hi := hi) (fun g => h ⟨g.1, hle, g.2⟩))
  clear h hle
  go_enter Tryz.func99, Tryz.ntmps99
  go_wp2_with fail
  refine (ref2_Right_no H.out _).mono ?_; rintro e w2 ⟨rfl, hbel⟩
  have hB := hB.on hbel
  clear hbel
  have c0 := cell_two0 hB.b0
  have c1 := cell_two1 hB.b0
  have f0 := free_two (i := 0) hB.b0
  have f1 := free_two (i := 1) hB.b0
  have l2 := lt_of_block hB.b0
  go_wp2_with fail
  exact bodyPost_ret (v := .tuple #[.agg #[.int .i64 0, .int .i64 0], .int .i64 6]) (by simp [results, Tryz.results99, go_sem, c0, c1]) rfl ⟨ret_sp HR.out, below_set2 hB.bel (by omega) _ _⟩
theorem ref2_result_no (lo hi : Int) (w : World) :
  Calls Tryz.prog 99 #[.int .i64 lo, .int .i64 hi, .bool false] w fun e w' => e = .returned (.tuple #[.agg #[.int .i64 0, .int .i64 0], .int .i64 6]) ∧ Below w.heap.size w w' := by
 go_enter Tryz.func99, Tryz.ntmps99
 go_wp2_with fail
 exact bodyPost_ret (v := .tuple #[.agg #[.int .i64 0, .int .i64 0], .int .i64 6]) (by simp [results, Tryz.results99, go_sem]) rfl ⟨rfl, below_alloc (below_alloc (Below.refl _ _) _) _⟩

set_option maxHeartbeats 1000000 in
theorem ref2_Add (s t : Int × Int) (w : World) :
  Calls Tryz.prog 82 #[.agg #[.int .i64 s.1, .int .i64 s.2], .agg #[.int .i64 t.1, .int .i64 t.2]] w fun e w' => e = .returned (.tuple #[.agg #[.int .i64 (sAdd s t).1.1, .int .i64 (sAdd s t).1.2], .int .i64 (sAdd s t).2]) ∧ Below w.heap.size w w' := by
 have hB := Bx3.start w s t
 by_cases hs : okS s
 ·by_cases ht : okS t
  ·have HS := Lib.hid hs
   have HT := Lib.hid ht
   have HR := Lib.hid (show sAdd s t = sT (s.1 + t.1) (s.2 + t.2) from on2_ok hs ht)
   have hle : s.1 + t.1 ≤ s.2 + t.2 := by unfold okS at hs ht; omega
   obtain ⟨s1, s2, s3⟩ := hs
   obtain ⟨t1, t2, t3⟩ := ht
   go_enter Tryz.func82, Tryz.ntmps82
   go_wp2_with fail
   refine (ref2_Right_ok HS.out _).mono ?_; rintro e w2 ⟨rfl, hbel⟩
   have hB := hB.on hbel
   clear hbel
   have a0 := cell_two0 hB.b0
   have a1 := cell_two1 hB.b0
   have b0 := cell_two0 hB.b1
   have b1 := cell_two1 hB.b1
   go_wp2_with fail
   refine (ref2_Right_ok HT.out _).mono ?_; rintro e w3 ⟨rfl, hbel⟩
   have hB := hB.on hbel
   clear hbel a0 a1 b0 b1
   have a0 := cell_two0 hB.b0
   have a1 := cell_two1 hB.b0
   have b0 := cell_two0 hB.b1
   have b1 := cell_two1 hB.b1
   go_wp2_with fail
   refine (ref2_result _ _ hle _).mono ?_; rintro e w4 ⟨rfl, hbel⟩
   rw [← HR.out]
   have hB := hB.on hbel
   clear hbel a0 a1 b0 b1
   have c0 := cell_two0 hB.b2
   have c1 := cell_two1 hB.b2
   have f0 := free_two (i := 0) hB.b2
   have f1 := free_two (i := 1) hB.b2
   have l2 := lt_of_block hB.b2
   go_wp2_with fail
   exact bodyPost_ret (v := .tuple #[.agg #[.int .i64 (sAdd s t).1.1, .int .i64 (sAdd s t).1.2], .int .i64 (sAdd s t).2]) (by simp [results, Tryz.results82, go_sem, c0, c1]) rfl ⟨rfl, below_set2 hB.bel (by omega) _ _⟩
  ·have HS := Lib.hid hs
   have HT := Lib.hid ht
   have HR := Lib.hid (show sAdd s t = ((0, 0), 20) from on2_bad (fun g => ht g.2))
   clear hs ht
   go_enter Tryz.func82, Tryz.ntmps82
   go_wp2_with fail
   refine (ref2_Right_ok HS.out _).mono ?_; rintro e w2 ⟨rfl, hbel⟩
   have hB := hB.on hbel
   clear hbel
   have a0 := cell_two0 hB.b0
   have a1 := cell_two1 hB.b0
   have b0 := cell_two0 hB.b1
   have b1 := cell_two1 hB.b1
   go_wp2_with fail
   refine (ref2_Right_bad HT.out _).mono ?_; rintro e w3 ⟨rfl, hbel⟩
   have hB := hB.on hbel
   clear hbel a0 a1 b0 b1
   have c0 := cell_two0 hB.b2
   have c1 := cell_two1 hB.b2
   have f0 := free_two (i := 0) hB.b2
   have f1 := free_two (i := 1) hB.b2
   have l2 := lt_of_block hB.b2
   go_wp2_with fail
   exact bodyPost_ret (v := .tuple #[.agg #[.int .i64 0, .int .i64 0], .int .i64 20]) (by simp [results, Tryz.results82, go_sem, c0, c1]) rfl ⟨ret_sp HR.out, below_set2 hB.bel (by omega) _ _⟩
 ·have HS := Lib.hid hs
  have HR := Lib.hid (show sAdd s t = ((0, 0), 20) from on2_bad (fun g => hs g.1))
  clear hs
  go_enter Tryz.func82, Tryz.ntmps82
  go_wp2_with fail
  refine (ref2_Right_bad HS.out _).mono ?_; rintro e w2 ⟨rfl, hbel⟩
  have hB := hB.on hbel
  clear hbel
  have c0 := cell_two0 hB.b2
  have c1 := cell_two1 hB.b2
  have f0 := free_two (i := 0) hB.b2
  have f1 := free_two (i := 1) hB.b2
  have l2 := lt_of_block hB.b2
  go_wp2_with fail
  exact bodyPost_ret (v := .tuple #[.agg #[.int .i64 0, .int .i64 0], .int .i64 20]) (by simp [results, Tryz.results82, go_sem, c0, c1]) rfl ⟨ret_sp HR.out, below_set2 hB.bel (by omega) _ _⟩

end Go.Proofs.YthhkcfpljgdnhaaGreat

/- Contracts of the reference of layer 2: four. -/
namespace Mnc
open Go
def mnK (a b c d : Int) : Nat → Int
 | 2 => min a b
 | 3 => min (min a b) c
 | 4 => min (min (min a b) c) d
 | _ => a
def mxK (a b c d : Int) : Nat → Int
 | 2 => max a b
 | 3 => max (max a b) c
 | 4 => max (max (max a b) c) d
 | _ => a
theorem mnK4 (a b c d : Int) : min (min (min a b) c) d = min4 a b c d := by unfold min4; omega
theorem mxK4 (a b c d : Int) : max (max (max a b) c) d = max4 a b c d := by unfold max4; omega
end Mnc
namespace Go.Proofs.YthhkcfpljgdnhaaGreat
open Go.RowKit Mnc

/-- Two arrays of four numbers, and the result's box. -/
structure F4 (w W : World) (a b c d p q r s : Int) : Prop where
 bel : Below w.heap.size w W
 b0 : W.heap[w.heap.size]? = some (.cells #[.int .i64 a, .int .i64 b, .int .i64 c, .int .i64 d] 123 (0, 0))
 b1 : W.heap[w.heap.size + 1]? = some (.cells #[.int .i64 p, .int .i64 q, .int .i64 r, .int .i64 s] 123 (0, 0))
 b2 : W.heap[w.heap.size + 1 + 1]? = some (.cells #[.int .i64 0, .int .i64 0] 31 (0, 0))
theorem F4.on {w W W' : World} {a b c d p q r s : Int} (h : F4 w W a b c d p q r s) (k : Below W.heap.size W W') : F4 w W' a b c d p q r s :=
 ⟨below_step h.bel k, (k.block _ (lt_of_block h.b0)).trans h.b0, (k.block _ (lt_of_block h.b1)).trans h.b1, (k.block _ (lt_of_block h.b2)).trans h.b2⟩
theorem F4.start (w : World) (a b c d p q r s : Int) : F4 w (((w.alloc (.cells #[.int .i64 a, .int .i64 b, .int .i64 c, .int .i64 d] 123)).alloc (.cells #[.int .i64 p, .int .i64 q, .int .i64 r, .int .i64 s] 123)).alloc (.cells #[.int .i64 0, .int .i64 0] 31)) a b c d p q r s where
 bel := below_alloc (below_alloc (below_alloc (Below.refl _ _) _) _) _
 b0 := heap_up _ (heap_up _ (heap_at _ rfl))
 b1 := heap_up _ (heap_at _ (by simp))
 b2 := heap_at _ (by simp)

theorem below_drewN {B : Nat} {a w : World} (h : Below B a w) (n : Nat) : Below B a (w.drewN n) := ⟨h.os, h.tape, h.output, h.size, h.block⟩

set_option maxRecDepth 100000 in
set_option maxHeartbeats 2000000 in
theorem ref2_four (a b c d p q r s : Int) (f : Bool) (hle : f = true → min4 a b c d ≤ max4 p q r s) (w : World) :
  Calls Tryz.prog 101 #[.agg #[.int .i64 a, .int .i64 b, .int .i64 c, .int .i64 d], .agg #[.int .i64 p, .int .i64 q, .int .i64 r, .int .i64 s], .bool f] w fun e w' => e = .returned (.tuple #[.agg #[.int .i64 (if f then sT (min4 a b c d) (max4 p q r s) else ((0, 0), 6)).1.1, .int .i64 (if f then sT (min4 a b c d) (max4 p q r s) else ((0, 0), 6)).1.2], .int .i64 (if f then sT (min4 a b c d) (max4 p q r s) else ((0, 0), 6)).2]) ∧ Below w.heap.size w w' := by
 have hB := F4.start w a b c d p q r s
 have HLE := Lib.hid hle
 obtain ⟨res, hres⟩ : ∃ res, res = (if f then sT (min4 a b c d) (max4 p q r s) else ((0, 0), 6)) := ⟨_, rfl⟩
 rw [← hres]
 have HRES := Lib.hid hres
 clear hle hres
 go_enter Tryz.func101, Tryz.ntmps101
 go_wp2
 generalize (((w.alloc (.cells #[.int .i64 a, .int .i64 b, .int .i64 c, .int .i64 d] 123)).alloc (.cells #[.int .i64 p, .int .i64 q, .int .i64 r, .int .i64 s] 123)).alloc (.cells #[.int .i64 0, .int .i64 0] 31)) = W0 at *
 obtain ⟨c0, c1, c2, c3⟩ := cell_four hB.b0
 obtain ⟨d0, d1, d2, d3⟩ := cell_four hB.b1
 go_quiet (fail)
 have HB := Lib.hid hB
 clear hB c0 c1 c2 c3 d0 d1 d2 d3
 go_wp2
 go_loopw [8, 9, 10] (fun lo hi i wr => ∃ k : Nat, 1 ≤ k ∧ k ≤ 4 ∧ i = .int .i64 k ∧ lo = .int .i64 (mnK a b c d k) ∧ hi = .int .i64 (mxK p q r s k) ∧ Hid (F4 w wr a b c d p q r s)) (fun _ _ i _ => 4 - (intOf i).toNat)
 case atStart => exact ⟨1, by omega, by omega, rfl, rfl, rfl, Lib.hid (HB.out.on (below_drewN (Below.refl _ _) _))⟩
 case round =>
  obtain ⟨k, hk1, hk, rfl, rfl, rfl, HF⟩ := hrel
  obtain ⟨c0, c1, c2, c3⟩ := cell_four HF.out.b0
  obtain ⟨d0, d1, d2, d3⟩ := cell_four HF.out.b1
  rcases (by omega : k = 1 ∨ k = 2 ∨ k = 3 ∨ k = 4) with rfl | rfl | rfl | rfl
  all_goals dsimp only [mnK, mxK]
  ·go_wp2
   go_quiet (fail)
   go_wp2
   go_roundw
   case rel => exact ⟨2, by omega, by omega, rfl, int_congr (by first | rfl | (show _ = min (min a b) c; omega) | (show _ = min (min (min a b) c) d; omega)), int_congr (by first | rfl | (show _ = max (max p q) r; omega) | (show _ = max (max (max p q) r) s; omega)), Lib.hid (HF.out.on (below_drewN (Below.refl _ _) _))⟩
   case measure => simp [intOf]
  ·go_wp2
   go_quiet (fail)
   go_wp2
   go_roundw
   case rel => exact ⟨3, by omega, by omega, rfl, int_congr (by first | rfl | (show _ = min (min a b) c; omega) | (show _ = min (min (min a b) c) d; omega)), int_congr (by first | rfl | (show _ = max (max p q) r; omega) | (show _ = max (max (max p q) r) s; omega)), Lib.hid (HF.out.on (below_drewN (Below.refl _ _) _))⟩
   case measure => simp [intOf]
  ·go_wp2
   go_quiet (fail)
   go_wp2
   go_roundw
   case rel => exact ⟨4, by omega, by omega, rfl, int_congr (by first | rfl | (show _ = min (min a b) c; omega) | (show _ = min (min (min a b) c) d; omega)), int_congr (by first | rfl | (show _ = max (max p q) r; omega) | (show _ = max (max (max p q) r) s; omega)), Lib.hid (HF.out.on (below_drewN (Below.refl _ _) _))⟩
   case measure => simp [intOf]
  ·rw [mnK4, mxK4]
   clear c0 c1 c2 c3 d0 d1 d2 d3
   have HB2 := Lib.hid (fun W hS => (F4.on HF.out (W' := W) hS))
   generalize min4 a b c d = lo at *
   generalize max4 p q r s = hi at *
   cases f
   ·go_wp2_with fail
    refine (ref2_result_no _ _ _).mono ?_; rintro e w2 ⟨rfl, hbel⟩
    have hB := HB2.out _ hbel
    clear hbel
    have c0 := cell_two0 hB.b2
    have c1 := cell_two1 hB.b2
    have f0 := free_two (i := 0) hB.b2
    have f1 := free_two (i := 1) hB.b2
    have l2 := lt_of_block hB.b2
    go_wp2_with fail
    exact bodyPost_ret (v := .tuple #[.agg #[.int .i64 0, .int .i64 0], .int .i64 6]) (by simp [results, Tryz.results101, go_sem, c0, c1]) rfl ⟨ret_sp (by rw [HRES.out]; rfl), below_set2 hB.bel (by omega) _ _⟩
   ·go_wp2_with fail
    refine (ref2_result _ _ (HLE.out (by trivial)) _).mono ?_; rintro e w2 ⟨rfl, hbel⟩
    have hB := HB2.out _ hbel
    have HR : Hid (res = sT lo hi) := Lib.hid HRES.out
    rw [← HR.out]
    clear hbel
    have c0 := cell_two0 hB.b2
    have c1 := cell_two1 hB.b2
    have f0 := free_two (i := 0) hB.b2
    have f1 := free_two (i := 1) hB.b2
    have l2 := lt_of_block hB.b2
    go_wp2_with fail
    exact bodyPost_ret (v := .tuple #[.agg #[.int .i64 res.1.1, .int .i64 res.1.2], .int .i64 res.2]) (by simp [results, Tryz.results101, go_sem, c0, c1]) rfl ⟨rfl, below_set2 hB.bel (by omega) _ _⟩
end Go.Proofs.YthhkcfpljgdnhaaGreat

/- Contracts of the drafts of intervals: Small, Span. -/
namespace Mnc
open Go
end Mnc
namespace Go.Proofs.YthhkcfpljgdnhaaGreat
open Go.RowKit Mnc

end Go.Proofs.YthhkcfpljgdnhaaGreat
