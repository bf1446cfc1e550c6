/- The reference of layer 21: the walk of TaylorProducts. Printed by wip/genSU.py. -/
import Derived.Test.YthhkcfpljgdnhaaGreatLawYW
import Derived.Test.YthhkcfpljgdnhaaGreatLawYP
import Derived.Test.YthhkcfpljgdnhaaGreatRefTJ
import Derived.Test.YthhkcfpljgdnhaaGreatTayEq
namespace Go.Proofs.YthhkcfpljgdnhaaGreat
open Go.RowKit Mnc
attribute [local go_sem] RunSP_value RunSP_skip RunSP_enter evS_tmp evS_const evS_global evS_func
theorem bin_neS (x y : Int × Int) (w : World) : (binOp .neq 31 (sval x) (sval y)).run Tryz.prog w = .ok (.bool (!decide (x = y))) w := by
 have h := eqlSpan x y w
 have e : decide (x = y) = (decide (x.1 = y.1) && decide (x.2 = y.2)) := by
  rw [Bool.eq_iff_iff]
  simp only [Bool.and_eq_true, decide_eq_true_eq]
  exact Prod.ext_iff
 unfold sval at h ⊢
 rw [e] at h ⊢
 have hb : (binOp .neq 31 (.agg #[.int .i64 x.1, .int .i64 x.2]) (.agg #[.int .i64 y.1, .int .i64 y.2])) = (do let b ← Op.equalIn 10000 31 (.agg #[.int .i64 x.1, .int .i64 x.2]) (.agg #[.int .i64 y.1, .int .i64 y.2]); pure (.bool !b)) := rfl
 rw [hb]
 simp only [Sem.run_bind, h, Result.andThen_ok, Sem.run_pure]
theorem guard_neS (a c : Int × Int) (x y : Operand) (w : World) : (eqGuard .neq 31 x y (sval a) (sval c)).run Tryz.prog w = .ok () w := by
 have h : Tryz.prog.eqGuardType Tryz.prog.depth 31 = false := by kernel_rfl
 unfold sval eqGuard
 simp [go_sem, h]
theorem pMul {a d : List (Int × Int)} (ha : a.length = 22) (hd : d.length = 22) {Y : List (Int × Int) × Int} (h : xMul a d = Y) (w : World) : Calls Tryz.prog 8 #[mval a, mval d] w fun e w' => e = .returned (.tuple #[mval Y.1, .int .i64 Y.2]) ∧ Below w.heap.size w w' := by
 subst h
 exact taw_Mul a d ha hd w
theorem qMul {a d : List (Int × Int)} (ha : a.length = 22) (hd : d.length = 22) {Y : List (Int × Int) × Int} (h : xMul a d = Y) (w : World) : Calls Tryz.prog 9 #[mval a, mval d] w fun e w' => e = .returned (.tuple #[mval Y.1, .int .i64 Y.2]) ∧ Below w.heap.size w w' := by
 subst h
 exact rf_Mul a d ha hd w
theorem pBound {a : List (Int × Int)} (ha : a.length = 22) {Y : (Int × Int) × Int} (h : xBound a = Y) (w : World) : Calls Tryz.prog 10 #[mval a] w fun e w' => e = .returned (.tuple #[sval Y.1, .int .i64 Y.2]) ∧ Below w.heap.size w w' := by
 subst h
 exact taw_Bound a ha w
theorem qBound {a : List (Int × Int)} (ha : a.length = 22) {Y : (Int × Int) × Int} (h : xBound a = Y) (w : World) : Calls Tryz.prog 11 #[mval a] w fun e w' => e = .returned (.tuple #[sval Y.1, .int .i64 Y.2]) ∧ Below w.heap.size w w' := by
 subst h
 exact rf_Bound a ha w
structure Wp1 (V : World) (L : Nat → Bool) (s : Nat → Value) (w : World) : Prop where
 mu : Mut [] V w
 e0 : L 0 = true → s 17 = .bool true
 e1 : L 1 = true → s 18 = .bool false
structure Wp3 (V : World) (c : Int) (r : Int) (ts : List Tm) (ao : Option Addr) (cap : Nat) (c2 : Int) (r2 : Int) (ts2 : List Tm) (ao2 : Option Addr) (cap2 : Nat) (p : Int) (lo : Int) (hi : Int) (AA : List (Int × Int)) (L : Nat → Bool) (s : Nat → Value) (w : World) : Prop where
 mu : Mut [] V w
 e0 : L 0 = true → s 19 = .agg #[.int .i16 c, .slice ao ts.length cap, .int .u16 r]
 e1 : L 1 = true → s 20 = .agg #[.int .i16 c2, .slice ao2 ts2.length cap2, .int .u16 r2]
 e2 : L 2 = true → s 21 = .agg #[.int .u8 p, .int .i64 lo, .int .i64 hi]
 e3 : L 3 = true → s 22 = mval AA
 e4 : L 4 = true → s 23 = .int .i64 ((0 : Nat) : Int)
structure Wp5 (V : World) (X1 : List (Int × Int)) (X2 : List (Int × Int)) (L : Nat → Bool) (s : Nat → Value) (w : World) : Prop where
 mu : Mut [] V w
 e0 : L 0 = true → s 25 = mval (X1 ++ X2)
 al_x : L 1 = true → ∃ g : Nat, s 8 = .pointer (some ⟨g, 0, none⟩) ∧ V.heap.size ≤ g ∧ g < w.heap.size ∧ (L 2 = false → w.heap[g]? = some (cobj 35 (List.replicate 44 (0, 0)))) ∧ (L 2 = true → w.heap[g]? = some (cobj 35 (X1 ++ X2)))
 b2_1 : L 2 = true → L 1 = true
structure Wp6 (V : World) (X1 : List (Int × Int)) (X2 : List (Int × Int)) (Y : List (Int × Int) × Int) (g0 : Nat) (L : Nat → Bool) (s : Nat → Value) (w : World) : Prop where
 mu : Mut [] V w
 e0 : L 0 = true → s 27 = .pointer (some ⟨g0, 0, none⟩)
 e1 : L 1 = true → s 28 = mval X1
 e2 : L 2 = true → s 29 = .pointer (some ⟨g0, 44, none⟩)
 e3 : L 3 = true → s 30 = mval X2
 e4 : L 4 = true → s 31 = .tuple #[mval Y.1, .int .i64 Y.2]
 e5 : L 5 = true → s 26 = .tuple #[mval Y.1, .int .i64 Y.2]
 e6 : L 6 = true → s 32 = mval Y.1
 e7 : L 7 = true → s 33 = .int .i64 Y.2
 al_a : L 8 = true → ∃ g : Nat, s 9 = .pointer (some ⟨g, 0, none⟩) ∧ V.heap.size ≤ g ∧ g < w.heap.size ∧ (L 9 = false → w.heap[g]? = some (cobj 34 zeroM)) ∧ (L 9 = true → w.heap[g]? = some (cobj 34 Y.1))
 e10 : L 10 = true → s 10 = .int .i64 Y.2
 b9_8 : L 9 = true → L 8 = true
structure Wp7 (V : World) (X1 : List (Int × Int)) (X2 : List (Int × Int)) (Y : List (Int × Int) × Int) (g0 : Nat) (L : Nat → Bool) (s : Nat → Value) (w : World) : Prop where
 mu : Mut [] V w
 e0 : L 0 = true → s 35 = .pointer (some ⟨g0, 0, none⟩)
 e1 : L 1 = true → s 36 = mval X1
 e2 : L 2 = true → s 37 = .pointer (some ⟨g0, 44, none⟩)
 e3 : L 3 = true → s 38 = mval X2
 e4 : L 4 = true → s 39 = .tuple #[mval Y.1, .int .i64 Y.2]
 e5 : L 5 = true → s 34 = .tuple #[mval Y.1, .int .i64 Y.2]
 e6 : L 6 = true → s 40 = mval Y.1
 e7 : L 7 = true → s 41 = .int .i64 Y.2
 al_cc : L 8 = true → ∃ g : Nat, s 11 = .pointer (some ⟨g, 0, none⟩) ∧ V.heap.size ≤ g ∧ g < w.heap.size ∧ (L 9 = false → w.heap[g]? = some (cobj 34 zeroM)) ∧ (L 9 = true → w.heap[g]? = some (cobj 34 Y.1))
 e10 : L 10 = true → s 12 = .int .i64 Y.2
 b9_8 : L 9 = true → L 8 = true
structure Wp8 (V : World) (X1 : List (Int × Int)) (Z : (Int × Int) × Int) (g0 : Nat) (L : Nat → Bool) (s : Nat → Value) (w : World) : Prop where
 mu : Mut [] V w
 e0 : L 0 = true → s 43 = .pointer (some ⟨g0, 0, none⟩)
 e1 : L 1 = true → s 44 = mval X1
 e2 : L 2 = true → s 45 = .tuple #[sval Z.1, .int .i64 Z.2]
 e3 : L 3 = true → s 42 = .tuple #[sval Z.1, .int .i64 Z.2]
 e4 : L 4 = true → s 46 = sval Z.1
 e5 : L 5 = true → s 47 = .int .i64 Z.2
 al_s : L 6 = true → ∃ g : Nat, s 13 = .pointer (some ⟨g, 0, none⟩) ∧ V.heap.size ≤ g ∧ g < w.heap.size ∧ (L 7 = false → w.heap[g]? = some (cobj 31 [(0, 0)])) ∧ (L 7 = true → w.heap[g]? = some (cobj 31 [Z.1]))
 e8 : L 8 = true → s 14 = .int .i64 Z.2
 b7_6 : L 7 = true → L 6 = true
structure Wp9 (V : World) (X1 : List (Int × Int)) (Z : (Int × Int) × Int) (g0 : Nat) (L : Nat → Bool) (s : Nat → Value) (w : World) : Prop where
 mu : Mut [] V w
 e0 : L 0 = true → s 49 = .pointer (some ⟨g0, 0, none⟩)
 e1 : L 1 = true → s 50 = mval X1
 e2 : L 2 = true → s 51 = .tuple #[sval Z.1, .int .i64 Z.2]
 e3 : L 3 = true → s 48 = .tuple #[sval Z.1, .int .i64 Z.2]
 e4 : L 4 = true → s 52 = sval Z.1
 e5 : L 5 = true → s 53 = .int .i64 Z.2
 al_t : L 6 = true → ∃ g : Nat, s 15 = .pointer (some ⟨g, 0, none⟩) ∧ V.heap.size ≤ g ∧ g < w.heap.size ∧ (L 7 = false → w.heap[g]? = some (cobj 31 [(0, 0)])) ∧ (L 7 = true → w.heap[g]? = some (cobj 31 [Z.1]))
 e8 : L 8 = true → s 16 = .int .i64 Z.2
 b7_6 : L 7 = true → L 6 = true
structure Wp10 (V : World) (Y : List (Int × Int) × Int) (Z : (Int × Int) × Int) (L : Nat → Bool) (s : Nat → Value) (w : World) : Prop where
 mu : Mut [] V w
 e0 : L 0 = true → s 54 = mval Y.1
 e1 : L 1 = true → s 55 = .int .i64 Y.2
 e2 : L 2 = true → s 56 = mval Y.1
 e3 : L 3 = true → s 57 = .int .i64 Y.2
 e4 : L 4 = true → s 58 = .bool true
 e5 : L 5 = true → s 59 = .bool false
 e6 : L 6 = true → s 60 = .bool false
 e7 : L 7 = true → s 61 = sval Z.1
 e8 : L 8 = true → s 62 = sval Z.1
 e9 : L 9 = true → s 63 = .bool false
 e10 : L 10 = true → s 64 = .bool false
 e11 : L 11 = true → s 65 = .bool false
 e12 : L 12 = true → s 66 = .int .i64 Z.2
 e13 : L 13 = true → s 67 = .int .i64 Z.2
 e14 : L 14 = true → s 68 = .bool false
 e15 : L 15 = true → s 69 = .bool false
set_option maxRecDepth 100000 in
set_option maxHeartbeats 8000000 in
theorem taylorProducts_walk (c r : Int) (ts : List Tm) (ao : Option Addr) (cap : Nat) (c2 r2 : Int) (ts2 : List Tm) (ao2 : Option Addr) (cap2 : Nat) (p lo hi : Int) (hy : (-32768 ≤ c ∧ c ≤ 32767) ∧ (0 ≤ r ∧ r ≤ 65535) ∧ (-32768 ≤ c2 ∧ c2 ≤ 32767) ∧ (0 ≤ r2 ∧ r2 ≤ 65535) ∧ 0 ≤ p ∧ p ≤ 255) (w : World) (ht : TmSl w ao cap ts) (ht2 : TmSl w ao2 cap2 ts2) :
  Calls Tryz.prog 3 #[.agg #[.int .i16 c, .slice ao ts.length cap, .int .u16 r], .agg #[.int .i16 c2, .slice ao2 ts2.length cap2, .int .u16 r2], .agg #[.int .u8 p, .int .i64 lo, .int .i64 hi]] w fun e w' => e = .returned (.bool true) ∧ Below w.heap.size w w' := by
 have HY := lh hy
 have HT := lh ht
 have HT2 := lh ht2
 clear hy ht ht2
 obtain ⟨M1, hM1⟩ : ∃ x, dModel c ts r = x := ⟨_, rfl⟩
 have HLM1 := lh (show M1.length = 22 by rw [← hM1]; exact dModel_len _ _ _)
 have HEM1 := lh hM1
 obtain ⟨M2, hM2⟩ : ∃ x, dModel c2 ts2 r2 = x := ⟨_, rfl⟩
 have HLM2 := lh (show M2.length = 22 by rw [← hM2]; exact dModel_len _ _ _)
 have HEM2 := lh hM2
 obtain ⟨B1, hB1⟩ : ∃ x, bendOf p (lo, hi) (dModel c ts r) = x := ⟨_, rfl⟩
 have HLB1 := lh (show B1.length = 22 by rw [← hB1]; exact (bendOf_len p (lo, hi) (dModel c ts r)).trans (dModel_len _ _ _))
 have HEB1 := lh hB1
 obtain ⟨B2, hB2⟩ : ∃ x, bendOf p (lo, hi) (dModel c2 ts2 r2) = x := ⟨_, rfl⟩
 have HLB2 := lh (show B2.length = 22 by rw [← hB2]; exact (bendOf_len p (lo, hi) (dModel c2 ts2 r2)).trans (dModel_len _ _ _))
 have HEB2 := lh hB2
 obtain ⟨N1, hN1⟩ : ∃ x, dNear c ts r = x := ⟨_, rfl⟩
 have HLN1 := lh (show N1.length = 22 by rw [← hN1]; exact dNear_len _ _ _)
 have HEN1 := lh hN1
 obtain ⟨N2, hN2⟩ : ∃ x, dNear c2 ts2 r2 = x := ⟨_, rfl⟩
 have HLN2 := lh (show N2.length = 22 by rw [← hN2]; exact dNear_len _ _ _)
 have HEN2 := lh hN2
 have HPV := lh (show (dModel c ts r) ++ (dModel c2 ts2 r2) ++ (bendOf p (lo, hi) (dModel c ts r)) ++ (dModel c2 ts2 r2) ++ (dModel c ts r) ++ (bendOf p (lo, hi) (dModel c2 ts2 r2)) ++ (dNear c ts r) ++ (dNear c2 ts2 r2) = M1 ++ M2 ++ B1 ++ M2 ++ M1 ++ B2 ++ N1 ++ N2 by rw [hB1, hB2, hN1, hN2, hM1, hM2])
 clear hM1 hM2 hB1 hB2 hN1 hN2
 obtain ⟨AA, hAA⟩ : ∃ AA, M1 ++ M2 ++ B1 ++ M2 ++ M1 ++ B2 ++ N1 ++ N2 = AA := ⟨_, rfl⟩
 rw [hAA] at HPV
 have HAA := lh hAA
 clear hAA
 go_enter Tryz.func3, Tryz.ntmps3
 refine wsk fun K0 HK0 => ?_
 go_wp2_with fail
 obtain ⟨b, hb⟩ : ∃ b, w.heap.size = b := ⟨_, rfl⟩
 refine HK0.out _ _ ?_
 refine wp_world (fun V => Mut [] w V ∧ V.heap[b]? = some (.cells #[.int .i16 c, .slice ao ts.length cap, .int .u16 r] 26 (0, 0)) ∧ V.heap[b + 1]? = some (.cells #[.int .i16 c2, .slice ao2 ts2.length cap2, .int .u16 r2] 26 (0, 0)) ∧ V.heap[b + 1 + 1]? = some (.cells #[.int .u8 p, .int .i64 lo, .int .i64 hi] 28 (0, 0))) ?_
  (by
   rw [← hb]
   exact ⟨((((Mut.refl _ _).alloc _).alloc _).alloc _), heap_up _ (heap_up _ (heap_at (.cells #[.int .i16 c, .slice ao ts.length cap, .int .u16 r] 26 (0, 0)) (by simp))), heap_up _ (heap_at (.cells #[.int .i16 c2, .slice ao2 ts2.length cap2, .int .u16 r2] 26 (0, 0)) (by simp)), heap_at (.cells #[.int .u8 p, .int .i64 lo, .int .i64 hi] 28 (0, 0)) (by simp)⟩)
 rintro V ⟨hm, hHD, hHD2, hHQ⟩
 rw [hb]
 have HM := lh hm
 have HBW := lh hb
 have HLT := lh trivial
 have HD := lh hHD
 have HD2 := lh hHD2
 have HQ := lh hHQ
 clear hm hHD hHD2 hHQ hb HK0
 refine wsk fun KA HKA => ?_
 refine wsk fun K1 HK1 => ?_
 refine wp_cut_mergeP (n8 (n8 (nn :: some 17 :: some 18 :: n8 (n8 (n8 (n8 (n8 (n8 (nn :: nn :: nn :: nn :: []))))))))) (fun s w' => Mut [] V w' ∧ s 18 = .bool false) (fun _ _ => False) ?_ ?_ ?_
 ·intro Q2 hQ2 hP2
  refine wpG ?_
  refine wp_region_G (b := false) (Pn := (fun _ _ => False)) (Wp1 V) (by kernel_rfl) (by kernel_rfl) ?_ ?_ ?_ ?_
  ·exact ⟨Mut.start _ false _, nB, nB⟩
  ·refine AllSP.cons ?_ (AllSP.cons ?_ AllSP.nil)
   ·intro L s w2 h hk hd hn
    refine sP fun K hK => ?_
    go_simp
    refine (law21_works _).mono ?_
    rintro e w3 ⟨rfl, hb⟩
    exact .inl ⟨_, rfl, hK _ _ { h with mu := h.mu.step hb, e0 := fun _ => rfl }⟩
   ·intro L s w2 h hk hd hn
    have s17 := h.e0 hd.1
    refine sP fun K hK => ?_
    go_simp
    exact hK _ _ { h with e1 := fun _ => rfl }
  ·intro L s w2 h hk hl
   refine cA ?_ (hQ2 s w2 (⟨h.mu, h.e1 (hl 1 (by decide))⟩))
   exact frame_eq hk (by kernel_rfl) (by kernel_rfl)
  ·intro c s w2 hc
   exact hc.elim
 rotate_left
 ·rintro _ _ _ h
  exact h.elim
 rintro s1 V ⟨h1, k18⟩
 simp only [mergeL]
 rw [k18]
 replace HD := sm h1 HD
 replace HD2 := sm h1 HD2
 replace HQ := sm h1 HQ
 replace HM := lh (HM.out.stepM h1 (by simp))
 clear h1 k18
 refine HK1.out _ _ ?_
 go_wp2_with fail
 refine HKA.out _ _ ?_
 refine wsk fun KB HKB => ?_
 refine wsk fun K3 HK3 => ?_
 refine wp_cut_mergeP (n8 (n8 (nn :: nn :: nn :: some 19 :: some 20 :: some 21 :: some 22 :: some 23 :: n8 (n8 (n8 (n8 (n8 (nn :: nn :: nn :: nn :: nn :: nn :: nn :: [])))))))) (fun s w' => Mut [] V w' ∧ s 22 = mval AA ∧ s 23 = .int .i64 ((0 : Nat) : Int)) (fun _ _ => False) ?_ ?_ ?_
 ·intro Q2 hQ2 hP2
  refine wpG ?_
  refine wp_region_G (b := false) (Pn := (fun _ _ => False)) (Wp3 V c r ts ao cap c2 r2 ts2 ao2 cap2 p lo hi AA) (by kernel_rfl) (by kernel_rfl) ?_ ?_ ?_ ?_
  ·exact ⟨Mut.start _ false _, nB, nB, nB, nB, nB⟩
  ·refine AllSP.cons ?_ (AllSP.cons ?_ (AllSP.cons ?_ (AllSP.cons ?_ (AllSP.cons ?_ AllSP.nil))))
   ·intro L s w2 h hk hd hn
    have s3 : s 3 = _ := hk 3 (by kernel_rfl)
    have kqka := (h.mu.same _ (lt_of_block HD.out) (by simp)).trans HD.out
    have ka : w2.cell? ⟨b, 0, none⟩ = some (.int .i16 c) := by rw [cell_of_row w2 (b) 0 _ _ _ kqka]; rfl
    have kqkb := (h.mu.same _ (lt_of_block HD.out) (by simp)).trans HD.out
    have kb : w2.cell? ⟨b, 1, none⟩ = some (.slice ao ts.length cap) := by rw [cell_of_row w2 (b) 1 _ _ _ kqkb]; rfl
    have kqkc := (h.mu.same _ (lt_of_block HD.out) (by simp)).trans HD.out
    have kc : w2.cell? ⟨b, 2, none⟩ = some (.int .u16 r) := by rw [cell_of_row w2 (b) 2 _ _ _ kqkc]; rfl
    refine sP fun K hK => ?_
    go_simp
    exact hK _ _ { h with e0 := fun _ => rfl }
   ·intro L s w2 h hk hd hn
    have s4 : s 4 = _ := hk 4 (by kernel_rfl)
    have kqka := (h.mu.same _ (lt_of_block HD2.out) (by simp)).trans HD2.out
    have ka : w2.cell? ⟨b + 1, 0, none⟩ = some (.int .i16 c2) := by rw [cell_of_row w2 (b + 1) 0 _ _ _ kqka]; rfl
    have kqkb := (h.mu.same _ (lt_of_block HD2.out) (by simp)).trans HD2.out
    have kb : w2.cell? ⟨b + 1, 1, none⟩ = some (.slice ao2 ts2.length cap2) := by rw [cell_of_row w2 (b + 1) 1 _ _ _ kqkb]; rfl
    have kqkc := (h.mu.same _ (lt_of_block HD2.out) (by simp)).trans HD2.out
    have kc : w2.cell? ⟨b + 1, 2, none⟩ = some (.int .u16 r2) := by rw [cell_of_row w2 (b + 1) 2 _ _ _ kqkc]; rfl
    refine sP fun K hK => ?_
    go_simp
    exact hK _ _ { h with e1 := fun _ => rfl }
   ·intro L s w2 h hk hd hn
    have s5 : s 5 = _ := hk 5 (by kernel_rfl)
    have kqka := (h.mu.same _ (lt_of_block HQ.out) (by simp)).trans HQ.out
    have ka : w2.cell? ⟨b + 1 + 1, 0, none⟩ = some (.int .u8 p) := by rw [cell_of_row w2 (b + 1 + 1) 0 _ _ _ kqka]; rfl
    have kqkb := (h.mu.same _ (lt_of_block HQ.out) (by simp)).trans HQ.out
    have kb : w2.cell? ⟨b + 1 + 1, 1, none⟩ = some (.int .i64 lo) := by rw [cell_of_row w2 (b + 1 + 1) 1 _ _ _ kqkb]; rfl
    have kqkc := (h.mu.same _ (lt_of_block HQ.out) (by simp)).trans HQ.out
    have kc : w2.cell? ⟨b + 1 + 1, 2, none⟩ = some (.int .i64 hi) := by rw [cell_of_row w2 (b + 1 + 1) 2 _ _ _ kqkc]; rfl
    refine sP fun K hK => ?_
    go_simp
    exact hK _ _ { h with e2 := fun _ => rfl }
   ·intro L s w2 h hk hd hn
    have s19 := h.e0 hd.1
    have s20 := h.e1 hd.2.1
    have s21 := h.e2 hd.2.2.1
    refine sP fun K hK => ?_
    go_simp
    refine (calls_as HPV.out (law21_prs c r ts ao cap c2 r2 ts2 ao2 cap2 p lo hi HY.out _ (HT.out.on (HM.out.trans h.mu).to0) (HT2.out.on (HM.out.trans h.mu).to0))).mono ?_
    rintro e w3 ⟨rfl, hb⟩
    exact .inl ⟨_, rfl, hK _ _ { h with mu := h.mu.step hb, e3 := fun _ => rfl }⟩
   ·intro L s w2 h hk hd hn
    refine sP fun K hK => ?_
    exact rs_move rfl rfl (hK _ _ { h with e4 := fun _ => rfl })
  ·intro L s w2 h hk hl
   refine cA ?_ (hQ2 s w2 (⟨h.mu, h.e3 (hl 3 (by decide)), h.e4 (hl 4 (by decide))⟩))
   exact frame_eq hk (by kernel_rfl) (by kernel_rfl)
  ·intro c s w2 hc
   exact hc.elim
 rotate_left
 ·rintro _ _ _ h
  exact h.elim
 rintro s3 V ⟨h1, k22, k23⟩
 simp only [mergeL]
 rw [k22]
 rw [k23]
 replace HD := sm h1 HD
 replace HD2 := sm h1 HD2
 replace HQ := sm h1 HQ
 replace HM := lh (HM.out.stepM h1 (by simp))
 clear h1 k22 k23
 refine HK3.out _ _ ?_
 go_wp2_with fail
 go_loopw [23] (fun x wr => ∃ k : Nat, k ≤ 4 ∧ x = .int .i64 k ∧ Hid (Mut [] V wr)) (fun x _ => 4 - (intOf x).toNat)
 case atStart => exact ⟨0, by omega, rfl, lh (Mut.refl _ _)⟩
 case round =>
  obtain ⟨k, hk, rfl, HG⟩ := hrel
  replace HD := lh ((HG.out.same _ (lt_of_block HD.out) (by simp)).trans HD.out)
  replace HD2 := lh ((HG.out.same _ (lt_of_block HD2.out) (by simp)).trans HD2.out)
  replace HQ := lh ((HG.out.same _ (lt_of_block HQ.out) (by simp)).trans HQ.out)
  have HM0 := HM
  have hm2 := HM.out.trans HG.out
  refine wp_world (fun U => Mut [] w U ∧ Mut [] V U ∧ U.heap[b]? = some (.cells #[.int .i16 c, .slice ao ts.length cap, .int .u16 r] 26 (0, 0)) ∧ U.heap[b + 1]? = some (.cells #[.int .i16 c2, .slice ao2 ts2.length cap2, .int .u16 r2] 26 (0, 0)) ∧ U.heap[b + 1 + 1]? = some (.cells #[.int .u8 p, .int .i64 lo, .int .i64 hi] 28 (0, 0))) ?_ ⟨hm2, HG.out, HD.out, HD2.out, HQ.out⟩
  clear hm2 HM0 HM HG HD HD2 HQ
  rintro V ⟨q1, q2, qHD, qHD2, qHQ⟩
  have HM := lh q1
  have HGM := lh q2
  have HD := lh qHD
  have HD2 := lh qHD2
  have HQ := lh qHQ
  clear q1 q2 qHD qHD2 qHQ
  rcases Nat.lt_or_ge k 4 with hk' | hk'
  ·obtain ⟨X1, X2, hx1, hx2, hix⟩ : ∃ X1 X2 : List (Int × Int), X1.length = 22 ∧ X2.length = 22 ∧ ∀ W, (Instr.index 36 (mval AA) (.int .i64 (k : Int))).run Tryz.prog W = .ok (mval (X1 ++ X2)) W := by
    rw [← HAA.out]
    obtain rfl | rfl | rfl | rfl : k = 0 ∨ k = 1 ∨ k = 2 ∨ k = 3 := by omega
    ·exact ⟨M1, M2, HLM1.out, HLM2.out, fun W => ix_mp0 HLM1.out HLM2.out HLB1.out HLM2.out HLM1.out HLB2.out HLN1.out HLN2.out W⟩
    ·exact ⟨B1, M2, HLB1.out, HLM2.out, fun W => ix_mp1 HLM1.out HLM2.out HLB1.out HLM2.out HLM1.out HLB2.out HLN1.out HLN2.out W⟩
    ·exact ⟨M1, B2, HLM1.out, HLB2.out, fun W => ix_mp2 HLM1.out HLM2.out HLB1.out HLM2.out HLM1.out HLB2.out HLN1.out HLN2.out W⟩
    ·exact ⟨N1, N2, HLN1.out, HLN2.out, fun W => ix_mp3 HLM1.out HLM2.out HLB1.out HLM2.out HLM1.out HLB2.out HLN1.out HLN2.out W⟩
   have HX1 := lh hx1
   have HX2 := lh hx2
   have HIX := lh hix
   have HKK := lh hk'
   have t1 : decide ((k : Int) < 4) = true := by simp; omega
   have k0 : (0 : Int) ≤ (k : Int) := by omega
   have k1 : (k : Int) < 4 := by omega
   clear hx1 hx2 hix hk hk'
   obtain ⟨Y, hY⟩ : ∃ Y, xMul X1 X2 = Y := ⟨_, rfl⟩
   have HLY := lh (show Y.1.length = 22 by rw [← hY]; exact xMulLen _ _ HX1.out HX2.out)
   have HEY := lh hY
   obtain ⟨Z, hZ⟩ : ∃ Z, xBound X1 = Z := ⟨_, rfl⟩
   have HEZ := lh hZ
   clear hY hZ
   refine wsk fun K1 HK1 => ?_
   go_wp2_with fail
   refine HK1.out _ _ ?_
   refine wsk fun K2 HK2 => ?_
   go_wp2_with fail
   refine HK2.out _ _ ?_
   refine wsk fun K3 HK3 => ?_
   refine wp_block ?_
   refine wsk fun K5 HK5 => ?_
   refine wp_cut_mergeP (n8 (some 8 :: n8 (n8 (some 25 :: n8 (n8 (n8 (n8 (n8 (nn :: nn :: nn :: nn :: nn :: []))))))))) (fun s w' => Mut [] V w' ∧ (∃ g : Nat, s 8 = .pointer (some ⟨g, 0, none⟩) ∧ V.heap.size ≤ g ∧ w'.heap[g]? = some (cobj 35 (X1 ++ X2)))) (fun _ _ => False) ?_ ?_ ?_
   ·intro Q2 hQ2 hP2
    refine wpG ?_
    refine wp_region_G (b := false) (Pn := (fun _ _ => False)) (Wp5 V X1 X2) (by kernel_rfl) (by kernel_rfl) ?_ ?_ ?_ ?_
    ·exact ⟨Mut.start _ false _, nB, nB, nB⟩
    ·refine AllSP.cons ?_ (AllSP.cons ?_ (AllSP.cons ?_ AllSP.nil))
     ·intro L s w2 h hk hd hn
      have s22 : s 22 = _ := hk 22 (by kernel_rfl)
      have s23 : s 23 = _ := hk 23 (by kernel_rfl)
      refine sP fun K hK => ?_
      exact rs_idx rfl s22 s23 (HIX.out _) (hK _ _ { h with e0 := fun _ => rfl })
     ·intro L s w2 h hk hd hn
      refine sP fun K hK => ?_
      go_simp
      exact hK _ _ { h with mu := h.mu.alloc _, al_x := fun _ => ⟨_, rfl, h.mu.size, by simp, fun _ => heap_at _ rfl, fun a => absurd (h.b2_1 a) (by rw [hn]; exact bft)⟩, b2_1 := fun _ => rfl }
     ·intro L s w2 h hk hd hn
      have s25 := h.e0 hd.2.1
      obtain ⟨g, hg0, hg1, hgl, hg2, hg3⟩ := h.al_x hd.1
      have kb := hg2 hn
      refine sP fun K hK => ?_
      exact rs_store rfl hg0 s25 (st_m2 kb (by simp) _ (by simp [HX1.out, HX2.out])) (hK _ _ { h with mu := h.mu.putNew hg1 _, al_x := fun a => ⟨g, hg0, hg1, by simpa using hgl, nF, fun _ => pH kb⟩, b2_1 := fun _ => hd.1 })
    ·intro L s w2 h hk hl
     refine cA ?_ (hQ2 s w2 (⟨h.mu, (let ⟨g, h0, h1, _, _, h3⟩ := h.al_x (hl 1 (by decide)); ⟨g, h0, h1, h3 (hl 2 (by decide))⟩)⟩))
     exact frame_eq hk (by kernel_rfl) (by kernel_rfl)
    ·intro c s w2 hc
     exact hc.elim
   rotate_left
   ·rintro _ _ _ h
    exact h.elim
   rintro s5 V ⟨h1, ⟨g0, k_x, g_x, c_x⟩⟩
   simp only [mergeL]
   rw [k_x]
   replace HD := sm h1 HD
   replace HD2 := sm h1 HD2
   replace HQ := sm h1 HQ
   have HXB := lh c_x
   replace HM := lh (HM.out.stepM h1 (by simp))
   have HF5 := lh (HGM.out.trans h1)
   clear h1 k_x g_x c_x
   refine HK5.out _ _ ?_
   refine wsk fun K6 HK6 => ?_
   refine wp_cut_mergeP (n8 (nn :: some 9 :: some 10 :: n8 (nn :: nn :: nn :: nn :: nn :: nn :: nn :: some 26 :: some 27 :: some 28 :: some 29 :: some 30 :: some 31 :: some 32 :: some 33 :: n8 (n8 (n8 (n8 (nn :: nn :: nn :: nn :: nn :: []))))))) (fun s w' => Mut [] V w' ∧ (∃ g : Nat, s 9 = .pointer (some ⟨g, 0, none⟩) ∧ V.heap.size ≤ g ∧ w'.heap[g]? = some (cobj 34 Y.1)) ∧ s 10 = .int .i64 Y.2) (fun _ _ => False) ?_ ?_ ?_
   ·intro Q2 hQ2 hP2
    refine wpG ?_
    refine wp_region_G (b := false) (Pn := (fun _ _ => False)) (Wp6 V X1 X2 Y g0) (by kernel_rfl) (by kernel_rfl) ?_ ?_ ?_ ?_
    ·exact ⟨Mut.start _ false _, nB, nB, nB, nB, nB, nB, nB, nB, nB, nB, nB⟩
    ·refine AllSP.cons ?_ (AllSP.cons ?_ (AllSP.cons ?_ (AllSP.cons ?_ (AllSP.cons ?_ (AllSP.cons ?_ (AllSP.cons ?_ (AllSP.cons ?_ (AllSP.cons ?_ (AllSP.cons ?_ (AllSP.cons ?_ AllSP.nil))))))))))
     ·intro L s w2 h hk hd hn
      have s8 : s 8 = _ := hk 8 (by kernel_rfl)
      refine sP fun K hK => ?_
      go_simp
      exact hK _ _ { h with e0 := fun _ => rfl }
     ·intro L s w2 h hk hd hn
      have s27 := h.e0 hd.1
      have kb := ((h.mu.same _ ((Array.getElem?_eq_some_iff.1 HXB.out).1) (by simp)).trans HXB.out)
      refine sP fun K hK => ?_
      exact rs_load rfl s27 (ld_m20 kb HX1.out) (hK _ _ { h with e1 := fun _ => rfl })
     ·intro L s w2 h hk hd hn
      have s8 : s 8 = _ := hk 8 (by kernel_rfl)
      refine sP fun K hK => ?_
      go_simp
      exact hK _ _ { h with e2 := fun _ => rfl }
     ·intro L s w2 h hk hd hn
      have s29 := h.e2 hd.1
      have kb := ((h.mu.same _ ((Array.getElem?_eq_some_iff.1 HXB.out).1) (by simp)).trans HXB.out)
      refine sP fun K hK => ?_
      exact rs_load rfl s29 (ld_m21 kb HX1.out HX2.out) (hK _ _ { h with e3 := fun _ => rfl })
     ·intro L s w2 h hk hd hn
      have s28 := h.e1 hd.1
      have s30 := h.e3 hd.2.1
      refine sP fun K hK => ?_
      go_simp
      refine (pMul HX1.out HX2.out HEY.out _).mono ?_
      rintro e w3 ⟨rfl, hb⟩
      exact .inl ⟨_, rfl, hK _ _ { h with mu := h.mu.step hb, al_a := fun a => let ⟨g, h0, h1, hl, h2, h3⟩ := h.al_a a; ⟨g, h0, h1, Nat.lt_of_lt_of_le hl hb.size, fun c => (hb.block _ (lt_of_block (h2 c))).trans (h2 c), fun c => (hb.block _ (lt_of_block (h3 c))).trans (h3 c)⟩, e4 := fun _ => rfl }⟩
     ·intro L s w2 h hk hd hn
      have s31 := h.e4 hd.1
      refine sP fun K hK => ?_
      exact rs_move rfl s31 (hK _ _ { h with e5 := fun _ => rfl })
     ·intro L s w2 h hk hd hn
      have s26 := h.e5 hd.1
      refine sP fun K hK => ?_
      exact rs_extract rfl s26 rfl (hK _ _ { h with e6 := fun _ => rfl })
     ·intro L s w2 h hk hd hn
      have s26 := h.e5 hd.1
      refine sP fun K hK => ?_
      exact rs_extract rfl s26 rfl (hK _ _ { h with e7 := fun _ => rfl })
     ·intro L s w2 h hk hd hn
      refine sP fun K hK => ?_
      go_simp
      exact hK _ _ { h with mu := h.mu.alloc _, al_a := fun _ => ⟨_, rfl, h.mu.size, by simp, fun _ => heap_at _ rfl, fun a => absurd (h.b9_8 a) (by rw [hn]; exact bft)⟩, b9_8 := fun _ => rfl }
     ·intro L s w2 h hk hd hn
      have s32 := h.e6 hd.2.1
      obtain ⟨g, hg0, hg1, hgl, hg2, hg3⟩ := h.al_a hd.1
      have kb := hg2 hn
      refine sP fun K hK => ?_
      exact rs_store rfl hg0 s32 (md_store kb rfl _ HLY.out) (hK _ _ { h with mu := h.mu.putNew hg1 _, al_a := fun a => ⟨g, hg0, hg1, by simpa using hgl, nF, fun _ => pH kb⟩, b9_8 := fun _ => hd.1 })
     ·intro L s w2 h hk hd hn
      have s33 := h.e7 hd.1
      refine sP fun K hK => ?_
      exact rs_assign rfl s33 (hK _ _ { h with e10 := fun _ => rfl })
    ·intro L s w2 h hk hl
     refine cA ?_ (hQ2 s w2 (⟨h.mu, (let ⟨g, h0, h1, _, _, h3⟩ := h.al_a (hl 8 (by decide)); ⟨g, h0, h1, h3 (hl 9 (by decide))⟩), h.e10 (hl 10 (by decide))⟩))
     exact frame_eq hk (by kernel_rfl) (by kernel_rfl)
    ·intro c s w2 hc
     exact hc.elim
   rotate_left
   ·rintro _ _ _ h
    exact h.elim
   rintro s6 V ⟨h1, ⟨g1, k_a, g_a, c_a⟩, k10⟩
   simp only [mergeL]
   rw [k_a]
   rw [k10]
   replace HD := sm h1 HD
   replace HD2 := sm h1 HD2
   replace HQ := sm h1 HQ
   replace HXB := sm h1 HXB
   have HRA := lh c_a
   replace HM := lh (HM.out.stepM h1 (by simp))
   have HF6 := lh (HF5.out.trans h1)
   clear h1 k_a g_a c_a k10
   refine HK6.out _ _ ?_
   refine wsk fun K7 HK7 => ?_
   refine wp_cut_mergeP (n8 (nn :: nn :: nn :: some 11 :: some 12 :: n8 (n8 (nn :: nn :: nn :: nn :: nn :: some 34 :: some 35 :: some 36 :: some 37 :: some 38 :: some 39 :: some 40 :: some 41 :: n8 (n8 (n8 (nn :: nn :: nn :: nn :: nn :: []))))))) (fun s w' => Mut [] V w' ∧ (∃ g : Nat, s 11 = .pointer (some ⟨g, 0, none⟩) ∧ V.heap.size ≤ g ∧ w'.heap[g]? = some (cobj 34 Y.1)) ∧ s 12 = .int .i64 Y.2) (fun _ _ => False) ?_ ?_ ?_
   ·intro Q2 hQ2 hP2
    refine wpG ?_
    refine wp_region_G (b := false) (Pn := (fun _ _ => False)) (Wp7 V X1 X2 Y g0) (by kernel_rfl) (by kernel_rfl) ?_ ?_ ?_ ?_
    ·exact ⟨Mut.start _ false _, nB, nB, nB, nB, nB, nB, nB, nB, nB, nB, nB⟩
    ·refine AllSP.cons ?_ (AllSP.cons ?_ (AllSP.cons ?_ (AllSP.cons ?_ (AllSP.cons ?_ (AllSP.cons ?_ (AllSP.cons ?_ (AllSP.cons ?_ (AllSP.cons ?_ (AllSP.cons ?_ (AllSP.cons ?_ AllSP.nil))))))))))
     ·intro L s w2 h hk hd hn
      have s8 : s 8 = _ := hk 8 (by kernel_rfl)
      refine sP fun K hK => ?_
      go_simp
      exact hK _ _ { h with e0 := fun _ => rfl }
     ·intro L s w2 h hk hd hn
      have s35 := h.e0 hd.1
      have kb := ((h.mu.same _ ((Array.getElem?_eq_some_iff.1 HXB.out).1) (by simp)).trans HXB.out)
      refine sP fun K hK => ?_
      exact rs_load rfl s35 (ld_m20 kb HX1.out) (hK _ _ { h with e1 := fun _ => rfl })
     ·intro L s w2 h hk hd hn
      have s8 : s 8 = _ := hk 8 (by kernel_rfl)
      refine sP fun K hK => ?_
      go_simp
      exact hK _ _ { h with e2 := fun _ => rfl }
     ·intro L s w2 h hk hd hn
      have s37 := h.e2 hd.1
      have kb := ((h.mu.same _ ((Array.getElem?_eq_some_iff.1 HXB.out).1) (by simp)).trans HXB.out)
      refine sP fun K hK => ?_
      exact rs_load rfl s37 (ld_m21 kb HX1.out HX2.out) (hK _ _ { h with e3 := fun _ => rfl })
     ·intro L s w2 h hk hd hn
      have s36 := h.e1 hd.1
      have s38 := h.e3 hd.2.1
      refine sP fun K hK => ?_
      go_simp
      refine (qMul HX1.out HX2.out HEY.out _).mono ?_
      rintro e w3 ⟨rfl, hb⟩
      exact .inl ⟨_, rfl, hK _ _ { h with mu := h.mu.step hb, al_cc := fun a => let ⟨g, h0, h1, hl, h2, h3⟩ := h.al_cc a; ⟨g, h0, h1, Nat.lt_of_lt_of_le hl hb.size, fun c => (hb.block _ (lt_of_block (h2 c))).trans (h2 c), fun c => (hb.block _ (lt_of_block (h3 c))).trans (h3 c)⟩, e4 := fun _ => rfl }⟩
     ·intro L s w2 h hk hd hn
      have s39 := h.e4 hd.1
      refine sP fun K hK => ?_
      exact rs_move rfl s39 (hK _ _ { h with e5 := fun _ => rfl })
     ·intro L s w2 h hk hd hn
      have s34 := h.e5 hd.1
      refine sP fun K hK => ?_
      exact rs_extract rfl s34 rfl (hK _ _ { h with e6 := fun _ => rfl })
     ·intro L s w2 h hk hd hn
      have s34 := h.e5 hd.1
      refine sP fun K hK => ?_
      exact rs_extract rfl s34 rfl (hK _ _ { h with e7 := fun _ => rfl })
     ·intro L s w2 h hk hd hn
      refine sP fun K hK => ?_
      go_simp
      exact hK _ _ { h with mu := h.mu.alloc _, al_cc := fun _ => ⟨_, rfl, h.mu.size, by simp, fun _ => heap_at _ rfl, fun a => absurd (h.b9_8 a) (by rw [hn]; exact bft)⟩, b9_8 := fun _ => rfl }
     ·intro L s w2 h hk hd hn
      have s40 := h.e6 hd.2.1
      obtain ⟨g, hg0, hg1, hgl, hg2, hg3⟩ := h.al_cc hd.1
      have kb := hg2 hn
      refine sP fun K hK => ?_
      exact rs_store rfl hg0 s40 (md_store kb rfl _ HLY.out) (hK _ _ { h with mu := h.mu.putNew hg1 _, al_cc := fun a => ⟨g, hg0, hg1, by simpa using hgl, nF, fun _ => pH kb⟩, b9_8 := fun _ => hd.1 })
     ·intro L s w2 h hk hd hn
      have s41 := h.e7 hd.1
      refine sP fun K hK => ?_
      exact rs_assign rfl s41 (hK _ _ { h with e10 := fun _ => rfl })
    ·intro L s w2 h hk hl
     refine cA ?_ (hQ2 s w2 (⟨h.mu, (let ⟨g, h0, h1, _, _, h3⟩ := h.al_cc (hl 8 (by decide)); ⟨g, h0, h1, h3 (hl 9 (by decide))⟩), h.e10 (hl 10 (by decide))⟩))
     exact frame_eq hk (by kernel_rfl) (by kernel_rfl)
    ·intro c s w2 hc
     exact hc.elim
   rotate_left
   ·rintro _ _ _ h
    exact h.elim
   rintro s7 V ⟨h1, ⟨g2, k_cc, g_cc, c_cc⟩, k12⟩
   simp only [mergeL]
   rw [k_cc]
   rw [k12]
   replace HD := sm h1 HD
   replace HD2 := sm h1 HD2
   replace HQ := sm h1 HQ
   replace HXB := sm h1 HXB
   replace HRA := sm h1 HRA
   have HRC := lh c_cc
   replace HM := lh (HM.out.stepM h1 (by simp))
   have HF7 := lh (HF6.out.trans h1)
   clear h1 k_cc g_cc c_cc k12
   refine HK7.out _ _ ?_
   refine wsk fun K8 HK8 => ?_
   refine wp_cut_mergeP (n8 (nn :: nn :: nn :: nn :: nn :: some 13 :: some 14 :: n8 (n8 (n8 (nn :: nn :: nn :: some 42 :: some 43 :: some 44 :: some 45 :: some 46 :: some 47 :: n8 (n8 (nn :: nn :: nn :: nn :: nn :: nn :: nn :: []))))))) (fun s w' => Mut [] V w' ∧ (∃ g : Nat, s 13 = .pointer (some ⟨g, 0, none⟩) ∧ V.heap.size ≤ g ∧ w'.heap[g]? = some (cobj 31 [Z.1])) ∧ s 14 = .int .i64 Z.2) (fun _ _ => False) ?_ ?_ ?_
   ·intro Q2 hQ2 hP2
    refine wpG ?_
    refine wp_region_G (b := false) (Pn := (fun _ _ => False)) (Wp8 V X1 Z g0) (by kernel_rfl) (by kernel_rfl) ?_ ?_ ?_ ?_
    ·exact ⟨Mut.start _ false _, nB, nB, nB, nB, nB, nB, nB, nB, nB⟩
    ·refine AllSP.cons ?_ (AllSP.cons ?_ (AllSP.cons ?_ (AllSP.cons ?_ (AllSP.cons ?_ (AllSP.cons ?_ (AllSP.cons ?_ (AllSP.cons ?_ (AllSP.cons ?_ AllSP.nil))))))))
     ·intro L s w2 h hk hd hn
      have s8 : s 8 = _ := hk 8 (by kernel_rfl)
      refine sP fun K hK => ?_
      go_simp
      exact hK _ _ { h with e0 := fun _ => rfl }
     ·intro L s w2 h hk hd hn
      have s43 := h.e0 hd.1
      have kb := ((h.mu.same _ ((Array.getElem?_eq_some_iff.1 HXB.out).1) (by simp)).trans HXB.out)
      refine sP fun K hK => ?_
      exact rs_load rfl s43 (ld_m20 kb HX1.out) (hK _ _ { h with e1 := fun _ => rfl })
     ·intro L s w2 h hk hd hn
      have s44 := h.e1 hd.1
      refine sP fun K hK => ?_
      go_simp
      refine (pBound HX1.out HEZ.out _).mono ?_
      rintro e w3 ⟨rfl, hb⟩
      exact .inl ⟨_, rfl, hK _ _ { h with mu := h.mu.step hb, al_s := fun a => let ⟨g, h0, h1, hl, h2, h3⟩ := h.al_s a; ⟨g, h0, h1, Nat.lt_of_lt_of_le hl hb.size, fun c => (hb.block _ (lt_of_block (h2 c))).trans (h2 c), fun c => (hb.block _ (lt_of_block (h3 c))).trans (h3 c)⟩, e2 := fun _ => rfl }⟩
     ·intro L s w2 h hk hd hn
      have s45 := h.e2 hd.1
      refine sP fun K hK => ?_
      exact rs_move rfl s45 (hK _ _ { h with e3 := fun _ => rfl })
     ·intro L s w2 h hk hd hn
      have s42 := h.e3 hd.1
      refine sP fun K hK => ?_
      exact rs_extract rfl s42 rfl (hK _ _ { h with e4 := fun _ => rfl })
     ·intro L s w2 h hk hd hn
      have s42 := h.e3 hd.1
      refine sP fun K hK => ?_
      exact rs_extract rfl s42 rfl (hK _ _ { h with e5 := fun _ => rfl })
     ·intro L s w2 h hk hd hn
      refine sP fun K hK => ?_
      go_simp
      exact hK _ _ { h with mu := h.mu.alloc _, al_s := fun _ => ⟨_, rfl, h.mu.size, by simp, fun _ => heap_at _ rfl, fun a => absurd (h.b7_6 a) (by rw [hn]; exact bft)⟩, b7_6 := fun _ => rfl }
     ·intro L s w2 h hk hd hn
      have s46 := h.e4 hd.2.1
      obtain ⟨g, hg0, hg1, hgl, hg2, hg3⟩ := h.al_s hd.1
      have kb := hg2 hn
      refine sP fun K hK => ?_
      exact rs_store rfl hg0 s46 (sp_store (p := 0) kb (by simp) Z.1) (hK _ _ { h with mu := h.mu.putNew hg1 _, al_s := fun a => ⟨g, hg0, hg1, by simpa using hgl, nF, fun _ => pH kb⟩, b7_6 := fun _ => hd.1 })
     ·intro L s w2 h hk hd hn
      have s47 := h.e5 hd.1
      refine sP fun K hK => ?_
      exact rs_assign rfl s47 (hK _ _ { h with e8 := fun _ => rfl })
    ·intro L s w2 h hk hl
     refine cA ?_ (hQ2 s w2 (⟨h.mu, (let ⟨g, h0, h1, _, _, h3⟩ := h.al_s (hl 6 (by decide)); ⟨g, h0, h1, h3 (hl 7 (by decide))⟩), h.e8 (hl 8 (by decide))⟩))
     exact frame_eq hk (by kernel_rfl) (by kernel_rfl)
    ·intro c s w2 hc
     exact hc.elim
   rotate_left
   ·rintro _ _ _ h
    exact h.elim
   rintro s8 V ⟨h1, ⟨g3, k_s, g_s, c_s⟩, k14⟩
   simp only [mergeL]
   rw [k_s]
   rw [k14]
   replace HD := sm h1 HD
   replace HD2 := sm h1 HD2
   replace HQ := sm h1 HQ
   replace HXB := sm h1 HXB
   replace HRA := sm h1 HRA
   replace HRC := sm h1 HRC
   have HRS := lh c_s
   replace HM := lh (HM.out.stepM h1 (by simp))
   have HF8 := lh (HF7.out.trans h1)
   clear h1 k_s g_s c_s k14
   refine HK8.out _ _ ?_
   refine wsk fun K9 HK9 => ?_
   refine wp_cut_mergeP (n8 (nn :: nn :: nn :: nn :: nn :: nn :: nn :: some 15 :: some 16 :: n8 (n8 (n8 (nn :: nn :: nn :: nn :: nn :: nn :: nn :: some 48 :: some 49 :: some 50 :: some 51 :: some 52 :: some 53 :: n8 (n8 (nn :: []))))))) (fun s w' => Mut [] V w' ∧ (∃ g : Nat, s 15 = .pointer (some ⟨g, 0, none⟩) ∧ V.heap.size ≤ g ∧ w'.heap[g]? = some (cobj 31 [Z.1])) ∧ s 16 = .int .i64 Z.2) (fun _ _ => False) ?_ ?_ ?_
   ·intro Q2 hQ2 hP2
    refine wpG ?_
    refine wp_region_G (b := false) (Pn := (fun _ _ => False)) (Wp9 V X1 Z g0) (by kernel_rfl) (by kernel_rfl) ?_ ?_ ?_ ?_
    ·exact ⟨Mut.start _ false _, nB, nB, nB, nB, nB, nB, nB, nB, nB⟩
    ·refine AllSP.cons ?_ (AllSP.cons ?_ (AllSP.cons ?_ (AllSP.cons ?_ (AllSP.cons ?_ (AllSP.cons ?_ (AllSP.cons ?_ (AllSP.cons ?_ (AllSP.cons ?_ AllSP.nil))))))))
     ·intro L s w2 h hk hd hn
      have s8 : s 8 = _ := hk 8 (by kernel_rfl)
      refine sP fun K hK => ?_
      go_simp
      exact hK _ _ { h with e0 := fun _ => rfl }
     ·intro L s w2 h hk hd hn
      have s49 := h.e0 hd.1
      have kb := ((h.mu.same _ ((Array.getElem?_eq_some_iff.1 HXB.out).1) (by simp)).trans HXB.out)
      refine sP fun K hK => ?_
      exact rs_load rfl s49 (ld_m20 kb HX1.out) (hK _ _ { h with e1 := fun _ => rfl })
     ·intro L s w2 h hk hd hn
      have s50 := h.e1 hd.1
      refine sP fun K hK => ?_
      go_simp
      refine (qBound HX1.out HEZ.out _).mono ?_
      rintro e w3 ⟨rfl, hb⟩
      exact .inl ⟨_, rfl, hK _ _ { h with mu := h.mu.step hb, al_t := fun a => let ⟨g, h0, h1, hl, h2, h3⟩ := h.al_t a; ⟨g, h0, h1, Nat.lt_of_lt_of_le hl hb.size, fun c => (hb.block _ (lt_of_block (h2 c))).trans (h2 c), fun c => (hb.block _ (lt_of_block (h3 c))).trans (h3 c)⟩, e2 := fun _ => rfl }⟩
     ·intro L s w2 h hk hd hn
      have s51 := h.e2 hd.1
      refine sP fun K hK => ?_
      exact rs_move rfl s51 (hK _ _ { h with e3 := fun _ => rfl })
     ·intro L s w2 h hk hd hn
      have s48 := h.e3 hd.1
      refine sP fun K hK => ?_
      exact rs_extract rfl s48 rfl (hK _ _ { h with e4 := fun _ => rfl })
     ·intro L s w2 h hk hd hn
      have s48 := h.e3 hd.1
      refine sP fun K hK => ?_
      exact rs_extract rfl s48 rfl (hK _ _ { h with e5 := fun _ => rfl })
     ·intro L s w2 h hk hd hn
      refine sP fun K hK => ?_
      go_simp
      exact hK _ _ { h with mu := h.mu.alloc _, al_t := fun _ => ⟨_, rfl, h.mu.size, by simp, fun _ => heap_at _ rfl, fun a => absurd (h.b7_6 a) (by rw [hn]; exact bft)⟩, b7_6 := fun _ => rfl }
     ·intro L s w2 h hk hd hn
      have s52 := h.e4 hd.2.1
      obtain ⟨g, hg0, hg1, hgl, hg2, hg3⟩ := h.al_t hd.1
      have kb := hg2 hn
      refine sP fun K hK => ?_
      exact rs_store rfl hg0 s52 (sp_store (p := 0) kb (by simp) Z.1) (hK _ _ { h with mu := h.mu.putNew hg1 _, al_t := fun a => ⟨g, hg0, hg1, by simpa using hgl, nF, fun _ => pH kb⟩, b7_6 := fun _ => hd.1 })
     ·intro L s w2 h hk hd hn
      have s53 := h.e5 hd.1
      refine sP fun K hK => ?_
      exact rs_assign rfl s53 (hK _ _ { h with e8 := fun _ => rfl })
    ·intro L s w2 h hk hl
     refine cA ?_ (hQ2 s w2 (⟨h.mu, (let ⟨g, h0, h1, _, _, h3⟩ := h.al_t (hl 6 (by decide)); ⟨g, h0, h1, h3 (hl 7 (by decide))⟩), h.e8 (hl 8 (by decide))⟩))
     exact frame_eq hk (by kernel_rfl) (by kernel_rfl)
    ·intro c s w2 hc
     exact hc.elim
   rotate_left
   ·rintro _ _ _ h
    exact h.elim
   rintro s9 V ⟨h1, ⟨g4, k_t, g_t, c_t⟩, k16⟩
   simp only [mergeL]
   rw [k_t]
   rw [k16]
   replace HD := sm h1 HD
   replace HD2 := sm h1 HD2
   replace HQ := sm h1 HQ
   replace HXB := sm h1 HXB
   replace HRA := sm h1 HRA
   replace HRC := sm h1 HRC
   replace HRS := sm h1 HRS
   have HRT := lh c_t
   replace HM := lh (HM.out.stepM h1 (by simp))
   have HF9 := lh (HF8.out.trans h1)
   clear h1 k_t g_t c_t k16
   refine HK9.out _ _ ?_
   refine wsk fun K10 HK10 => ?_
   refine wp_cut_mergeP (n8 (n8 (n8 (n8 (n8 (n8 (nn :: nn :: nn :: nn :: nn :: nn :: some 54 :: some 55 :: some 56 :: some 57 :: some 58 :: some 59 :: some 60 :: some 61 :: some 62 :: some 63 :: some 64 :: some 65 :: some 66 :: some 67 :: some 68 :: some 69 :: nn :: []))))))) (fun s w' => Mut [] V w' ∧ s 69 = .bool false) (fun _ _ => False) ?_ ?_ ?_
   ·intro Q2 hQ2 hP2
    refine wpG ?_
    refine wp_region_G (b := false) (Pn := (fun _ _ => False)) (Wp10 V Y Z) (by kernel_rfl) (by kernel_rfl) ?_ ?_ ?_ ?_
    ·exact ⟨Mut.start _ false _, nB, nB, nB, nB, nB, nB, nB, nB, nB, nB, nB, nB, nB, nB, nB, nB⟩
    ·refine AllSP.cons ?_ (AllSP.cons ?_ (AllSP.cons ?_ (AllSP.cons ?_ (AllSP.cons ?_ (AllSP.cons ?_ (AllSP.cons ?_ (AllSP.cons ?_ (AllSP.cons ?_ (AllSP.cons ?_ (AllSP.cons ?_ (AllSP.cons ?_ (AllSP.cons ?_ (AllSP.cons ?_ (AllSP.cons ?_ (AllSP.cons ?_ AllSP.nil)))))))))))))))
     ·intro L s w2 h hk hd hn
      have s9 : s 9 = _ := hk 9 (by kernel_rfl)
      have kb := ((h.mu.same _ ((Array.getElem?_eq_some_iff.1 HRA.out).1) (by simp)).trans HRA.out)
      refine sP fun K hK => ?_
      exact rs_load rfl s9 (md_load kb HLY.out) (hK _ _ { h with e0 := fun _ => rfl })
     ·intro L s w2 h hk hd hn
      have s10 : s 10 = _ := hk 10 (by kernel_rfl)
      refine sP fun K hK => ?_
      exact rs_move rfl s10 (hK _ _ { h with e1 := fun _ => rfl })
     ·intro L s w2 h hk hd hn
      have s11 : s 11 = _ := hk 11 (by kernel_rfl)
      have kb := ((h.mu.same _ ((Array.getElem?_eq_some_iff.1 HRC.out).1) (by simp)).trans HRC.out)
      refine sP fun K hK => ?_
      exact rs_load rfl s11 (md_load kb HLY.out) (hK _ _ { h with e2 := fun _ => rfl })
     ·intro L s w2 h hk hd hn
      have s12 : s 12 = _ := hk 12 (by kernel_rfl)
      refine sP fun K hK => ?_
      exact rs_move rfl s12 (hK _ _ { h with e3 := fun _ => rfl })
     ·intro L s w2 h hk hd hn
      have s54 := h.e0 hd.1
      have s55 := h.e1 hd.2.1
      have s56 := h.e2 hd.2.2.1
      have s57 := h.e3 hd.2.2.2.1
      refine sP fun K hK => ?_
      go_simp
      refine (law21_same Y.1 Y.2 HLY.out _).mono ?_
      rintro e w3 ⟨rfl, hb⟩
      exact .inl ⟨_, rfl, hK _ _ { h with mu := h.mu.step hb, e4 := fun _ => rfl }⟩
     ·intro L s w2 h hk hd hn
      have s58 := h.e4 hd.1
      refine sP fun K hK => ?_
      go_simp
      exact hK _ _ { h with e5 := fun _ => rfl }
     ·intro L s w2 h hk hd hn
      have s59 := h.e5 hd.1
      refine sP fun K hK => ?_
      exact rs_move rfl s59 (hK _ _ { h with e6 := fun _ => rfl })
     ·intro L s w2 h hk hd hn
      have gq := h.e6 hd.1
      have s13 : s 13 = _ := hk 13 (by kernel_rfl)
      have kb := ((h.mu.same _ ((Array.getElem?_eq_some_iff.1 HRS.out).1) (by simp)).trans HRS.out)
      refine stepSP (by simp [Region.wanted, yieldS, gq]) fun K hK => ?_
      exact rs_load rfl s13 (sp_load (p := 0) kb (by simp)) (hK _ _ { h with e7 := fun _ => rfl })
     ·intro L s w2 h hk hd hn
      have gq := h.e6 hd.1
      have s15 : s 15 = _ := hk 15 (by kernel_rfl)
      have kb := ((h.mu.same _ ((Array.getElem?_eq_some_iff.1 HRT.out).1) (by simp)).trans HRT.out)
      refine stepSP (by simp [Region.wanted, yieldS, gq]) fun K hK => ?_
      exact rs_load rfl s15 (sp_load (p := 0) kb (by simp)) (hK _ _ { h with e8 := fun _ => rfl })
     ·intro L s w2 h hk hd hn
      have gq := h.e6 hd.2.2.1
      have s61 := h.e7 hd.1
      have s62 := h.e8 hd.2.1
      have hq := bin_neS Z.1 Z.1
      have hg := guard_neS Z.1 Z.1
      rw [show decide (Z.1 = Z.1) = true from decide_eq_true rfl] at hq
      refine stepSP (by simp [Region.wanted, yieldS, gq]) fun K hK => ?_
      go_simp
      exact hK _ _ { h with e9 := fun _ => rfl }
     ·intro L s w2 h hk hd hn
      have s60 := h.e6 hd.1
      have s63 := h.e9 hd.2.1
      refine sP fun K hK => ?_
      go_simp
      exact hK _ _ { h with e10 := fun _ => rfl }
     ·intro L s w2 h hk hd hn
      have s64 := h.e10 hd.1
      refine sP fun K hK => ?_
      exact rs_move rfl s64 (hK _ _ { h with e11 := fun _ => rfl })
     ·intro L s w2 h hk hd hn
      have gq := h.e11 hd.1
      have s14 : s 14 = _ := hk 14 (by kernel_rfl)
      refine stepSP (by simp [Region.wanted, yieldS, gq]) fun K hK => ?_
      exact rs_move rfl s14 (hK _ _ { h with e12 := fun _ => rfl })
     ·intro L s w2 h hk hd hn
      have gq := h.e11 hd.1
      have s16 : s 16 = _ := hk 16 (by kernel_rfl)
      refine stepSP (by simp [Region.wanted, yieldS, gq]) fun K hK => ?_
      exact rs_move rfl s16 (hK _ _ { h with e13 := fun _ => rfl })
     ·intro L s w2 h hk hd hn
      have gq := h.e11 hd.2.2.1
      have s66 := h.e12 hd.1
      have s67 := h.e13 hd.2.1
      refine stepSP (by simp [Region.wanted, yieldS, gq]) fun K hK => ?_
      go_simp
      exact hK _ _ { h with e14 := fun _ => congrArg Value.bool (by simp) }
     ·intro L s w2 h hk hd hn
      have s65 := h.e11 hd.1
      have s68 := h.e14 hd.2.1
      refine sP fun K hK => ?_
      go_simp
      exact hK _ _ { h with e15 := fun _ => rfl }
    ·intro L s w2 h hk hl
     refine cA ?_ (hQ2 s w2 (⟨h.mu, h.e15 (hl 15 (by decide))⟩))
     exact frame_eq hk (by kernel_rfl) (by kernel_rfl)
    ·intro c s w2 hc
     exact hc.elim
   rotate_left
   ·rintro _ _ _ h
    exact h.elim
   rintro s10 V ⟨h1, k69⟩
   simp only [mergeL]
   rw [k69]
   replace HD := sm h1 HD
   replace HD2 := sm h1 HD2
   replace HQ := sm h1 HQ
   replace HXB := sm h1 HXB
   replace HRA := sm h1 HRA
   replace HRC := sm h1 HRC
   replace HRS := sm h1 HRS
   replace HRT := sm h1 HRT
   replace HM := lh (HM.out.stepM h1 (by simp))
   have HF10 := lh (HF9.out.trans h1)
   clear h1 k69
   refine HK10.out _ _ ?_
   go_wp2_with fail
   refine HK3.out _ _ ?_
   go_wp2_with fail
   go_roundw
   case rel => first | exact ⟨k + 1, by have := HKK.out; omega, by go_num, HF10⟩ | ((repeat apply Exists.intro); exact ⟨⟨k + 1, by have := HKK.out; omega, by go_num, HF10⟩, rfl⟩)
   case measure => simp [intOf]; have := HKK.out; omega
  ·obtain rfl : k = 4 := by omega
   clear hk hk' HGM
   go_wp2_with fail
   refine HKB.out _ _ ?_
   go_wp2_with fail
   exact bodyPost_ret (v := .bool true) (by simp [results, Tryz.results3, go_sem]) rfl ⟨rfl, by rw [← HBW.out]; exact HM.out.to0⟩
end Go.Proofs.YthhkcfpljgdnhaaGreat
