/- The walk of monoclelaw21.TaylorMakes. Printed by wip/genMk.py. -/
import Derived.Test.YthhkcfpljgdnhaaLawYW
import Derived.Test.YthhkcfpljgdnhaaRefTB
import Derived.Test.YthhkcfpljgdnhaaTayArr
namespace Go.Proofs.Ythhkcfpljgdnhaa
open Go.RowKit Mnc
attribute [local go_sem] RunSP_value RunSP_skip RunSP_enter evS_tmp evS_const evS_global evS_func
theorem mod8 {x : Int} (h : 0 ≤ x ∧ x ≤ 255) : x.tmod 8 = x % 8 ∧ IntKind.u8.wrap (x % 8) = x % 8 ∧ IntKind.i64.wrap (x % 8) = x % 8 := by
  refine ⟨Int.tmod_eq_emod_of_nonneg h.1, ?_, ?_⟩
  · simp [IntKind.wrap, IntKind.bits, IntKind.signed]
    omega
  · simp [IntKind.wrap, IntKind.bits, IntKind.signed]
    omega
structure Mk1 (V : World) (i : Int) (j : Int) (sp : (Int × Int)) (c : Int) (r : Int) (ts : List Tm) (ao : Option Addr) (cap : Nat) (p : Int) (lo : Int) (hi : Int) (x : Int) (y : Int) (b : Nat) (L : Nat → Bool) (s : Nat → Value) (w : World) : Prop where
  mu : Mut [] V w
  e0 : L 0 = true → s 25 = .bool true
  e1 : L 1 = true → s 26 = .bool false
structure Mk3 (V : World) (i : Int) (j : Int) (sp : (Int × Int)) (c : Int) (r : Int) (ts : List Tm) (ao : Option Addr) (cap : Nat) (p : Int) (lo : Int) (hi : Int) (x : Int) (y : Int) (b : Nat) (L : Nat → Bool) (s : Nat → Value) (w : World) : Prop where
  mu : Mut [] V w
  e0 : L 0 = true → s 27 = .agg #[.int .i16 c, .slice ao ts.length cap, .int .u16 r]
  e1 : L 1 = true → s 28 = mval (dModel c ts r)
  e2 : L 2 = true → s 29 = .agg #[.int .u8 p, .int .i64 lo, .int .i64 hi]
  e3 : L 3 = true → s 30 = .agg #[.int .i16 c, .slice ao ts.length cap, .int .u16 r]
  e4 : L 4 = true → s 31 = mval (dModel c ts r)
  e5 : L 5 = true → s 32 = mval (bendOf p (lo, hi) (dModel c ts r))
  e6 : L 6 = true → s 33 = .agg #[.int .i16 c, .slice ao ts.length cap, .int .u16 r]
  e7 : L 7 = true → s 34 = mval (dNear c ts r)
  e8 : L 8 = true → s 35 = mval (dModel c ts r ++ bendOf p (lo, hi) (dModel c ts r) ++ dNear c ts r)
  e9 : L 9 = true → s 36 = .int .i64 ((0 : Nat) : Int)
structure Mk5 (V : World) (i : Int) (j : Int) (sp : (Int × Int)) (c : Int) (r : Int) (ts : List Tm) (ao : Option Addr) (cap : Nat) (p : Int) (lo : Int) (hi : Int) (x : Int) (y : Int) (b : Nat) (AA : List (Int × Int)) (k : Nat) (M : List (Int × Int)) (L : Nat → Bool) (s : Nat → Value) (w : World) : Prop where
  mu : Mut [] V w
  e0 : L 0 = true → s 38 = mval M
  al_m : L 1 = true → ∃ g : Nat, s 14 = .pointer (some ⟨g, 0, none⟩) ∧ V.heap.size ≤ g ∧ g < w.heap.size ∧ (L 2 = false → w.heap[g]? = some (cobj 28 zeroM)) ∧ (L 2 = true → w.heap[g]? = some (cobj 28 M))
  b2_1 : L 2 = true → L 1 = true
structure Mk6 (V : World) (i : Int) (j : Int) (sp : (Int × Int)) (c : Int) (r : Int) (ts : List Tm) (ao : Option Addr) (cap : Nat) (p : Int) (lo : Int) (hi : Int) (x : Int) (y : Int) (b : Nat) (AA : List (Int × Int)) (k : Nat) (M : List (Int × Int)) (g0 : Nat) (L : Nat → Bool) (s : Nat → Value) (w : World) : Prop where
  mu : Mut [] V w
  e0 : L 0 = true → s 39 = mval M
  e1 : L 1 = true → s 40 = .int .i64 ((tRight M).2)
  e2 : L 2 = true → s 41 = mval M
  e3 : L 3 = true → s 42 = .int .i64 ((tRight M).2)
  e4 : L 4 = true → s 43 = .bool false
structure Mk9 (V : World) (i : Int) (j : Int) (sp : (Int × Int)) (c : Int) (r : Int) (ts : List Tm) (ao : Option Addr) (cap : Nat) (p : Int) (lo : Int) (hi : Int) (x : Int) (y : Int) (b : Nat) (L : Nat → Bool) (s : Nat → Value) (w : World) : Prop where
  mu : Mut [] V w
  e0 : L 0 = true → s 45 = .int .i64 i
  e1 : L 1 = true → s 46 = .int .i64 j
  e2 : L 2 = true → s 47 = .agg #[.int .i64 i, .int .i64 j]
  e3 : L 3 = true → s 48 = .pointer (some ⟨b + 1 + 1 + 1, 0, none⟩)
  e4 : L 4 = true → s 49 = .int .u8 x
  e5 : L 5 = true → s 50 = .int .u8 (x % 8)
  e6 : L 6 = true → s 51 = .int .i64 (x % 8)
  e7 : L 7 = true → s 52 = .pointer (some ⟨b + 1 + 1 + 1, 1, none⟩)
  e8 : L 8 = true → s 53 = .int .u8 y
  e9 : L 9 = true → s 54 = .int .u8 (y % 8)
  e10 : L 10 = true → s 55 = .int .i64 (y % 8)
  e11 : L 11 = true → s 56 = .agg #[.int .i64 (x % 8), .int .i64 (y % 8)]
  e12 : L 12 = true → s 57 = .agg #[.int .i64 i, .int .i64 j, .int .i64 (x % 8), .int .i64 (y % 8)]
  e13 : L 13 = true → s 58 = .int .i64 ((0 : Nat) : Int)
structure Mk17 (V : World) (i : Int) (j : Int) (sp : (Int × Int)) (c : Int) (r : Int) (ts : List Tm) (ao : Option Addr) (cap : Nat) (p : Int) (lo : Int) (hi : Int) (x : Int) (y : Int) (b : Nat) (L : Nat → Bool) (s : Nat → Value) (w : World) : Prop where
  mu : Mut [] V w
  e0 : L 0 = true → s 87 = sval sp
  e1 : L 1 = true → s 88 = .tuple #[mval (xConst sp).1, .int .i64 (xConst sp).2]
  e2 : L 2 = true → s 86 = .tuple #[mval (xConst sp).1, .int .i64 (xConst sp).2]
  e3 : L 3 = true → s 89 = mval ((xConst sp).1)
  e4 : L 4 = true → s 90 = .int .i64 ((xConst sp).2)
  al_ka : L 5 = true → ∃ g : Nat, s 21 = .pointer (some ⟨g, 0, none⟩) ∧ V.heap.size ≤ g ∧ g < w.heap.size ∧ (L 6 = false → w.heap[g]? = some (cobj 28 zeroM)) ∧ (L 6 = true → w.heap[g]? = some (cobj 28 ((xConst sp).1)))
  e7 : L 7 = true → s 22 = .int .i64 ((xConst sp).2)
  b6_5 : L 6 = true → L 5 = true
structure Mk18 (V : World) (i : Int) (j : Int) (sp : (Int × Int)) (c : Int) (r : Int) (ts : List Tm) (ao : Option Addr) (cap : Nat) (p : Int) (lo : Int) (hi : Int) (x : Int) (y : Int) (b : Nat) (g1 : Nat) (L : Nat → Bool) (s : Nat → Value) (w : World) : Prop where
  mu : Mut [] V w
  e0 : L 0 = true → s 92 = sval sp
  e1 : L 1 = true → s 93 = .tuple #[mval (xConst sp).1, .int .i64 (xConst sp).2]
  e2 : L 2 = true → s 91 = .tuple #[mval (xConst sp).1, .int .i64 (xConst sp).2]
  e3 : L 3 = true → s 94 = mval ((xConst sp).1)
  e4 : L 4 = true → s 95 = .int .i64 ((xConst sp).2)
  al_kb : L 5 = true → ∃ g : Nat, s 23 = .pointer (some ⟨g, 0, none⟩) ∧ V.heap.size ≤ g ∧ g < w.heap.size ∧ (L 6 = false → w.heap[g]? = some (cobj 28 zeroM)) ∧ (L 6 = true → w.heap[g]? = some (cobj 28 ((xConst sp).1)))
  e7 : L 7 = true → s 24 = .int .i64 ((xConst sp).2)
  b6_5 : L 6 = true → L 5 = true
structure Mk19 (V : World) (i : Int) (j : Int) (sp : (Int × Int)) (c : Int) (r : Int) (ts : List Tm) (ao : Option Addr) (cap : Nat) (p : Int) (lo : Int) (hi : Int) (x : Int) (y : Int) (b : Nat) (g1 : Nat) (g2 : Nat) (L : Nat → Bool) (s : Nat → Value) (w : World) : Prop where
  mu : Mut [] V w
  e0 : L 0 = true → s 96 = mval ((xConst sp).1)
  e1 : L 1 = true → s 97 = .int .i64 ((xConst sp).2)
  e2 : L 2 = true → s 98 = mval ((xConst sp).1)
  e3 : L 3 = true → s 99 = .int .i64 ((xConst sp).2)
  e4 : L 4 = true → s 100 = .bool true
  e5 : L 5 = true → s 101 = .bool true
  e6 : L 6 = true → s 102 = mval xU
  e7 : L 7 = true → s 103 = mval xU
  e8 : L 8 = true → s 104 = .bool true
  e9 : L 9 = true → s 105 = .bool true
  e10 : L 10 = true → s 106 = .bool true
  e11 : L 11 = true → s 107 = mval xV
  e12 : L 12 = true → s 108 = mval xV
  e13 : L 13 = true → s 109 = .bool true
  e14 : L 14 = true → s 110 = .bool true
  e15 : L 15 = true → s 12 = .bool true
theorem xConst_len (sp : Int × Int) : (xConst sp).1.length = 22 := by
  unfold xConst
  split <;> simp [zeroM]
set_option maxRecDepth 100000 in
set_option maxHeartbeats 8000000 in
theorem taylorMakes_walk (i j : Int) (sp : Int × Int) (c r : Int) (ts : List Tm) (ao : Option Addr) (cap : Nat) (p lo hi x y : Int) (hy : (-32768 ≤ c ∧ c ≤ 32767) ∧ (0 ≤ r ∧ r ≤ 65535) ∧ (0 ≤ p ∧ p ≤ 255) ∧ (0 ≤ x ∧ x ≤ 255) ∧ 0 ≤ y ∧ y ≤ 255) (w : World) (ht : TmSl w ao cap ts) :
    Calls Try.prog 4 #[.int .i64 i, .int .i64 j, .agg #[.int .i64 sp.1, .int .i64 sp.2], .agg #[.int .i16 c, .slice ao ts.length cap, .int .u16 r], .agg #[.int .u8 p, .int .i64 lo, .int .i64 hi], .agg #[.int .u8 x, .int .u8 y]] w fun e w' => e = .returned (.bool true) ∧ Below w.heap.size w w' := by
  have HY := Lib.hid hy
  have HT := Lib.hid ht
  clear hy ht
  go_enter Try.func4, Try.ntmps4
  refine wp_seq_k fun K0 hK0 => ?_
  have HK0 := Lib.hid hK0
  clear hK0
  go_wp2_with fail
  obtain ⟨b, hb⟩ : ∃ b, w.heap.size = b := ⟨_, rfl⟩
  refine HK0.out _ _ ?_
  refine wp_world (fun V => Mut [] w V ∧ V.heap[b]? = some (cobj 25 [sp]) ∧ V.heap[b + 1]? = some (.cells #[.int .i16 c, .slice ao ts.length cap, .int .u16 r] 45 (0, 0)) ∧ V.heap[b + 1 + 1]? = some (.cells #[.int .u8 p, .int .i64 lo, .int .i64 hi] 47 (0, 0)) ∧ V.heap[b + 1 + 1 + 1]? = some (.cells #[.int .u8 x, .int .u8 y] 48 (0, 0))) ?_
    (by
      rw [← hb]
      exact ⟨(((((Mut.refl _ _).alloc _).alloc _).alloc _).alloc _), heap_up _ (heap_up _ (heap_up _ (heap_at (cobj 25 [sp]) (by simp)))), heap_up _ (heap_up _ (heap_at (.cells #[.int .i16 c, .slice ao ts.length cap, .int .u16 r] 45 (0, 0)) (by simp))), heap_up _ (heap_at (.cells #[.int .u8 p, .int .i64 lo, .int .i64 hi] 47 (0, 0)) (by simp)), heap_at (.cells #[.int .u8 x, .int .u8 y] 48 (0, 0)) (by simp)⟩)
  rintro V ⟨hm, hHSP, hHD, hHQ, hHZZ⟩
  rw [hb]
  have HM := Lib.hid hm
  have HBW := Lib.hid hb
  have HLT := Lib.hid trivial
  have HSP := Lib.hid hHSP
  have HD := Lib.hid hHD
  have HQ := Lib.hid hHQ
  have HZZ := Lib.hid hHZZ
  clear hm hHSP hHD hHQ hHZZ hb HK0
  refine wp_seq_k fun KA hKA => ?_
  have HKA := Lib.hid hKA
  clear hKA
  refine wp_seq_k fun K1 hK1 => ?_
  have HK1 := Lib.hid hK1
  clear hK1
  refine wp_cut_mergeP [none, none, none, none, none, none, none, none, none, none, none, none, none, none, none, none, none, none, none, none, none, none, none, none, none, some 25, some 26, none, none, none, none, none, none, none, none, none, none, none, none, none, none, none, none, none, none, none, none, none, none, none, none, none, none, none, none, none, none, none, none, none, none, none, none, none, none, none, none, none, none, none, none, none, none, none, none, none, none, none, none, none, none, none, none, none, none, none, none, none, none, none, none, none, none, none, none, none, none, none, none, none, none, none, none, none, none, none, none, none, none, none, none] (fun s w' => Mut [] V w' ∧ s 26 = .bool false) (fun _ _ => False) ?_ ?_ ?_
  · intro Q2 hQ2 hP2
    refine (wpIn_wide (n := 0)).1 (show Code.wpIn (G none) 0 _ _ _ _ _ from ?_)
    refine wp_region_G (b := false) (Pn := (fun _ _ => False)) (Mk1 V i j sp c r ts ao cap p lo hi x y b) (by kernel_rfl) (by kernel_rfl) ?_ ?_ ?_ ?_
    · exact ⟨Mut.start _ false _, fun h => absurd h Bool.false_ne_true, fun h => absurd h Bool.false_ne_true⟩
    · refine AllSP.cons ?_ (AllSP.cons ?_ AllSP.nil)
      · intro L s w2 h hk hd hn
        refine stepSP rfl fun K hK => ?_
        go_simp
        refine (law21_works _).mono ?_
        rintro e w3 ⟨rfl, hb⟩
        exact .inl ⟨_, rfl, hK _ _ { h with mu := h.mu.step hb, e0 := fun _ => rfl }⟩
      · intro L s w2 h hk hd hn
        have s25 := h.e0 hd.1
        refine stepSP rfl fun K hK => ?_
        go_simp
        exact hK _ _ { h with e1 := fun _ => rfl }
    · intro L s w2 h hk hl
      refine (congrArg (fun a => Q2 .normal a w2) (?_ : _ = _)).mpr (hQ2 s w2 (⟨h.mu, h.e1 (hl 1 (by decide))⟩))
      exact frame_eq hk (by kernel_rfl) (by kernel_rfl)
    · intro c s w2 hc
      exact hc.elim
  rotate_left
  · rintro _ _ _ h
    exact h.elim
  rintro s1 V ⟨h1, k26⟩
  simp only [mergeL]
  rw [k26]
  replace HSP := Lib.hid ((h1.same _ (lt_of_block HSP.out) (by simp)).trans HSP.out)
  replace HD := Lib.hid ((h1.same _ (lt_of_block HD.out) (by simp)).trans HD.out)
  replace HQ := Lib.hid ((h1.same _ (lt_of_block HQ.out) (by simp)).trans HQ.out)
  replace HZZ := Lib.hid ((h1.same _ (lt_of_block HZZ.out) (by simp)).trans HZZ.out)
  replace HM := Lib.hid (HM.out.stepM h1 (by simp))
  clear h1 k26
  refine HK1.out _ _ ?_
  go_wp2_with fail
  refine HKA.out _ _ ?_
  refine wp_seq_k fun KB hKB => ?_
  have HKB := Lib.hid hKB
  clear hKB
  refine wp_seq_k fun K3 hK3 => ?_
  have HK3 := Lib.hid hK3
  clear hK3
  refine wp_cut_mergeP [none, none, none, none, none, none, none, none, none, none, none, none, none, none, none, none, none, none, none, none, none, none, none, none, none, none, none, some 27, some 28, some 29, some 30, some 31, some 32, some 33, some 34, some 35, some 36, none, none, none, none, none, none, none, none, none, none, none, none, none, none, none, none, none, none, none, none, none, none, none, none, none, none, none, none, none, none, none, none, none, none, none, none, none, none, none, none, none, none, none, none, none, none, none, none, none, none, none, none, none, none, none, none, none, none, none, none, none, none, none, none, none, none, none, none, none, none, none, none, none, none] (fun s w' => Mut [] V w' ∧ s 35 = mval (dModel c ts r ++ bendOf p (lo, hi) (dModel c ts r) ++ dNear c ts r) ∧ s 36 = .int .i64 ((0 : Nat) : Int)) (fun _ _ => False) ?_ ?_ ?_
  · intro Q2 hQ2 hP2
    refine (wpIn_wide (n := 0)).1 (show Code.wpIn (G none) 0 _ _ _ _ _ from ?_)
    refine wp_region_G (b := true) (Pn := (fun _ _ => False)) (Mk3 V i j sp c r ts ao cap p lo hi x y b) (by kernel_rfl) (by kernel_rfl) ?_ ?_ ?_ ?_
    · exact ⟨Mut.start _ true _, fun h => absurd h Bool.false_ne_true, fun h => absurd h Bool.false_ne_true, fun h => absurd h Bool.false_ne_true, fun h => absurd h Bool.false_ne_true, fun h => absurd h Bool.false_ne_true, fun h => absurd h Bool.false_ne_true, fun h => absurd h Bool.false_ne_true, fun h => absurd h Bool.false_ne_true, fun h => absurd h Bool.false_ne_true, fun h => absurd h Bool.false_ne_true⟩
    · refine AllSP.cons ?_ (AllSP.cons ?_ (AllSP.cons ?_ (AllSP.cons ?_ (AllSP.cons ?_ (AllSP.cons ?_ (AllSP.cons ?_ (AllSP.cons ?_ (AllSP.cons ?_ (AllSP.cons ?_ AllSP.nil)))))))))
      · intro L s w2 h hk hd hn
        have s9 : s 9 = _ := hk 9 (by kernel_rfl)
        have kqka := (h.mu.same _ (lt_of_block HD.out) (by simp)).trans HD.out
        have ka : w2.cell? ⟨b + 1, 0, none⟩ = some (.int .i16 c) := by rw [cell_of_row w2 (b + 1) 0 _ _ _ kqka]; rfl
        have kqkb := (h.mu.same _ (lt_of_block HD.out) (by simp)).trans HD.out
        have kb : w2.cell? ⟨b + 1, 1, none⟩ = some (.slice ao ts.length cap) := by rw [cell_of_row w2 (b + 1) 1 _ _ _ kqkb]; rfl
        have kqkc := (h.mu.same _ (lt_of_block HD.out) (by simp)).trans HD.out
        have kc : w2.cell? ⟨b + 1, 2, none⟩ = some (.int .u16 r) := by rw [cell_of_row w2 (b + 1) 2 _ _ _ kqkc]; rfl
        refine stepSP rfl fun K hK => ?_
        go_simp
        exact hK _ _ { h with e0 := fun _ => rfl }
      · intro L s w2 h hk hd hn
        have s27 := h.e0 hd.1
        refine stepSP rfl fun K hK => ?_
        go_simp
        refine (dr_Model c r ts ao cap HY.out.1 HY.out.2.1 _ (HT.out.on (HM.out.trans h.mu).to0)).mono ?_
        rintro e w3 ⟨rfl, hb⟩
        exact .inl ⟨_, rfl, hK _ _ { h with mu := h.mu.step hb, e1 := fun _ => rfl }⟩
      · intro L s w2 h hk hd hn
        have s10 : s 10 = _ := hk 10 (by kernel_rfl)
        have kqka := (h.mu.same _ (lt_of_block HQ.out) (by simp)).trans HQ.out
        have ka : w2.cell? ⟨b + 1 + 1, 0, none⟩ = some (.int .u8 p) := by rw [cell_of_row w2 (b + 1 + 1) 0 _ _ _ kqka]; rfl
        have kqkb := (h.mu.same _ (lt_of_block HQ.out) (by simp)).trans HQ.out
        have kb : w2.cell? ⟨b + 1 + 1, 1, none⟩ = some (.int .i64 lo) := by rw [cell_of_row w2 (b + 1 + 1) 1 _ _ _ kqkb]; rfl
        have kqkc := (h.mu.same _ (lt_of_block HQ.out) (by simp)).trans HQ.out
        have kc : w2.cell? ⟨b + 1 + 1, 2, none⟩ = some (.int .i64 hi) := by rw [cell_of_row w2 (b + 1 + 1) 2 _ _ _ kqkc]; rfl
        refine stepSP rfl fun K hK => ?_
        go_simp
        exact hK _ _ { h with e2 := fun _ => rfl }
      · intro L s w2 h hk hd hn
        have s9 : s 9 = _ := hk 9 (by kernel_rfl)
        have kqka := (h.mu.same _ (lt_of_block HD.out) (by simp)).trans HD.out
        have ka : w2.cell? ⟨b + 1, 0, none⟩ = some (.int .i16 c) := by rw [cell_of_row w2 (b + 1) 0 _ _ _ kqka]; rfl
        have kqkb := (h.mu.same _ (lt_of_block HD.out) (by simp)).trans HD.out
        have kb : w2.cell? ⟨b + 1, 1, none⟩ = some (.slice ao ts.length cap) := by rw [cell_of_row w2 (b + 1) 1 _ _ _ kqkb]; rfl
        have kqkc := (h.mu.same _ (lt_of_block HD.out) (by simp)).trans HD.out
        have kc : w2.cell? ⟨b + 1, 2, none⟩ = some (.int .u16 r) := by rw [cell_of_row w2 (b + 1) 2 _ _ _ kqkc]; rfl
        refine stepSP rfl fun K hK => ?_
        go_simp
        exact hK _ _ { h with e3 := fun _ => rfl }
      · intro L s w2 h hk hd hn
        have s30 := h.e3 hd.1
        refine stepSP rfl fun K hK => ?_
        go_simp
        refine (dr_Model c r ts ao cap HY.out.1 HY.out.2.1 _ (HT.out.on (HM.out.trans h.mu).to0)).mono ?_
        rintro e w3 ⟨rfl, hb⟩
        exact .inl ⟨_, rfl, hK _ _ { h with mu := h.mu.step hb, e4 := fun _ => rfl }⟩
      · intro L s w2 h hk hd hn
        have s29 := h.e2 hd.1
        have s31 := h.e4 hd.2.1
        refine stepSP rfl fun K hK => ?_
        go_simp
        refine (dr_Of p lo hi (dModel c ts r) HY.out.2.2.1 (dModel_len _ _ _) _).mono ?_
        rintro e w3 ⟨rfl, hb⟩
        exact .inl ⟨_, rfl, hK _ _ { h with mu := h.mu.step hb, e5 := fun _ => rfl }⟩
      · intro L s w2 h hk hd hn
        have s9 : s 9 = _ := hk 9 (by kernel_rfl)
        have kqka := (h.mu.same _ (lt_of_block HD.out) (by simp)).trans HD.out
        have ka : w2.cell? ⟨b + 1, 0, none⟩ = some (.int .i16 c) := by rw [cell_of_row w2 (b + 1) 0 _ _ _ kqka]; rfl
        have kqkb := (h.mu.same _ (lt_of_block HD.out) (by simp)).trans HD.out
        have kb : w2.cell? ⟨b + 1, 1, none⟩ = some (.slice ao ts.length cap) := by rw [cell_of_row w2 (b + 1) 1 _ _ _ kqkb]; rfl
        have kqkc := (h.mu.same _ (lt_of_block HD.out) (by simp)).trans HD.out
        have kc : w2.cell? ⟨b + 1, 2, none⟩ = some (.int .u16 r) := by rw [cell_of_row w2 (b + 1) 2 _ _ _ kqkc]; rfl
        refine stepSP rfl fun K hK => ?_
        go_simp
        exact hK _ _ { h with e6 := fun _ => rfl }
      · intro L s w2 h hk hd hn
        have s33 := h.e6 hd.1
        refine stepSP rfl fun K hK => ?_
        go_simp
        refine (dr_Near c r ts ao cap HY.out.1 HY.out.2.1 _ (HT.out.on (HM.out.trans h.mu).to0)).mono ?_
        rintro e w3 ⟨rfl, hb⟩
        exact .inl ⟨_, rfl, hK _ _ { h with mu := h.mu.step hb, e7 := fun _ => rfl }⟩
      · intro L s w2 h hk hd hn
        have s28 := h.e1 hd.1
        have s32 := h.e5 hd.2.1
        have s34 := h.e7 hd.2.2.1
        refine stepSP rfl fun K hK => ?_
        exact rs_bld rfl (by simp [evS_tmp, s28, s32, s34]) (bd_m3 (dModel_len c ts r) ((bendOf_len p (lo, hi) (dModel c ts r)).trans (dModel_len c ts r)) (dNear_len c ts r) _) (hK _ _ { h with e8 := fun _ => rfl })
      · intro L s w2 h hk hd hn
        refine stepSP rfl fun K hK => ?_
        exact rs_move rfl rfl (hK _ _ { h with e9 := fun _ => rfl })
    · intro L s w2 h hk hl
      refine (congrArg (fun a => Q2 .normal a w2) (?_ : _ = _)).mpr (hQ2 s w2 (⟨h.mu, h.e8 (hl 8 (by decide)), h.e9 (hl 9 (by decide))⟩))
      exact frame_eq hk (by kernel_rfl) (by kernel_rfl)
    · intro c s w2 hc
      exact hc.elim
  rotate_left
  · rintro _ _ _ h
    exact h.elim
  rintro s3 V ⟨h1, k35, k36⟩
  simp only [mergeL]
  rw [k35]
  rw [k36]
  replace HSP := Lib.hid ((h1.same _ (lt_of_block HSP.out) (by simp)).trans HSP.out)
  replace HD := Lib.hid ((h1.same _ (lt_of_block HD.out) (by simp)).trans HD.out)
  replace HQ := Lib.hid ((h1.same _ (lt_of_block HQ.out) (by simp)).trans HQ.out)
  replace HZZ := Lib.hid ((h1.same _ (lt_of_block HZZ.out) (by simp)).trans HZZ.out)
  replace HM := Lib.hid (HM.out.stepM h1 (by simp))
  clear h1 k35 k36
  refine HK3.out _ _ ?_
  obtain ⟨A1, hA1⟩ : ∃ A1, dModel c ts r = A1 := ⟨_, rfl⟩
  have HL1 := Lib.hid (show A1.length = 22 by rw [← hA1]; exact dModel_len c ts r)
  rw [hA1]
  obtain ⟨A2, hA2⟩ : ∃ A2, bendOf p (lo, hi) A1 = A2 := ⟨_, rfl⟩
  have HL2 := Lib.hid (show A2.length = 22 by rw [← hA2, bendOf_len]; exact HL1.out)
  rw [hA2]
  obtain ⟨A3, hA3⟩ : ∃ A3, dNear c ts r = A3 := ⟨_, rfl⟩
  have HL3 := Lib.hid (show A3.length = 22 by rw [← hA3]; exact dNear_len c ts r)
  rw [hA3]
  obtain ⟨AA, hAA⟩ : ∃ AA, A1 ++ A2 ++ A3 = AA := ⟨_, rfl⟩
  have HAA := Lib.hid hAA
  rw [hAA]
  clear hA1 hA2 hA3 hAA
  go_wp2_with fail
  go_loopw [36] (fun x wr => ∃ k : Nat, k ≤ 3 ∧ x = .int .i64 k ∧ Hid (Mut [] V wr)) (fun x _ => 3 - (intOf x).toNat)
  case atStart => exact ⟨0, by omega, rfl, Lib.hid (Mut.refl _ _)⟩
  case round =>
    obtain ⟨k, hk, rfl, HG⟩ := hrel
    replace HSP := Lib.hid ((HG.out.same _ (lt_of_block HSP.out) (by simp)).trans HSP.out)
    replace HD := Lib.hid ((HG.out.same _ (lt_of_block HD.out) (by simp)).trans HD.out)
    replace HQ := Lib.hid ((HG.out.same _ (lt_of_block HQ.out) (by simp)).trans HQ.out)
    replace HZZ := Lib.hid ((HG.out.same _ (lt_of_block HZZ.out) (by simp)).trans HZZ.out)
    have HM0 := HM
    have hm2 := HM.out.trans HG.out
    refine wp_world (fun U => Mut [] w U ∧ Mut [] V U ∧ U.heap[b]? = some (cobj 25 ([sp])) ∧ U.heap[b + 1]? = some (.cells #[.int .i16 c, .slice ao ts.length cap, .int .u16 r] 45 (0, 0)) ∧ U.heap[b + 1 + 1]? = some (.cells #[.int .u8 p, .int .i64 lo, .int .i64 hi] 47 (0, 0)) ∧ U.heap[b + 1 + 1 + 1]? = some (.cells #[.int .u8 x, .int .u8 y] 48 (0, 0))) ?_ ⟨hm2, HG.out, HSP.out, HD.out, HQ.out, HZZ.out⟩
    clear hm2 HM0 HM HG HSP HD HQ HZZ
    rintro V ⟨q1, q2, qHSP, qHD, qHQ, qHZZ⟩
    have HM := Lib.hid q1
    have HGM := Lib.hid q2
    have HSP := Lib.hid qHSP
    have HD := Lib.hid qHD
    have HQ := Lib.hid qHQ
    have HZZ := Lib.hid qHZZ
    clear q1 q2 qHSP qHD qHQ qHZZ
    rcases Nat.lt_or_ge k 3 with hk' | hk'
    · obtain ⟨M, hml, hix⟩ : ∃ M : List (Int × Int), M.length = 22 ∧ ∀ W, (Instr.index 51 (mval AA) (.int .i64 (k : Int))).run Try.prog W = .ok (mval M) W := by
        rw [← HAA.out]
        obtain rfl | rfl | rfl : k = 0 ∨ k = 1 ∨ k = 2 := by omega
        · exact ⟨A1, HL1.out, fun W => ix_m30 HL1.out HL2.out HL3.out W⟩
        · exact ⟨A2, HL2.out, fun W => ix_m31 HL1.out HL2.out HL3.out W⟩
        · exact ⟨A3, HL3.out, fun W => ix_m32 HL1.out HL2.out HL3.out W⟩
      have HML := Lib.hid hml
      have HIX := Lib.hid hix
      have HKK := Lib.hid hk'
      have t1 : decide ((k : Int) < 3) = true := by simp; omega
      have k0 : (0 : Int) ≤ (k : Int) := by omega
      have k1 : (k : Int) < 3 := by omega
      clear hml hix hk hk'
      refine wp_seq_k fun K1 hK1 => ?_
      have HK1 := Lib.hid hK1
      clear hK1
      go_wp2_with fail
      refine HK1.out _ _ ?_
      refine wp_seq_k fun K2 hK2 => ?_
      have HK2 := Lib.hid hK2
      clear hK2
      go_wp2_with fail
      refine HK2.out _ _ ?_
      refine wp_seq_k fun K3 hK3 => ?_
      have HK3 := Lib.hid hK3
      clear hK3
      refine wp_block ?_
      refine wp_seq_k fun K5 hK5 => ?_
      have HK5 := Lib.hid hK5
      clear hK5
      refine wp_cut_mergeP [none, none, none, none, none, none, none, none, none, none, none, none, none, none, some 14, none, none, none, none, none, none, none, none, none, none, none, none, none, none, none, none, none, none, none, none, none, none, none, some 38, none, none, none, none, none, none, none, none, none, none, none, none, none, none, none, none, none, none, none, none, none, none, none, none, none, none, none, none, none, none, none, none, none, none, none, none, none, none, none, none, none, none, none, none, none, none, none, none, none, none, none, none, none, none, none, none, none, none, none, none, none, none, none, none, none, none, none, none, none, none, none, none] (fun s w' => Mut [] V w' ∧ (∃ g : Nat, s 14 = .pointer (some ⟨g, 0, none⟩) ∧ V.heap.size ≤ g ∧ w'.heap[g]? = some (cobj 28 M))) (fun _ _ => False) ?_ ?_ ?_
      · intro Q2 hQ2 hP2
        refine (wpIn_wide (n := 0)).1 (show Code.wpIn (G none) 0 _ _ _ _ _ from ?_)
        refine wp_region_G (b := false) (Pn := (fun _ _ => False)) (Mk5 V i j sp c r ts ao cap p lo hi x y b AA k M) (by kernel_rfl) (by kernel_rfl) ?_ ?_ ?_ ?_
        · exact ⟨Mut.start _ false _, fun h => absurd h Bool.false_ne_true, fun h => absurd h Bool.false_ne_true, fun h => absurd h Bool.false_ne_true⟩
        · refine AllSP.cons ?_ (AllSP.cons ?_ (AllSP.cons ?_ AllSP.nil))
          · intro L s w2 h hk hd hn
            have s35 : s 35 = _ := hk 35 (by kernel_rfl)
            have s36 : s 36 = _ := hk 36 (by kernel_rfl)
            refine stepSP rfl fun K hK => ?_
            exact rs_idx rfl s35 s36 (HIX.out _) (hK _ _ { h with e0 := fun _ => rfl })
          · intro L s w2 h hk hd hn
            refine stepSP rfl fun K hK => ?_
            go_simp
            exact hK _ _ { h with mu := h.mu.alloc _, al_m := fun _ => ⟨_, rfl, h.mu.size, by simp, fun _ => heap_at _ rfl, fun a => absurd (h.b2_1 a) (by rw [hn]; exact Bool.false_ne_true)⟩, b2_1 := fun _ => rfl }
          · intro L s w2 h hk hd hn
            have s38 := h.e0 hd.2.1
            obtain ⟨g, hg0, hg1, hgl, hg2, hg3⟩ := h.al_m hd.1
            have kb := hg2 hn
            refine stepSP rfl fun K hK => ?_
            exact rs_store rfl hg0 s38 (md_store kb rfl _ HML.out) (hK _ _ { h with mu := h.mu.putNew hg1 _, al_m := fun a => ⟨g, hg0, hg1, by simpa using hgl, nF, fun _ => pH kb⟩, b2_1 := fun _ => hd.1 })
        · intro L s w2 h hk hl
          refine (congrArg (fun a => Q2 .normal a w2) (?_ : _ = _)).mpr (hQ2 s w2 (⟨h.mu, (let ⟨g, h0, h1, _, _, h3⟩ := h.al_m (hl 1 (by decide)); ⟨g, h0, h1, h3 (hl 2 (by decide))⟩)⟩))
          exact frame_eq hk (by kernel_rfl) (by kernel_rfl)
        · intro c s w2 hc
          exact hc.elim
      rotate_left
      · rintro _ _ _ h
        exact h.elim
      rintro s5 V ⟨h1, ⟨g0, k_m, g_m, c_m⟩⟩
      simp only [mergeL]
      rw [k_m]
      replace HLT := Lib.hid (show b ≤ g0 ∧ b < g0 ∧ b + 1 < g0 ∧ b + 1 + 1 < g0 ∧ b + 1 + 1 + 1 < g0 from by
        have hlt := HLT.out
        have hbw := HM.out.size
        have hbw2 := HBW.out
        have := lt_of_block HSP.out
        have := lt_of_block HD.out
        have := lt_of_block HQ.out
        have := lt_of_block HZZ.out
        omega)
      replace HSP := Lib.hid ((h1.same _ (lt_of_block HSP.out) (by simp)).trans HSP.out)
      replace HD := Lib.hid ((h1.same _ (lt_of_block HD.out) (by simp)).trans HD.out)
      replace HQ := Lib.hid ((h1.same _ (lt_of_block HQ.out) (by simp)).trans HQ.out)
      replace HZZ := Lib.hid ((h1.same _ (lt_of_block HZZ.out) (by simp)).trans HZZ.out)
      have HMB := Lib.hid c_m
      replace HM := Lib.hid (HM.out.stepM h1 (by simp))
      have HF5 := Lib.hid (HGM.out.trans h1)
      clear h1 k_m g_m c_m
      refine HK5.out _ _ ?_
      refine wp_seq_k fun K6 hK6 => ?_
      have HK6 := Lib.hid hK6
      clear hK6
      refine wp_cut_mergeP [none, none, none, none, none, none, none, none, none, none, none, none, none, none, none, none, none, none, none, none, none, none, none, none, none, none, none, none, none, none, none, none, none, none, none, none, none, none, none, some 39, some 40, some 41, some 42, some 43, none, none, none, none, none, none, none, none, none, none, none, none, none, none, none, none, none, none, none, none, none, none, none, none, none, none, none, none, none, none, none, none, none, none, none, none, none, none, none, none, none, none, none, none, none, none, none, none, none, none, none, none, none, none, none, none, none, none, none, none, none, none, none, none, none, none, none] (fun s w' => Mut [] V w' ∧ s 43 = .bool false) (fun _ _ => False) ?_ ?_ ?_
      · intro Q2 hQ2 hP2
        refine (wpIn_wide (n := 0)).1 (show Code.wpIn (G none) 0 _ _ _ _ _ from ?_)
        refine wp_region_G (b := true) (Pn := (fun _ _ => False)) (Mk6 V i j sp c r ts ao cap p lo hi x y b AA k M g0) (by kernel_rfl) (by kernel_rfl) ?_ ?_ ?_ ?_
        · exact ⟨Mut.start _ true _, fun h => absurd h Bool.false_ne_true, fun h => absurd h Bool.false_ne_true, fun h => absurd h Bool.false_ne_true, fun h => absurd h Bool.false_ne_true, fun h => absurd h Bool.false_ne_true⟩
        · refine AllSP.cons ?_ (AllSP.cons ?_ (AllSP.cons ?_ (AllSP.cons ?_ (AllSP.cons ?_ AllSP.nil))))
          · intro L s w2 h hk hd hn
            have s14 : s 14 = _ := hk 14 (by kernel_rfl)
            have kb := ((h.mu.same _ ((Array.getElem?_eq_some_iff.1 HMB.out).1) (by simp)).trans HMB.out)
            refine stepSP rfl fun K hK => ?_
            exact rs_load rfl s14 (md_load kb HML.out) (hK _ _ { h with e0 := fun _ => rfl })
          · intro L s w2 h hk hd hn
            have s39 := h.e0 hd.1
            refine stepSP rfl fun K hK => ?_
            go_simp
            refine (taw_Check M HML.out _).mono ?_
            rintro e w3 ⟨rfl, hb⟩
            exact .inl ⟨_, rfl, hK _ _ { h with mu := h.mu.step hb, e1 := fun _ => rfl }⟩
          · intro L s w2 h hk hd hn
            have s14 : s 14 = _ := hk 14 (by kernel_rfl)
            have kb := ((h.mu.same _ ((Array.getElem?_eq_some_iff.1 HMB.out).1) (by simp)).trans HMB.out)
            refine stepSP rfl fun K hK => ?_
            exact rs_load rfl s14 (md_load kb HML.out) (hK _ _ { h with e2 := fun _ => rfl })
          · intro L s w2 h hk hd hn
            have s41 := h.e2 hd.1
            refine stepSP rfl fun K hK => ?_
            go_simp
            refine (rf_Check M HML.out _).mono ?_
            rintro e w3 ⟨rfl, hb⟩
            exact .inl ⟨_, rfl, hK _ _ { h with mu := h.mu.step hb, e3 := fun _ => rfl }⟩
          · intro L s w2 h hk hd hn
            have s40 := h.e1 hd.1
            have s42 := h.e3 hd.2.1
            refine stepSP rfl fun K hK => ?_
            go_simp
            exact hK _ _ { h with e4 := fun _ => congrArg Value.bool (by simp) }
        · intro L s w2 h hk hl
          refine (congrArg (fun a => Q2 .normal a w2) (?_ : _ = _)).mpr (hQ2 s w2 (⟨h.mu, h.e4 (hl 4 (by decide))⟩))
          exact frame_eq hk (by kernel_rfl) (by kernel_rfl)
        · intro c s w2 hc
          exact hc.elim
      rotate_left
      · rintro _ _ _ h
        exact h.elim
      rintro s6 V ⟨h1, k43⟩
      simp only [mergeL]
      rw [k43]
      replace HSP := Lib.hid ((h1.same _ (lt_of_block HSP.out) (by simp)).trans HSP.out)
      replace HD := Lib.hid ((h1.same _ (lt_of_block HD.out) (by simp)).trans HD.out)
      replace HQ := Lib.hid ((h1.same _ (lt_of_block HQ.out) (by simp)).trans HQ.out)
      replace HZZ := Lib.hid ((h1.same _ (lt_of_block HZZ.out) (by simp)).trans HZZ.out)
      replace HMB := Lib.hid ((h1.same _ (lt_of_block HMB.out) (by simp)).trans HMB.out)
      replace HM := Lib.hid (HM.out.stepM h1 (by simp))
      have HF6 := Lib.hid (HF5.out.trans h1)
      clear h1 k43
      refine HK6.out _ _ ?_
      go_wp2_with fail
      refine HK3.out _ _ ?_
      go_wp2_with fail
      go_roundw
      case rel => first | exact ⟨k + 1, by have := HKK.out; omega, by go_num, HF6⟩ | ((repeat apply Exists.intro); exact ⟨⟨k + 1, by have := HKK.out; omega, by go_num, HF6⟩, rfl⟩)
      case measure => simp [intOf]; have := HKK.out; omega
    · obtain rfl : k = 3 := by omega
      clear hk hk' HGM HL1 HL2 HL3 HAA
      go_wp2_with fail
      refine HKB.out _ _ ?_
      refine wp_seq_k fun KC hKC => ?_
      have HKC := Lib.hid hKC
      clear hKC
      refine wp_seq_k fun K9 hK9 => ?_
      have HK9 := Lib.hid hK9
      clear hK9
      refine wp_cut_mergeP [none, none, none, none, none, none, none, none, none, none, none, none, none, none, none, none, none, none, none, none, none, none, none, none, none, none, none, none, none, none, none, none, none, none, none, none, none, none, none, none, none, none, none, none, none, some 45, some 46, some 47, some 48, some 49, some 50, some 51, some 52, some 53, some 54, some 55, some 56, some 57, some 58, none, none, none, none, none, none, none, none, none, none, none, none, none, none, none, none, none, none, none, none, none, none, none, none, none, none, none, none, none, none, none, none, none, none, none, none, none, none, none, none, none, none, none, none, none, none, none, none, none, none, none, none] (fun s w' => Mut [] V w' ∧ s 57 = .agg #[.int .i64 i, .int .i64 j, .int .i64 (x % 8), .int .i64 (y % 8)] ∧ s 58 = .int .i64 ((0 : Nat) : Int)) (fun _ _ => False) ?_ ?_ ?_
      · intro Q2 hQ2 hP2
        refine (wpIn_wide (n := 0)).1 (show Code.wpIn (G none) 0 _ _ _ _ _ from ?_)
        refine wp_region_G (b := false) (Pn := (fun _ _ => False)) (Mk9 V i j sp c r ts ao cap p lo hi x y b) (by kernel_rfl) (by kernel_rfl) ?_ ?_ ?_ ?_
        · exact ⟨Mut.start _ false _, fun h => absurd h Bool.false_ne_true, fun h => absurd h Bool.false_ne_true, fun h => absurd h Bool.false_ne_true, fun h => absurd h Bool.false_ne_true, fun h => absurd h Bool.false_ne_true, fun h => absurd h Bool.false_ne_true, fun h => absurd h Bool.false_ne_true, fun h => absurd h Bool.false_ne_true, fun h => absurd h Bool.false_ne_true, fun h => absurd h Bool.false_ne_true, fun h => absurd h Bool.false_ne_true, fun h => absurd h Bool.false_ne_true, fun h => absurd h Bool.false_ne_true, fun h => absurd h Bool.false_ne_true⟩
        · refine AllSP.cons ?_ (AllSP.cons ?_ (AllSP.cons ?_ (AllSP.cons ?_ (AllSP.cons ?_ (AllSP.cons ?_ (AllSP.cons ?_ (AllSP.cons ?_ (AllSP.cons ?_ (AllSP.cons ?_ (AllSP.cons ?_ (AllSP.cons ?_ (AllSP.cons ?_ (AllSP.cons ?_ AllSP.nil)))))))))))))
          · intro L s w2 h hk hd hn
            have s0 : s 0 = _ := hk 0 (by kernel_rfl)
            refine stepSP rfl fun K hK => ?_
            exact rs_move rfl s0 (hK _ _ { h with e0 := fun _ => rfl })
          · intro L s w2 h hk hd hn
            have s1 : s 1 = _ := hk 1 (by kernel_rfl)
            refine stepSP rfl fun K hK => ?_
            exact rs_move rfl s1 (hK _ _ { h with e1 := fun _ => rfl })
          · intro L s w2 h hk hd hn
            have s45 := h.e0 hd.1
            have s46 := h.e1 hd.2.1
            refine stepSP rfl fun K hK => ?_
            go_simp
            exact hK _ _ { h with e2 := fun _ => rfl }
          · intro L s w2 h hk hd hn
            have s11 : s 11 = _ := hk 11 (by kernel_rfl)
            refine stepSP rfl fun K hK => ?_
            go_simp
            exact hK _ _ { h with e3 := fun _ => rfl }
          · intro L s w2 h hk hd hn
            have s48 := h.e3 hd.1
            have kqka := (h.mu.same _ (lt_of_block HZZ.out) (by simp)).trans HZZ.out
            have ka : w2.cell? ⟨b + 1 + 1 + 1, 0, none⟩ = some (.int .u8 x) := by rw [cell_of_row w2 (b + 1 + 1 + 1) 0 _ _ _ kqka]; rfl
            refine stepSP rfl fun K hK => ?_
            go_simp
            exact hK _ _ { h with e4 := fun _ => rfl }
          · intro L s w2 h hk hd hn
            have s49 := h.e4 hd.1
            have e1 := (mod8 HY.out.2.2.2.1).1
            have e2 := (mod8 HY.out.2.2.2.1).2.1
            refine stepSP rfl fun K hK => ?_
            go_simp
            exact hK _ _ { h with e5 := fun _ => rfl }
          · intro L s w2 h hk hd hn
            have s50 := h.e5 hd.1
            have e1 := (mod8 HY.out.2.2.2.1).2.2
            refine stepSP rfl fun K hK => ?_
            go_simp
            exact hK _ _ { h with e6 := fun _ => rfl }
          · intro L s w2 h hk hd hn
            have s11 : s 11 = _ := hk 11 (by kernel_rfl)
            refine stepSP rfl fun K hK => ?_
            go_simp
            exact hK _ _ { h with e7 := fun _ => rfl }
          · intro L s w2 h hk hd hn
            have s52 := h.e7 hd.1
            have kqka := (h.mu.same _ (lt_of_block HZZ.out) (by simp)).trans HZZ.out
            have ka : w2.cell? ⟨b + 1 + 1 + 1, 1, none⟩ = some (.int .u8 y) := by rw [cell_of_row w2 (b + 1 + 1 + 1) 1 _ _ _ kqka]; rfl
            refine stepSP rfl fun K hK => ?_
            go_simp
            exact hK _ _ { h with e8 := fun _ => rfl }
          · intro L s w2 h hk hd hn
            have s53 := h.e8 hd.1
            have e1 := (mod8 HY.out.2.2.2.2).1
            have e2 := (mod8 HY.out.2.2.2.2).2.1
            refine stepSP rfl fun K hK => ?_
            go_simp
            exact hK _ _ { h with e9 := fun _ => rfl }
          · intro L s w2 h hk hd hn
            have s54 := h.e9 hd.1
            have e1 := (mod8 HY.out.2.2.2.2).2.2
            refine stepSP rfl fun K hK => ?_
            go_simp
            exact hK _ _ { h with e10 := fun _ => rfl }
          · intro L s w2 h hk hd hn
            have s51 := h.e6 hd.1
            have s55 := h.e10 hd.2.1
            refine stepSP rfl fun K hK => ?_
            go_simp
            exact hK _ _ { h with e11 := fun _ => rfl }
          · intro L s w2 h hk hd hn
            have s47 := h.e2 hd.1
            have s56 := h.e11 hd.2.1
            refine stepSP rfl fun K hK => ?_
            go_simp
            exact hK _ _ { h with e12 := fun _ => rfl }
          · intro L s w2 h hk hd hn
            refine stepSP rfl fun K hK => ?_
            exact rs_move rfl rfl (hK _ _ { h with e13 := fun _ => rfl })
        · intro L s w2 h hk hl
          refine (congrArg (fun a => Q2 .normal a w2) (?_ : _ = _)).mpr (hQ2 s w2 (⟨h.mu, h.e12 (hl 12 (by decide)), h.e13 (hl 13 (by decide))⟩))
          exact frame_eq hk (by kernel_rfl) (by kernel_rfl)
        · intro c s w2 hc
          exact hc.elim
      rotate_left
      · rintro _ _ _ h
        exact h.elim
      rintro s9 V ⟨h1, k57, k58⟩
      simp only [mergeL]
      rw [k57]
      rw [k58]
      replace HSP := Lib.hid ((h1.same _ (lt_of_block HSP.out) (by simp)).trans HSP.out)
      replace HD := Lib.hid ((h1.same _ (lt_of_block HD.out) (by simp)).trans HD.out)
      replace HQ := Lib.hid ((h1.same _ (lt_of_block HQ.out) (by simp)).trans HQ.out)
      replace HZZ := Lib.hid ((h1.same _ (lt_of_block HZZ.out) (by simp)).trans HZZ.out)
      replace HM := Lib.hid (HM.out.stepM h1 (by simp))
      clear h1 k57 k58
      refine HK9.out _ _ ?_
      go_wp2_with fail
      go_loopw [58] (fun x wr => ∃ k : Nat, k ≤ 2 ∧ x = .int .i64 k ∧ Hid (Mut [] V wr)) (fun x _ => 2 - (intOf x).toNat)
      case atStart => exact ⟨0, by omega, rfl, Lib.hid (Mut.refl _ _)⟩
      case round =>
        obtain ⟨k, hk, rfl, HG⟩ := hrel
        replace HSP := Lib.hid ((HG.out.same _ (lt_of_block HSP.out) (by simp)).trans HSP.out)
        replace HD := Lib.hid ((HG.out.same _ (lt_of_block HD.out) (by simp)).trans HD.out)
        replace HQ := Lib.hid ((HG.out.same _ (lt_of_block HQ.out) (by simp)).trans HQ.out)
        replace HZZ := Lib.hid ((HG.out.same _ (lt_of_block HZZ.out) (by simp)).trans HZZ.out)
        have HM0 := HM
        have hm2 := HM.out.trans HG.out
        refine wp_world (fun U => Mut [] w U ∧ Mut [] V U ∧ U.heap[b]? = some (cobj 25 ([sp])) ∧ U.heap[b + 1]? = some (.cells #[.int .i16 c, .slice ao ts.length cap, .int .u16 r] 45 (0, 0)) ∧ U.heap[b + 1 + 1]? = some (.cells #[.int .u8 p, .int .i64 lo, .int .i64 hi] 47 (0, 0)) ∧ U.heap[b + 1 + 1 + 1]? = some (.cells #[.int .u8 x, .int .u8 y] 48 (0, 0))) ?_ ⟨hm2, HG.out, HSP.out, HD.out, HQ.out, HZZ.out⟩
        clear hm2 HM0 HM HG HSP HD HQ HZZ
        rintro V ⟨q1, q2, qHSP, qHD, qHQ, qHZZ⟩
        have HM := Lib.hid q1
        have HGM := Lib.hid q2
        have HSP := Lib.hid qHSP
        have HD := Lib.hid qHD
        have HQ := Lib.hid qHQ
        have HZZ := Lib.hid qHZZ
        clear q1 q2 qHSP qHD qHQ qHZZ
        rcases Nat.lt_or_ge k 2 with hk' | hk'
        · obtain ⟨q1, q2, hix⟩ : ∃ q1 q2 : Int, ∀ W, (Instr.index 54 (.agg #[.int .i64 i, .int .i64 j, .int .i64 (x % 8), .int .i64 (y % 8)]) (.int .i64 (k : Int))).run Try.prog W = .ok (.agg #[.int .i64 q1, .int .i64 q2]) W := by
            obtain rfl | rfl : k = 0 ∨ k = 1 := by omega
            · exact ⟨i, j, fun W => by kernel_rfl⟩
            · exact ⟨x % 8, y % 8, fun W => by kernel_rfl⟩
          have HKK := Lib.hid hk'
          have t1 : decide ((k : Int) < 2) = true := by simp; omega
          have k0 : (0 : Int) ≤ (k : Int) := by omega
          have k1 : (k : Int) < 2 := by omega
          clear hk hk'
          refine wp_seq_k fun K1 hK1 => ?_
          have HK1 := Lib.hid hK1
          clear hK1
          go_wp2_with fail
          refine HK1.out _ _ ?_
          refine wp_seq_k fun K2 hK2 => ?_
          have HK2 := Lib.hid hK2
          clear hK2
          go_wp2_with fail
          refine HK2.out _ _ ?_
          refine wp_seq_k fun K3 hK3 => ?_
          have HK3 := Lib.hid hK3
          clear hK3
          refine wp_block ?_
          refine wp_seq_k fun K4 hK4 => ?_
          have HK4 := Lib.hid hK4
          clear hK4
          go_wp2_with fail
          refine HK4.out _ _ ?_
          clear hix
          obtain ⟨g, hg⟩ : ∃ g, V.heap.size = g := ⟨_, rfl⟩
          refine wp_world (fun U => Mut [] V U ∧ U.heap[g]? = some (.cells #[.int .i64 q1, .int .i64 q2] 53 (0, 0))) ?_ (by rw [← hg]; exact ⟨(Mut.refl _ _).alloc _, heap_at _ (by simp)⟩)
          rintro U ⟨hu, hgx⟩
          rw [hg]
          have HU := Lib.hid (HGM.out.trans hu)
          have HGX := Lib.hid hgx
          clear hu hgx hg
          have g0 := cell_two0 HGX.out
          have g1 := cell_two1 HGX.out
          refine wp_seq_k fun K5 hK5 => ?_
          have HK5 := Lib.hid hK5
          clear hK5
          go_wp2_with fail
          refine (taw_Place q1 q2 _).mono ?_
          rintro e U2 ⟨rfl, hb⟩
          replace HU := Lib.hid (HU.out.step hb)
          replace HGX := Lib.hid ((hb.block _ (lt_of_block HGX.out)).trans HGX.out)
          clear hb g0 g1
          go_wp2_with fail
          refine HK5.out _ _ ?_
          have g0 := cell_two0 HGX.out
          have g1 := cell_two1 HGX.out
          refine wp_seq_k fun K6 hK6 => ?_
          have HK6 := Lib.hid hK6
          clear hK6
          go_wp2_with fail
          refine (rf_Place q1 q2 _).mono ?_
          rintro e U3 ⟨rfl, hb⟩
          replace HU := Lib.hid (HU.out.step hb)
          clear hb g0 g1
          go_wp2_with fail
          refine HK6.out _ _ ?_
          go_wp2_with fail
          refine HK3.out _ _ ?_
          go_wp2_with fail
          go_roundw
          case rel => first | exact ⟨k + 1, by have := HKK.out; omega, by go_num, HU⟩ | ((repeat apply Exists.intro); exact ⟨⟨k + 1, by have := HKK.out; omega, by go_num, HU⟩, rfl⟩)
          case measure => simp [intOf]; have := HKK.out; omega
        · obtain rfl : k = 2 := by omega
          clear hk hk' HGM
          go_wp2_with fail
          refine HKC.out _ _ ?_
          refine wp_seq_k fun K17 hK17 => ?_
          have HK17 := Lib.hid hK17
          clear hK17
          refine wp_cut_mergeP [none, none, none, none, none, none, none, none, none, none, none, none, none, none, none, none, none, none, none, none, none, some 21, some 22, none, none, none, none, none, none, none, none, none, none, none, none, none, none, none, none, none, none, none, none, none, none, none, none, none, none, none, none, none, none, none, none, none, none, none, none, none, none, none, none, none, none, none, none, none, none, none, none, none, none, none, none, none, none, none, none, none, none, none, none, none, none, none, some 86, some 87, some 88, some 89, some 90, none, none, none, none, none, none, none, none, none, none, none, none, none, none, none, none, none, none, none, none] (fun s w' => Mut [] V w' ∧ (∃ g : Nat, s 21 = .pointer (some ⟨g, 0, none⟩) ∧ V.heap.size ≤ g ∧ w'.heap[g]? = some (cobj 28 ((xConst sp).1))) ∧ s 22 = .int .i64 ((xConst sp).2)) (fun _ _ => False) ?_ ?_ ?_
          · intro Q2 hQ2 hP2
            refine (wpIn_wide (n := 0)).1 (show Code.wpIn (G none) 0 _ _ _ _ _ from ?_)
            refine wp_region_G (b := false) (Pn := (fun _ _ => False)) (Mk17 V i j sp c r ts ao cap p lo hi x y b) (by kernel_rfl) (by kernel_rfl) ?_ ?_ ?_ ?_
            · exact ⟨Mut.start _ false _, fun h => absurd h Bool.false_ne_true, fun h => absurd h Bool.false_ne_true, fun h => absurd h Bool.false_ne_true, fun h => absurd h Bool.false_ne_true, fun h => absurd h Bool.false_ne_true, fun h => absurd h Bool.false_ne_true, fun h => absurd h Bool.false_ne_true, fun h => absurd h Bool.false_ne_true⟩
            · refine AllSP.cons ?_ (AllSP.cons ?_ (AllSP.cons ?_ (AllSP.cons ?_ (AllSP.cons ?_ (AllSP.cons ?_ (AllSP.cons ?_ (AllSP.cons ?_ AllSP.nil)))))))
              · intro L s w2 h hk hd hn
                have s8 : s 8 = _ := hk 8 (by kernel_rfl)
                have kb := ((h.mu.same _ ((Array.getElem?_eq_some_iff.1 HSP.out).1) (by simp)).trans HSP.out)
                refine stepSP rfl fun K hK => ?_
                exact rs_load rfl s8 (sp_load (p := 0) kb (by simp)) (hK _ _ { h with e0 := fun _ => rfl })
              · intro L s w2 h hk hd hn
                have s87 := h.e0 hd.1
                refine stepSP rfl fun K hK => ?_
                go_simp
                refine (taw_Const sp _).mono ?_
                rintro e w3 ⟨rfl, hb⟩
                exact .inl ⟨_, rfl, hK _ _ { h with mu := h.mu.step hb, al_ka := fun a => let ⟨g, h0, h1, hl, h2, h3⟩ := h.al_ka a; ⟨g, h0, h1, Nat.lt_of_lt_of_le hl hb.size, fun c => (hb.block _ (lt_of_block (h2 c))).trans (h2 c), fun c => (hb.block _ (lt_of_block (h3 c))).trans (h3 c)⟩, e1 := fun _ => rfl }⟩
              · intro L s w2 h hk hd hn
                have s88 := h.e1 hd.1
                refine stepSP rfl fun K hK => ?_
                exact rs_move rfl s88 (hK _ _ { h with e2 := fun _ => rfl })
              · intro L s w2 h hk hd hn
                have s86 := h.e2 hd.1
                refine stepSP rfl fun K hK => ?_
                exact rs_extract rfl s86 rfl (hK _ _ { h with e3 := fun _ => rfl })
              · intro L s w2 h hk hd hn
                have s86 := h.e2 hd.1
                refine stepSP rfl fun K hK => ?_
                exact rs_extract rfl s86 rfl (hK _ _ { h with e4 := fun _ => rfl })
              · intro L s w2 h hk hd hn
                refine stepSP rfl fun K hK => ?_
                go_simp
                exact hK _ _ { h with mu := h.mu.alloc _, al_ka := fun _ => ⟨_, rfl, h.mu.size, by simp, fun _ => heap_at _ rfl, fun a => absurd (h.b6_5 a) (by rw [hn]; exact Bool.false_ne_true)⟩, b6_5 := fun _ => rfl }
              · intro L s w2 h hk hd hn
                have s89 := h.e3 hd.2.1
                obtain ⟨g, hg0, hg1, hgl, hg2, hg3⟩ := h.al_ka hd.1
                have kb := hg2 hn
                refine stepSP rfl fun K hK => ?_
                exact rs_store rfl hg0 s89 (md_store kb rfl _ (xConst_len sp)) (hK _ _ { h with mu := h.mu.putNew hg1 _, al_ka := fun a => ⟨g, hg0, hg1, by simpa using hgl, nF, fun _ => pH kb⟩, b6_5 := fun _ => hd.1 })
              · intro L s w2 h hk hd hn
                have s90 := h.e4 hd.1
                refine stepSP rfl fun K hK => ?_
                exact rs_assign rfl s90 (hK _ _ { h with e7 := fun _ => rfl })
            · intro L s w2 h hk hl
              refine (congrArg (fun a => Q2 .normal a w2) (?_ : _ = _)).mpr (hQ2 s w2 (⟨h.mu, (let ⟨g, h0, h1, _, _, h3⟩ := h.al_ka (hl 5 (by decide)); ⟨g, h0, h1, h3 (hl 6 (by decide))⟩), h.e7 (hl 7 (by decide))⟩))
              exact frame_eq hk (by kernel_rfl) (by kernel_rfl)
            · intro c s w2 hc
              exact hc.elim
          rotate_left
          · rintro _ _ _ h
            exact h.elim
          rintro s17 V ⟨h1, ⟨g1, k_ka, g_ka, c_ka⟩, k22⟩
          simp only [mergeL]
          rw [k_ka]
          rw [k22]
          replace HLT := Lib.hid (show b ≤ g1 ∧ b < g1 ∧ b + 1 < g1 ∧ b + 1 + 1 < g1 ∧ b + 1 + 1 + 1 < g1 from by
            have hlt := HLT.out
            have hbw := HM.out.size
            have hbw2 := HBW.out
            have := lt_of_block HSP.out
            have := lt_of_block HD.out
            have := lt_of_block HQ.out
            have := lt_of_block HZZ.out
            omega)
          replace HSP := Lib.hid ((h1.same _ (lt_of_block HSP.out) (by simp)).trans HSP.out)
          replace HD := Lib.hid ((h1.same _ (lt_of_block HD.out) (by simp)).trans HD.out)
          replace HQ := Lib.hid ((h1.same _ (lt_of_block HQ.out) (by simp)).trans HQ.out)
          replace HZZ := Lib.hid ((h1.same _ (lt_of_block HZZ.out) (by simp)).trans HZZ.out)
          have HKX := Lib.hid c_ka
          replace HM := Lib.hid (HM.out.stepM h1 (by simp))
          clear h1 k_ka g_ka c_ka k22
          refine HK17.out _ _ ?_
          refine wp_seq_k fun K18 hK18 => ?_
          have HK18 := Lib.hid hK18
          clear hK18
          refine wp_cut_mergeP [none, none, none, none, none, none, none, none, none, none, none, none, none, none, none, none, none, none, none, none, none, none, none, some 23, some 24, none, none, none, none, none, none, none, none, none, none, none, none, none, none, none, none, none, none, none, none, none, none, none, none, none, none, none, none, none, none, none, none, none, none, none, none, none, none, none, none, none, none, none, none, none, none, none, none, none, none, none, none, none, none, none, none, none, none, none, none, none, none, none, none, none, none, some 91, some 92, some 93, some 94, some 95, none, none, none, none, none, none, none, none, none, none, none, none, none, none, none] (fun s w' => Mut [] V w' ∧ (∃ g : Nat, s 23 = .pointer (some ⟨g, 0, none⟩) ∧ V.heap.size ≤ g ∧ w'.heap[g]? = some (cobj 28 ((xConst sp).1))) ∧ s 24 = .int .i64 ((xConst sp).2)) (fun _ _ => False) ?_ ?_ ?_
          · intro Q2 hQ2 hP2
            refine (wpIn_wide (n := 0)).1 (show Code.wpIn (G none) 0 _ _ _ _ _ from ?_)
            refine wp_region_G (b := false) (Pn := (fun _ _ => False)) (Mk18 V i j sp c r ts ao cap p lo hi x y b g1) (by kernel_rfl) (by kernel_rfl) ?_ ?_ ?_ ?_
            · exact ⟨Mut.start _ false _, fun h => absurd h Bool.false_ne_true, fun h => absurd h Bool.false_ne_true, fun h => absurd h Bool.false_ne_true, fun h => absurd h Bool.false_ne_true, fun h => absurd h Bool.false_ne_true, fun h => absurd h Bool.false_ne_true, fun h => absurd h Bool.false_ne_true, fun h => absurd h Bool.false_ne_true⟩
            · refine AllSP.cons ?_ (AllSP.cons ?_ (AllSP.cons ?_ (AllSP.cons ?_ (AllSP.cons ?_ (AllSP.cons ?_ (AllSP.cons ?_ (AllSP.cons ?_ AllSP.nil)))))))
              · intro L s w2 h hk hd hn
                have s8 : s 8 = _ := hk 8 (by kernel_rfl)
                have kb := ((h.mu.same _ ((Array.getElem?_eq_some_iff.1 HSP.out).1) (by simp)).trans HSP.out)
                refine stepSP rfl fun K hK => ?_
                exact rs_load rfl s8 (sp_load (p := 0) kb (by simp)) (hK _ _ { h with e0 := fun _ => rfl })
              · intro L s w2 h hk hd hn
                have s92 := h.e0 hd.1
                refine stepSP rfl fun K hK => ?_
                go_simp
                refine (rf_Const sp _).mono ?_
                rintro e w3 ⟨rfl, hb⟩
                exact .inl ⟨_, rfl, hK _ _ { h with mu := h.mu.step hb, al_kb := fun a => let ⟨g, h0, h1, hl, h2, h3⟩ := h.al_kb a; ⟨g, h0, h1, Nat.lt_of_lt_of_le hl hb.size, fun c => (hb.block _ (lt_of_block (h2 c))).trans (h2 c), fun c => (hb.block _ (lt_of_block (h3 c))).trans (h3 c)⟩, e1 := fun _ => rfl }⟩
              · intro L s w2 h hk hd hn
                have s93 := h.e1 hd.1
                refine stepSP rfl fun K hK => ?_
                exact rs_move rfl s93 (hK _ _ { h with e2 := fun _ => rfl })
              · intro L s w2 h hk hd hn
                have s91 := h.e2 hd.1
                refine stepSP rfl fun K hK => ?_
                exact rs_extract rfl s91 rfl (hK _ _ { h with e3 := fun _ => rfl })
              · intro L s w2 h hk hd hn
                have s91 := h.e2 hd.1
                refine stepSP rfl fun K hK => ?_
                exact rs_extract rfl s91 rfl (hK _ _ { h with e4 := fun _ => rfl })
              · intro L s w2 h hk hd hn
                refine stepSP rfl fun K hK => ?_
                go_simp
                exact hK _ _ { h with mu := h.mu.alloc _, al_kb := fun _ => ⟨_, rfl, h.mu.size, by simp, fun _ => heap_at _ rfl, fun a => absurd (h.b6_5 a) (by rw [hn]; exact Bool.false_ne_true)⟩, b6_5 := fun _ => rfl }
              · intro L s w2 h hk hd hn
                have s94 := h.e3 hd.2.1
                obtain ⟨g, hg0, hg1, hgl, hg2, hg3⟩ := h.al_kb hd.1
                have kb := hg2 hn
                refine stepSP rfl fun K hK => ?_
                exact rs_store rfl hg0 s94 (md_store kb rfl _ (xConst_len sp)) (hK _ _ { h with mu := h.mu.putNew hg1 _, al_kb := fun a => ⟨g, hg0, hg1, by simpa using hgl, nF, fun _ => pH kb⟩, b6_5 := fun _ => hd.1 })
              · intro L s w2 h hk hd hn
                have s95 := h.e4 hd.1
                refine stepSP rfl fun K hK => ?_
                exact rs_assign rfl s95 (hK _ _ { h with e7 := fun _ => rfl })
            · intro L s w2 h hk hl
              refine (congrArg (fun a => Q2 .normal a w2) (?_ : _ = _)).mpr (hQ2 s w2 (⟨h.mu, (let ⟨g, h0, h1, _, _, h3⟩ := h.al_kb (hl 5 (by decide)); ⟨g, h0, h1, h3 (hl 6 (by decide))⟩), h.e7 (hl 7 (by decide))⟩))
              exact frame_eq hk (by kernel_rfl) (by kernel_rfl)
            · intro c s w2 hc
              exact hc.elim
          rotate_left
          · rintro _ _ _ h
            exact h.elim
          rintro s18 V ⟨h1, ⟨g2, k_kb, g_kb, c_kb⟩, k24⟩
          simp only [mergeL]
          rw [k_kb]
          rw [k24]
          replace HLT := Lib.hid (show b ≤ g2 ∧ b < g2 ∧ b + 1 < g2 ∧ b + 1 + 1 < g2 ∧ b + 1 + 1 + 1 < g2 ∧ g1 < g2 ∧ b ≤ g1 ∧ b < g1 ∧ b + 1 < g1 ∧ b + 1 + 1 < g1 ∧ b + 1 + 1 + 1 < g1 from by
            have hlt := HLT.out
            have hbw := HM.out.size
            have hbw2 := HBW.out
            have := lt_of_block HSP.out
            have := lt_of_block HD.out
            have := lt_of_block HQ.out
            have := lt_of_block HZZ.out
            have := lt_of_block HKX.out
            omega)
          replace HSP := Lib.hid ((h1.same _ (lt_of_block HSP.out) (by simp)).trans HSP.out)
          replace HD := Lib.hid ((h1.same _ (lt_of_block HD.out) (by simp)).trans HD.out)
          replace HQ := Lib.hid ((h1.same _ (lt_of_block HQ.out) (by simp)).trans HQ.out)
          replace HZZ := Lib.hid ((h1.same _ (lt_of_block HZZ.out) (by simp)).trans HZZ.out)
          replace HKX := Lib.hid ((h1.same _ (lt_of_block HKX.out) (by simp)).trans HKX.out)
          have HKY := Lib.hid c_kb
          replace HM := Lib.hid (HM.out.stepM h1 (by simp))
          clear h1 k_kb g_kb c_kb k24
          refine HK18.out _ _ ?_
          refine wp_seq_k fun K19 hK19 => ?_
          have HK19 := Lib.hid hK19
          clear hK19
          refine wp_cut_mergeP [none, none, none, none, none, none, none, none, none, none, none, none, some 12, none, none, none, none, none, none, none, none, none, none, none, none, none, none, none, none, none, none, none, none, none, none, none, none, none, none, none, none, none, none, none, none, none, none, none, none, none, none, none, none, none, none, none, none, none, none, none, none, none, none, none, none, none, none, none, none, none, none, none, none, none, none, none, none, none, none, none, none, none, none, none, none, none, none, none, none, none, none, none, none, none, none, none, some 96, some 97, some 98, some 99, some 100, some 101, some 102, some 103, some 104, some 105, some 106, some 107, some 108, some 109, some 110] (fun s w' => Mut [] V w' ∧ s 12 = .bool true) (fun _ _ => False) ?_ ?_ ?_
          · intro Q2 hQ2 hP2
            refine (wpIn_wide (n := 0)).1 (show Code.wpIn (G none) 0 _ _ _ _ _ from ?_)
            refine wp_region_G (b := false) (Pn := (fun _ _ => False)) (Mk19 V i j sp c r ts ao cap p lo hi x y b g1 g2) (by kernel_rfl) (by kernel_rfl) ?_ ?_ ?_ ?_
            · exact ⟨Mut.start _ false _, fun h => absurd h Bool.false_ne_true, fun h => absurd h Bool.false_ne_true, fun h => absurd h Bool.false_ne_true, fun h => absurd h Bool.false_ne_true, fun h => absurd h Bool.false_ne_true, fun h => absurd h Bool.false_ne_true, fun h => absurd h Bool.false_ne_true, fun h => absurd h Bool.false_ne_true, fun h => absurd h Bool.false_ne_true, fun h => absurd h Bool.false_ne_true, fun h => absurd h Bool.false_ne_true, fun h => absurd h Bool.false_ne_true, fun h => absurd h Bool.false_ne_true, fun h => absurd h Bool.false_ne_true, fun h => absurd h Bool.false_ne_true, fun h => absurd h Bool.false_ne_true⟩
            · refine AllSP.cons ?_ (AllSP.cons ?_ (AllSP.cons ?_ (AllSP.cons ?_ (AllSP.cons ?_ (AllSP.cons ?_ (AllSP.cons ?_ (AllSP.cons ?_ (AllSP.cons ?_ (AllSP.cons ?_ (AllSP.cons ?_ (AllSP.cons ?_ (AllSP.cons ?_ (AllSP.cons ?_ (AllSP.cons ?_ (AllSP.cons ?_ AllSP.nil)))))))))))))))
              · intro L s w2 h hk hd hn
                have s21 : s 21 = _ := hk 21 (by kernel_rfl)
                have kb := ((h.mu.same _ ((Array.getElem?_eq_some_iff.1 HKX.out).1) (by simp)).trans HKX.out)
                refine stepSP rfl fun K hK => ?_
                exact rs_load rfl s21 (md_load kb (xConst_len sp)) (hK _ _ { h with e0 := fun _ => rfl })
              · intro L s w2 h hk hd hn
                have s22 : s 22 = _ := hk 22 (by kernel_rfl)
                refine stepSP rfl fun K hK => ?_
                exact rs_move rfl s22 (hK _ _ { h with e1 := fun _ => rfl })
              · intro L s w2 h hk hd hn
                have s23 : s 23 = _ := hk 23 (by kernel_rfl)
                have kb := ((h.mu.same _ ((Array.getElem?_eq_some_iff.1 HKY.out).1) (by simp)).trans HKY.out)
                refine stepSP rfl fun K hK => ?_
                exact rs_load rfl s23 (md_load kb (xConst_len sp)) (hK _ _ { h with e2 := fun _ => rfl })
              · intro L s w2 h hk hd hn
                have s24 : s 24 = _ := hk 24 (by kernel_rfl)
                refine stepSP rfl fun K hK => ?_
                exact rs_move rfl s24 (hK _ _ { h with e3 := fun _ => rfl })
              · intro L s w2 h hk hd hn
                have s96 := h.e0 hd.1
                have s97 := h.e1 hd.2.1
                have s98 := h.e2 hd.2.2.1
                have s99 := h.e3 hd.2.2.2.1
                refine stepSP rfl fun K hK => ?_
                go_simp
                refine (law21_same (xConst sp).1 (xConst sp).2 (xConst_len sp) _).mono ?_
                rintro e w3 ⟨rfl, hb⟩
                exact .inl ⟨_, rfl, hK _ _ { h with mu := h.mu.step hb, e4 := fun _ => rfl }⟩
              · intro L s w2 h hk hd hn
                have s100 := h.e4 hd.1
                refine stepSP rfl fun K hK => ?_
                exact rs_move rfl s100 (hK _ _ { h with e5 := fun _ => rfl })
              · intro L s w2 h hk hd hn
                have gq := h.e5 hd.1
                refine stepSP (by simp [Region.wanted, yieldS, gq]) fun K hK => ?_
                go_simp
                refine (taw_U _).mono ?_
                rintro e w3 ⟨rfl, hb⟩
                exact .inl ⟨_, rfl, hK _ _ { h with mu := h.mu.step hb, e6 := fun _ => rfl }⟩
              · intro L s w2 h hk hd hn
                have gq := h.e5 hd.2.1
                refine stepSP (by simp [Region.wanted, yieldS, gq]) fun K hK => ?_
                go_simp
                refine (rf_U _).mono ?_
                rintro e w3 ⟨rfl, hb⟩
                exact .inl ⟨_, rfl, hK _ _ { h with mu := h.mu.step hb, e7 := fun _ => rfl }⟩
              · intro L s w2 h hk hd hn
                have gq := h.e5 hd.2.2.1
                have s102 := h.e6 hd.1
                have s103 := h.e7 hd.2.1
                have hq := bin_eqM xU xU rfl rfl
                have hg := guard_eqM xU xU
                rw [show decide (xU = xU) = true from decide_eq_true rfl] at hq
                refine stepSP (by simp [Region.wanted, yieldS, gq]) fun K hK => ?_
                go_simp
                exact hK _ _ { h with e8 := fun _ => rfl }
              · intro L s w2 h hk hd hn
                have s101 := h.e5 hd.1
                have s104 := h.e8 hd.2.1
                refine stepSP rfl fun K hK => ?_
                go_simp
                exact hK _ _ { h with e9 := fun _ => rfl }
              · intro L s w2 h hk hd hn
                have s105 := h.e9 hd.1
                refine stepSP rfl fun K hK => ?_
                exact rs_move rfl s105 (hK _ _ { h with e10 := fun _ => rfl })
              · intro L s w2 h hk hd hn
                have gq := h.e10 hd.1
                refine stepSP (by simp [Region.wanted, yieldS, gq]) fun K hK => ?_
                go_simp
                refine (taw_V _).mono ?_
                rintro e w3 ⟨rfl, hb⟩
                exact .inl ⟨_, rfl, hK _ _ { h with mu := h.mu.step hb, e11 := fun _ => rfl }⟩
              · intro L s w2 h hk hd hn
                have gq := h.e10 hd.2.1
                refine stepSP (by simp [Region.wanted, yieldS, gq]) fun K hK => ?_
                go_simp
                refine (rf_V _).mono ?_
                rintro e w3 ⟨rfl, hb⟩
                exact .inl ⟨_, rfl, hK _ _ { h with mu := h.mu.step hb, e12 := fun _ => rfl }⟩
              · intro L s w2 h hk hd hn
                have gq := h.e10 hd.2.2.1
                have s107 := h.e11 hd.1
                have s108 := h.e12 hd.2.1
                have hq := bin_eqM xV xV rfl rfl
                have hg := guard_eqM xV xV
                rw [show decide (xV = xV) = true from decide_eq_true rfl] at hq
                refine stepSP (by simp [Region.wanted, yieldS, gq]) fun K hK => ?_
                go_simp
                exact hK _ _ { h with e13 := fun _ => rfl }
              · intro L s w2 h hk hd hn
                have s106 := h.e10 hd.1
                have s109 := h.e13 hd.2.1
                refine stepSP rfl fun K hK => ?_
                go_simp
                exact hK _ _ { h with e14 := fun _ => rfl }
              · intro L s w2 h hk hd hn
                have s110 := h.e14 hd.1
                refine stepSP rfl fun K hK => ?_
                exact rs_assign rfl s110 (hK _ _ { h with e15 := fun _ => rfl })
            · intro L s w2 h hk hl
              refine (congrArg (fun a => Q2 .normal a w2) (?_ : _ = _)).mpr (hQ2 s w2 (⟨h.mu, h.e15 (hl 15 (by decide))⟩))
              exact frame_eq hk (by kernel_rfl) (by kernel_rfl)
            · intro c s w2 hc
              exact hc.elim
          rotate_left
          · rintro _ _ _ h
            exact h.elim
          rintro s19 V ⟨h1, k12⟩
          simp only [mergeL]
          rw [k12]
          replace HSP := Lib.hid ((h1.same _ (lt_of_block HSP.out) (by simp)).trans HSP.out)
          replace HD := Lib.hid ((h1.same _ (lt_of_block HD.out) (by simp)).trans HD.out)
          replace HQ := Lib.hid ((h1.same _ (lt_of_block HQ.out) (by simp)).trans HQ.out)
          replace HZZ := Lib.hid ((h1.same _ (lt_of_block HZZ.out) (by simp)).trans HZZ.out)
          replace HKX := Lib.hid ((h1.same _ (lt_of_block HKX.out) (by simp)).trans HKX.out)
          replace HKY := Lib.hid ((h1.same _ (lt_of_block HKY.out) (by simp)).trans HKY.out)
          replace HM := Lib.hid (HM.out.stepM h1 (by simp))
          clear h1 k12
          refine HK19.out _ _ ?_
          refine wp_ret ?_
          exact bodyPost_ret (v := .bool true) (by simp [results, Try.results4, go_sem]) rfl ⟨rfl, by rw [← HBW.out]; exact HM.out.to0⟩
end Go.Proofs.Ythhkcfpljgdnhaa
