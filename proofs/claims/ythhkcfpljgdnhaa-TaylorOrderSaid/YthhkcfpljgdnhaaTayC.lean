/- Package taylor: a total grows, or its error ends the computation. Printed by wip/genTC.py. -/
import Derived.Test.YthhkcfpljgdnhaaTayB
import Derived.Test.YthhkcfpljgdnhaaPowX
import Derived.Test.YthhkcfpljgdnhaaRegX
namespace Go.Proofs.Ythhkcfpljgdnhaa
open Go.RowKit Mnc
attribute [local go_sem] RunSP_value RunSP_skip RunSP_enter evS_tmp evS_const evS_global evS_func
theorem lc {α : Type} {a b : α} {l m : List α} (h : a = b) (t : l = m) : a :: l = b :: m := by rw [h, t]
structure Gr (W : World) (T K : Nat) (t u : Int × Int) (r : (Int × Int) × Int) (L : Nat → Bool) (s : Nat → Value) (w : World) : Prop where
  oth : ∀ k, k < W.heap.size → k ≠ T → w.heap[k]? = W.heap[k]?
  sz : W.heap.size ≤ w.heap.size
  tl : T < W.heap.size
  bel : Below T W w
  kt : L 12 = false → w.heap[T]? = some (.cells #[.int .i64 t.1, .int .i64 t.2] 80 (0, 0))
  ks : w.heap[K]? = some (.cells #[.int .i64 u.1, .int .i64 u.2] 25 (0, 0))
  kr : L 12 = true → w.heap[T]? = some (.cells #[.int .i64 r.1.1, .int .i64 r.1.2] 80 (0, 0))
  z : L 9 = true → r.2 = 0
  b4 : L 12 = true → L 4 = true
  kn : K ≠ T
  e0 : L 0 = true → s 4 = .pointer (some ⟨T, 0, none⟩)
  e1 : L 1 = true → s 5 = .pointer (some ⟨T, 0, none⟩)
  e2 : L 2 = true → s 6 = .pointer (some ⟨T, 0, none⟩)
  e3 : L 3 = true → s 7 = .pointer (some ⟨T, 0, none⟩)
  e4 : L 4 = true → s 8 = .agg #[.int .i64 t.1, .int .i64 t.2]
  e5 : L 5 = true → s 9 = .agg #[.int .i64 u.1, .int .i64 u.2]
  e6 : L 6 = true → s 10 = .tuple #[.agg #[.int .i64 r.1.1, .int .i64 r.1.2], .int .i64 r.2]
  e7 : L 7 = true → s 11 = .agg #[.int .i64 r.1.1, .int .i64 r.1.2]
  e8 : L 8 = true → s 12 = .int .i64 r.2
  e9 : L 9 = true → s 13 = .agg #[.int .i64 r.1.1, .int .i64 r.1.2]
  e10 : L 10 = true → s 14 = .pointer (some ⟨T, 0, none⟩)
  e11 : L 11 = true → s 15 = .pointer (some ⟨T, 0, none⟩)
set_option maxRecDepth 100000 in
set_option maxHeartbeats 2000000 in
theorem tay_grow (T : Nat) (t c : Int × Int) (w : World) (h : w.heap[T]? = some (.cells #[.int .i64 t.1, .int .i64 t.2] 80 (0, 0))) :
    Calls Try.prog 51 #[.pointer (some ⟨T, 0, none⟩), .agg #[.int .i64 c.1, .int .i64 c.2]] w fun e w' => (((sAdd t c).2 = 0 ∧ (∃ v, e = .returned v) ∧ w'.heap[T]? = some (.cells #[.int .i64 (sAdd t c).1.1, .int .i64 (sAdd t c).1.2] 80 (0, 0))) ∨ (¬ (sAdd t c).2 = 0 ∧ e = .panicked (brk (sAdd t c).2))) ∧ (∀ k, k < w.heap.size → k ≠ T → w'.heap[k]? = w.heap[k]?) ∧ Below T w w' := by
  have HB := Lib.hid h
  have HT := Lib.hid (lt_of_block h)
  have HA := Lib.hid (fun W => span_Add t c W)
  generalize sAdd t c = r at *
  clear h
  go_enter Try.func51, Try.ntmps51
  go_upto_region 1 with (fail)
  refine wp_cut_mergeP [none, none, none, none, some 4, some 5, some 6, some 7, some 8, some 9, some 10, some 11, some 12, some 13, some 14, some 15] (fun _ w' => r.2 = 0 ∧ w'.heap[T]? = some (.cells #[.int .i64 r.1.1, .int .i64 r.1.2] 80 (0, 0)) ∧ (∀ k, k < w.heap.size → k ≠ T → w'.heap[k]? = w.heap[k]?) ∧ Below T w w') (fun c w' => c = brk r.2 ∧ ¬ r.2 = 0 ∧ (∀ k, k < w.heap.size → k ≠ T → w'.heap[k]? = w.heap[k]?) ∧ Below T w w') ?_ ?_ ?_
  · intro Q2 hQ2 hP2
    refine wp_region_invP (Pn := (fun c w' => c = brk r.2 ∧ ¬ r.2 = 0 ∧ (∀ k, k < w.heap.size → k ≠ T → w'.heap[k]? = w.heap[k]?) ∧ Below T w w')) (Gr w T w.heap.size t c r) (by kernel_rfl) (by kernel_rfl) ?_ ?_ ?_ ?_
    · exact ⟨fun k hk _ => heap_up _ (Array.getElem?_eq_getElem hk) |>.trans (Array.getElem?_eq_getElem hk).symm, by simp [World.drew], HT.out, ((below_alloc (Below.refl w.heap.size w) _).drew).mono (Nat.le_of_lt HT.out), fun _ => heap_up _ HB.out, heap_at _ rfl, fun h => absurd h Bool.false_ne_true, fun h => absurd h Bool.false_ne_true, fun h => absurd h Bool.false_ne_true, Nat.ne_of_gt HT.out, fun h => absurd h Bool.false_ne_true, fun h => absurd h Bool.false_ne_true, fun h => absurd h Bool.false_ne_true, fun h => absurd h Bool.false_ne_true, fun h => absurd h Bool.false_ne_true, fun h => absurd h Bool.false_ne_true, fun h => absurd h Bool.false_ne_true, fun h => absurd h Bool.false_ne_true, fun h => absurd h Bool.false_ne_true, fun h => absurd h Bool.false_ne_true, fun h => absurd h Bool.false_ne_true, fun h => absurd h Bool.false_ne_true⟩
    · refine AllSP.cons ?_ (AllSP.cons ?_ (AllSP.cons ?_ (AllSP.cons ?_ (AllSP.cons ?_ (AllSP.cons ?_ (AllSP.cons ?_ (AllSP.cons ?_ (AllSP.cons ?_ (AllSP.cons ?_ (AllSP.cons ?_ (AllSP.cons ?_ (AllSP.cons ?_ AllSP.nil))))))))))))
      · intro L s w2 h hk hd hn
        have s0 : s 0 = _ := hk 0 (by kernel_rfl)
        refine stepSP rfl fun K hK => ?_
        go_simp
        exact hK _ _ { h with e0 := fun _ => rfl }
      · intro L s w2 h hk hd hn
        have s0 : s 0 = _ := hk 0 (by kernel_rfl)
        refine stepSP rfl fun K hK => ?_
        go_simp
        exact hK _ _ { h with e1 := fun _ => rfl }
      · intro L s w2 h hk hd hn
        have s5 := h.e1 hd.1
        refine stepSP rfl fun K hK => ?_
        go_simp
        exact hK _ _ { h with e2 := fun _ => rfl }
      · intro L s w2 h hk hd hn
        have s6 := h.e2 hd.1
        refine stepSP rfl fun K hK => ?_
        go_simp
        exact hK _ _ { h with e3 := fun _ => rfl }
      · intro L s w2 h hk hd hn
        have s7 := h.e3 hd.1
        have h12 : L 12 = false := (Bool.eq_false_or_eq_true (L 12)).elim (fun e => absurd (h.b4 e) (by rw [hn]; exact Bool.false_ne_true)) id
        have c0 := cell_two0 (h.kt h12)
        have c1 := cell_two1 (h.kt h12)
        have lb := lt_of_block (h.kt h12)
        refine stepSP rfl fun K hK => ?_
        go_simp
        exact hK _ _ { h with e4 := fun _ => rfl, b4 := fun _ => rfl }
      · intro L s w2 h hk hd hn
        have s3 : s 3 = _ := hk 3 (by kernel_rfl)
        have c0 := cell_two0 h.ks
        have c1 := cell_two1 h.ks
        have lb := lt_of_block h.ks
        refine stepSP rfl fun K hK => ?_
        go_simp
        exact hK _ _ { h with e5 := fun _ => rfl }
      · intro L s w2 h hk hd hn
        have s8 := h.e4 hd.1
        have s9 := h.e5 hd.2.1
        refine stepSP rfl fun K hK => ?_
        go_simp
        refine (HA.out _).mono ?_
        rintro e w3 ⟨rfl, hb⟩
        exact .inl ⟨_, rfl, hK _ _ { h with oth := fun k hk hne => (hb.block _ (Nat.lt_of_lt_of_le hk h.sz)).trans (h.oth k hk hne), sz := Nat.le_trans h.sz hb.size, bel := h.bel.trans (hb.mono (Nat.le_of_lt (Nat.lt_of_lt_of_le h.tl h.sz))), kt := fun a => (hb.block _ (lt_of_block (h.kt a))).trans (h.kt a), ks := (hb.block _ (lt_of_block h.ks)).trans h.ks, kr := fun a => (hb.block _ (lt_of_block (h.kr a))).trans (h.kr a), e6 := fun _ => rfl }⟩
      · intro L s w2 h hk hd hn
        have s10 := h.e6 hd.1
        refine stepSP rfl fun K hK => ?_
        go_simp
        exact hK _ _ { h with e7 := fun _ => rfl }
      · intro L s w2 h hk hd hn
        have s10 := h.e6 hd.1
        refine stepSP rfl fun K hK => ?_
        go_simp
        exact hK _ _ { h with e8 := fun _ => rfl }
      · intro L s w2 h hk hd hn
        have s11 := h.e7 hd.1
        have s12 := h.e8 hd.2.1
        refine stepSP rfl fun K hK => ?_
        go_simp
        refine (tay_must r.1 r.2 _).mono ?_
        rintro e w3 ⟨⟨hz, rfl⟩ | ⟨hz, rfl⟩, hb⟩
        · exact .inl ⟨_, rfl, hK _ _ { h with oth := fun k hk hne => (hb.block _ (Nat.lt_of_lt_of_le hk h.sz)).trans (h.oth k hk hne), sz := Nat.le_trans h.sz hb.size, bel := h.bel.trans (hb.mono (Nat.le_of_lt (Nat.lt_of_lt_of_le h.tl h.sz))), kt := fun a => (hb.block _ (lt_of_block (h.kt a))).trans (h.kt a), ks := (hb.block _ (lt_of_block h.ks)).trans h.ks, kr := fun a => (hb.block _ (lt_of_block (h.kr a))).trans (h.kr a), e9 := fun _ => rfl, z := fun _ => hz }⟩
        · exact .inr ⟨_, rfl, rfl, hz, fun k hk hne => (hb.block _ (Nat.lt_of_lt_of_le hk h.sz)).trans (h.oth k hk hne), h.bel.trans (hb.mono (Nat.le_of_lt (Nat.lt_of_lt_of_le h.tl h.sz)))⟩
      · intro L s w2 h hk hd hn
        have s4 := h.e0 hd.1
        refine stepSP rfl fun K hK => ?_
        go_simp
        exact hK _ _ { h with e10 := fun _ => rfl }
      · intro L s w2 h hk hd hn
        have s14 := h.e10 hd.1
        refine stepSP rfl fun K hK => ?_
        go_simp
        exact hK _ _ { h with e11 := fun _ => rfl }
      · intro L s w2 h hk hd hn
        have s15 := h.e11 hd.1
        have s13 := h.e9 hd.2.1
        have b := h.kt hn
        have c0 := cell_two0 b
        have c1 := cell_two1 b
        have f0 := free_two (i := 0) b
        have f1 := free_two (i := 1) b
        have lb := lt_of_block b
        refine stepSP rfl fun K hK => ?_
        go_simp
        exact hK _ _ { h with oth := fun k hk hne => by rw [heap_setCell_other _ _ _ _ (by simpa using hne), heap_setCell_other _ _ _ _ (by simpa using hne)]; exact h.oth k hk hne, sz := by simpa using h.sz, bel := (h.bel.setCell (Nat.le_refl _) _).setCell (Nat.le_refl _) _, kt := fun a => absurd a.symm Bool.false_ne_true, ks := by rw [heap_setCell_other _ _ _ _ (by simpa using h.kn), heap_setCell_other _ _ _ _ (by simpa using h.kn)]; exact h.ks, kr := fun _ => by rw [heap_setCell_same _ _ _ _ _ _ (heap_setCell_same _ _ _ _ _ _ b)]; rfl, b4 := fun _ => hd.2.2.2.2.2.2.2.1 }
    · intro L s w2 h hk hl
      refine (congrArg (fun a => Q2 .normal a w2) (?_ : _ = _)).mpr (hQ2 s w2 (⟨h.z (hl 9 (by decide)), h.kr (hl 12 (by decide)), h.oth, h.bel⟩))
      refine congrArg (fun l => (⟨List.toArray l, []⟩ : Act)) ?_
      show [s 0, s 1, s 2, s 3, s 4, s 5, s 6, s 7, s 8, s 9, s 10, s 11, s 12, s 13, s 14, s 15] = _
      exact lc (hk 0 (by kernel_rfl)) (lc (hk 1 (by kernel_rfl)) (lc (hk 2 (by kernel_rfl)) (lc (hk 3 (by kernel_rfl)) (lc rfl (lc rfl (lc rfl (lc rfl (lc rfl (lc rfl (lc rfl (lc rfl (lc rfl (lc rfl (lc rfl (lc rfl rfl)))))))))))))))
    · intro c s w2 hc
      exact hP2 _ _ _ hc
  · rintro s wc ⟨hz, h1, h2, h3⟩
    simp only [mergeL]
    have HE := Lib.hid (And.intro hz (And.intro h1 (And.intro h2 h3)))
    clear hz h1 h2 h3
    go_wp2_with fail
    go_end0
    exact ⟨.inl ⟨HE.out.1, ⟨_, rfl⟩, HE.out.2.1⟩, HE.out.2.2⟩
  · rintro c l' w' ⟨rfl, hz, h2, h3⟩
    exact ⟨rfl, .inr ⟨hz, rfl⟩, h2, h3⟩
end Go.Proofs.Ythhkcfpljgdnhaa
