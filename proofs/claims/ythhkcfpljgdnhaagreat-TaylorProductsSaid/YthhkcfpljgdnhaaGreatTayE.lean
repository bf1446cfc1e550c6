/- Package taylor: contracts in the words of the printed walks; a total that lies in an array grows. Printed by wip/genTE.py. -/
import Derived.Test.YthhkcfpljgdnhaaGreatTayS
import Derived.Test.YthhkcfpljgdnhaaGreatSpanY
namespace Go.Proofs.YthhkcfpljgdnhaaGreat
open Go.RowKit Mnc
attribute [local go_sem] RunSP_value RunSP_skip RunSP_enter evS_tmp evS_const evS_global evS_func
theorem tm_add (x y : Int × Int) (w : World) : Calls Tryz.prog 43 #[sval x, sval y] w fun e w' => e = .returned (.tuple #[sval (sAdd x y).1, .int .i64 (sAdd x y).2]) ∧ Below w.heap.size w w' := span_Add x y w
theorem tm_mul (x y : Int × Int) (w : World) : Calls Tryz.prog 52 #[sval x, sval y] w fun e w' => e = .returned (.tuple #[sval (sMul x y).1, .int .i64 (sMul x y).2]) ∧ Below w.heap.size w w' := span_Mul x y w
theorem tm_div (x y : Int × Int) (w : World) : Calls Tryz.prog 44 #[sval x, sval y] w fun e w' => e = .returned (.tuple #[sval (sDiv x y).1, .int .i64 (sDiv x y).2]) ∧ Below w.heap.size w w' := span_Div x y w
theorem tm_pow (x : Int × Int) (n : Int) (w : World) : Calls Tryz.prog 42 #[sval x, .int .i64 n] w fun e w' => e = .returned (.tuple #[sval (sPow x n).1, .int .i64 (sPow x n).2]) ∧ Below w.heap.size w w' := span_Pow x n w
theorem tm_point (n : Int) (w : World) : Calls Tryz.prog 54 #[.int .i64 n] w fun e w' => e = .returned (sval (n, n)) ∧ Below w.heap.size w w' := tay_point n w
theorem tm_reach (i j : Nat) (hi : i ≤ 10) (hj : j ≤ 10) (w : World) : Calls Tryz.prog 64 #[.int .i64 ((i : Nat) : Int), .int .i64 ((j : Nat) : Int)] w fun e w' => e = .returned (sval (tReach i j)) ∧ Below w.heap.size w w' := tay_reach i j hi hj w
theorem tm_must (x : Int × Int) (n : Int) (w : World) : Calls Tryz.prog 41 #[sval x, .int .i64 n] w fun e w' => ((n = 0 ∧ e = .returned (sval x)) ∨ (¬ n = 0 ∧ e = .panicked (brk n))) ∧ Below w.heap.size w w' := tay_must x n w
structure Gw1 (W : World) (T K : Nat) (ty : TypeId) (S : List (Int × Int)) (k : Nat) (u : Int × Int) (L : Nat → Bool) (s : Nat → Value) (w : World) : Prop where
 mu : Mut [T] W w
 kt_t : L 12 = false → w.heap[T]? = some (cobj ty S)
 kr_t : L 12 = true → w.heap[T]? = some (cobj ty (S.set k (sAdd (tAt S k) u).1))
 e0 : L 0 = true → s 4 = .pointer (some ⟨T, k * 2, none⟩)
 e1 : L 1 = true → s 5 = .pointer (some ⟨T, k * 2, none⟩)
 e2 : L 2 = true → s 6 = .pointer (some ⟨T, k * 2, none⟩)
 e3 : L 3 = true → s 7 = .pointer (some ⟨T, k * 2, none⟩)
 e4 : L 4 = true → s 8 = sval (tAt S k)
 e5 : L 5 = true → s 9 = sval u
 e6 : L 6 = true → s 10 = .tuple #[sval (sAdd (tAt S k) (u)).1, .int .i64 (sAdd (tAt S k) (u)).2]
 e7 : L 7 = true → s 11 = sval ((sAdd (tAt S k) (u)).1)
 e8 : L 8 = true → s 12 = .int .i64 ((sAdd (tAt S k) (u)).2)
 z9 : L 9 = true → (sAdd (tAt S k) u).2 = 0
 e9 : L 9 = true → s 13 = sval ((sAdd (tAt S k) (u)).1)
 e10 : L 10 = true → s 14 = .pointer (some ⟨T, k * 2, none⟩)
 e11 : L 11 = true → s 15 = .pointer (some ⟨T, k * 2, none⟩)
 b12_4 : L 12 = true → L 4 = true
set_option maxRecDepth 100000 in
set_option maxHeartbeats 2000000 in
theorem tm_grow (T : Nat) (ty : TypeId) (S : List (Int × Int)) (k : Nat) (hk : k < S.length) (u : Int × Int) (w : World) (h : w.heap[T]? = some (cobj ty S)) :
  Calls Tryz.prog 63 #[.pointer (some ⟨T, k * 2, none⟩), sval u] w fun e w' => (((sAdd (tAt S k) u).2 = 0 ∧ (∃ v, e = .returned v) ∧ w'.heap[T]? = some (cobj ty (S.set k (sAdd (tAt S k) u).1))) ∨ (¬ (sAdd (tAt S k) u).2 = 0 ∧ e = .panicked (brk (sAdd (tAt S k) u).2))) ∧ Mut [T] w w' := by
 have HK := lh hk
 have HT := lh (show (w.alloc (cobj 31 [u])).heap[T]? = some (cobj ty S) from heap_up _ h)
 have HS := lh (show (w.alloc (cobj 31 [u])).heap[w.heap.size]? = some (cobj 31 [u]) from heap_at _ rfl)
 have HKS := lh (show w.heap.size < (w.alloc (cobj 31 [u])).heap.size by simp)
 have hlt := lt_of_block h
 have HLT := lh hlt
 have HM := lh (show Mut [T] w (w.alloc (cobj 31 [u])) from (Mut.refl _ _).alloc _)
 clear hk h hlt
 unfold sval
 go_enter Tryz.func63, Tryz.ntmps63
 go_upto_region 1 with (fail)
 have hw1 : w.alloc (cobj 31 [u]) = w.alloc (.cells #[.int .i64 u.1, .int .i64 u.2] 31) := rfl
 rw [← hw1]
 clear hw1
 generalize w.alloc (cobj 31 [u]) = W at *
 refine wp_cut_mergeP (nn :: nn :: nn :: nn :: some 4 :: some 5 :: some 6 :: some 7 :: some 8 :: some 9 :: some 10 :: some 11 :: some 12 :: some 13 :: some 14 :: some 15 :: []) (fun _ w' => Mut [T] W w' ∧ w'.heap[T]? = some (cobj ty (S.set k (sAdd (tAt S k) u).1)) ∧ (sAdd (tAt S k) u).2 = 0) (fun ch w' => ch = brk (fstE [(sAdd (tAt S k) u).2]) ∧ ¬ fstE [(sAdd (tAt S k) u).2] = 0 ∧ Mut [T] W w') ?_ ?_ ?_
 ·intro Q2 hQ2 hP2
  refine wpG ?_
  refine wp_region_G (b := true) (Pn := (fun ch w' => ch = brk (fstE [(sAdd (tAt S k) u).2]) ∧ ¬ fstE [(sAdd (tAt S k) u).2] = 0 ∧ Mut [T] W w')) (Gw1 W T w.heap.size ty S k u) (by kernel_rfl) (by kernel_rfl) ?_ ?_ ?_ ?_
  ·exact ⟨Mut.start _ true _, fun _ => HT.out, nB, nB, nB, nB, nB, nB, nB, nB, nB, nB, nB, nB, nB, nB, nB⟩
  ·refine AllSP.cons ?_ (AllSP.cons ?_ (AllSP.cons ?_ (AllSP.cons ?_ (AllSP.cons ?_ (AllSP.cons ?_ (AllSP.cons ?_ (AllSP.cons ?_ (AllSP.cons ?_ (AllSP.cons ?_ (AllSP.cons ?_ (AllSP.cons ?_ (AllSP.cons ?_ AllSP.nil))))))))))))
   ·intro L s w2 h hk hd hn
    have s0 : s 0 = _ := hk 0 (by kernel_rfl)
    refine sP fun K hK => ?_
    exact rs_move rfl s0 (hK _ _ { h with e0 := fun _ => rfl })
   ·intro L s w2 h hk hd hn
    have s0 : s 0 = _ := hk 0 (by kernel_rfl)
    refine sP fun K hK => ?_
    exact rs_move rfl s0 (hK _ _ { h with e1 := fun _ => rfl })
   ·intro L s w2 h hk hd hn
    have s5 := h.e1 hd.1
    refine sP fun K hK => ?_
    go_simp
    exact hK _ _ { h with e2 := fun _ => rfl }
   ·intro L s w2 h hk hd hn
    have s6 := h.e2 hd.1
    refine sP fun K hK => ?_
    exact rs_field rfl s6 (fl_total _ k _) (hK _ _ { h with e3 := fun _ => rfl })
   ·intro L s w2 h hk hd hn
    have s7 := h.e3 hd.1
    have kb := (h.kt_t (bF h.b12_4 hn))
    refine sP fun K hK => ?_
    exact rs_load rfl s7 (sp_load (p := k) kb HK.out) (hK _ _ { h with e4 := fun _ => rfl, b12_4 := fun _ => rfl })
   ·intro L s w2 h hk hd hn
    have s3 : s 3 = _ := hk 3 (by kernel_rfl)
    have kb := ((h.mu.same _ (HKS.out) (notin1 (by have := HLT.out; omega))).trans HS.out)
    refine sP fun K hK => ?_
    exact rs_load rfl s3 (sp_load (p := 0) kb (by simp)) (hK _ _ { h with e5 := fun _ => rfl })
   ·intro L s w2 h hk hd hn
    have s8 := h.e4 hd.1
    have s9 := h.e5 hd.2.1
    refine sP fun K hK => ?_
    go_simp
    refine (tm_add (tAt S k) (u) _).mono ?_
    rintro e w3 ⟨rfl, hb⟩
    exact .inl ⟨_, rfl, hK _ _ { h with mu := h.mu.step hb, kt_t := fun a => bk hb (h.kt_t a), kr_t := fun a => bk hb (h.kr_t a), e6 := fun _ => rfl }⟩
   ·intro L s w2 h hk hd hn
    have s10 := h.e6 hd.1
    refine sP fun K hK => ?_
    exact rs_extract rfl s10 rfl (hK _ _ { h with e7 := fun _ => rfl })
   ·intro L s w2 h hk hd hn
    have s10 := h.e6 hd.1
    refine sP fun K hK => ?_
    exact rs_extract rfl s10 rfl (hK _ _ { h with e8 := fun _ => rfl })
   ·intro L s w2 h hk hd hn
    have s11 := h.e7 hd.1
    have s12 := h.e8 hd.2.1
    refine sP fun K hK => ?_
    go_simp
    refine (tm_must ((sAdd (tAt S k) (u)).1) ((sAdd (tAt S k) (u)).2) _).mono ?_
    rintro e w3 ⟨⟨hz, rfl⟩ | ⟨hz, rfl⟩, hb⟩
    ·exact .inl ⟨_, rfl, hK _ _ { h with mu := h.mu.step hb, kt_t := fun a => bk hb (h.kt_t a), kr_t := fun a => bk hb (h.kr_t a), e9 := fun _ => rfl, z9 := fun _ => hz }⟩
    ·exact .inr ⟨_, rfl, congrArg brk (show (sAdd (tAt S k) u).2 = fstE [(sAdd (tAt S k) u).2] from (by rw [fstE_1 (show ¬ (sAdd (tAt S k) u).2 = 0 from hz)])), (show ¬ fstE [(sAdd (tAt S k) u).2] = 0 from (by rw [fstE_1 (show ¬ (sAdd (tAt S k) u).2 = 0 from hz)]; exact hz)), h.mu.step hb⟩
   ·intro L s w2 h hk hd hn
    have s4 := h.e0 hd.1
    refine sP fun K hK => ?_
    go_simp
    exact hK _ _ { h with e10 := fun _ => rfl }
   ·intro L s w2 h hk hd hn
    have s14 := h.e10 hd.1
    refine sP fun K hK => ?_
    exact rs_field rfl s14 (fl_total _ k _) (hK _ _ { h with e11 := fun _ => rfl })
   ·intro L s w2 h hk hd hn
    have s15 := h.e11 hd.1
    have s13 := h.e9 hd.2.1
    have kb := h.kt_t hn
    refine sP fun K hK => ?_
    exact rs_store rfl s15 s13 (sp_store (p := k) kb HK.out ((sAdd (tAt S k) (u)).1)) (hK _ _ { h with mu := h.mu.put (List.Mem.head _) _, kt_t := nF, kr_t := fun _ => pH kb, b12_4 := fun _ => hd.2.2.2.2.2.2.2.1 })
  ·intro L s w2 h hk hl
   refine cA ?_ (hQ2 s w2 (⟨h.mu, h.kr_t (hl 12 (by decide)), h.z9 (hl 9 (by decide))⟩))
   exact frame_eq hk (by kernel_rfl) (by kernel_rfl)
  ·intro c s w2 hc
   exact hP2 _ _ _ hc
 ·rintro s wc ⟨h1, h2, hz⟩
  have HE := lh (And.intro hz (And.intro h2 (HM.out.trans h1)))
  simp only [mergeL]
  clear hz h1 h2
  go_wp2_with fail
  go_end0
  exact ⟨.inl ⟨HE.out.1, ⟨_, rfl⟩, HE.out.2.1⟩, HE.out.2.2⟩
 ·rintro c' l' w' ⟨rfl, hz, h2⟩
  rw [fstE_one] at hz ⊢
  exact ⟨rfl, .inr ⟨hz, rfl⟩, HM.out.trans h2⟩
end Go.Proofs.YthhkcfpljgdnhaaGreat
