/- Package taylor: relative, series. Printed by wip/genTI.py. -/
import Derived.Test.YthhkcfpljgdnhaaGreatTayH
namespace Go.Proofs.YthhkcfpljgdnhaaGreat
open Go.RowKit Mnc
attribute [local go_sem] RunSP_value RunSP_skip RunSP_enter evS_tmp evS_const evS_global evS_func
theorem sp_loadVar {W : World} {B : Nat} {t : TypeId} {x : Int × Int} (h : W.heap[B]? = some (cobj t [x])) : (loadVar 31 ⟨B, 0, none⟩).run Tryz.prog W = .ok (sval x) W := by
 obtain ⟨d, hd⟩ := Option.isSome_iff_exists.1 (show (Tryz.prog.underlying 31).isSome = true by kernel_rfl)
 have hr : d.isRow = true := by
  have hm : (Tryz.prog.underlying 31).map TypeDesc.isRow = some true := by kernel_rfl
  rw [hd] at hm
  exact Option.some.inj hm
 exact run_loadVar_mid W B 0 _ _ d (cobj_range h (p := 0) (by simp)) hd hr (by kernel_rfl)
theorem res_three {fn : Func} {tmps : Array Value} {i j k B C D : Nat} {t u v : TypeId} {W : World} {x y z : Value} (hf : fn.results = #[.cell i t, .cell j u, .cell k v]) (hi : tmps.getD i undef = .pointer (some ⟨B, 0, none⟩)) (hj : tmps.getD j undef = .pointer (some ⟨C, 0, none⟩)) (hk : tmps.getD k undef = .pointer (some ⟨D, 0, none⟩))
  (hl : (loadVar t ⟨B, 0, none⟩).run Tryz.prog W = .ok x W) (hm : (loadVar u ⟨C, 0, none⟩).run Tryz.prog W = .ok y W) (hn : (loadVar v ⟨D, 0, none⟩).run Tryz.prog W = .ok z W) : (results fn tmps).run Tryz.prog W = .ok (.tuple #[x, y, z]) W := by
 unfold results
 rw [hf]
 simp only [Array.mapM_eq_mapM_toList, List.mapM_cons, List.mapM_nil, hi, hj, hk, asAddr, pure_bind, map_eq_pure_bind, bind_assoc, Sem.run_bind, hl, hm, hn, Result.andThen, Sem.run_pure]
 rfl
/-- What relative hands back. -/
def r3val (r : List (Int × Int) × (Int × Int) × (Int × Int)) : Value := .tuple #[mval r.1, sval r.2.1, sval r.2.2]
structure Re1 (V : World) (b : Nat) (a : List (Int × Int)) (L : Nat → Bool) (s : Nat → Value) (w : World) : Prop where
 mu : Mut [b + 1] V w
 kt_h : L 1 = false → w.heap[b + 1]? = some (cobj 34 zeroM)
 kr_h : L 1 = true → w.heap[b + 1]? = some (cobj 34 a)
 e0 : L 0 = true → s 5 = mval a
structure Re2 (V : World) (b : Nat) (a : List (Int × Int)) (L : Nat → Bool) (s : Nat → Value) (w : World) : Prop where
 mu : Mut [b + 1] V w
 kt_h : L 3 = false → w.heap[b + 1]? = some (cobj 34 a)
 kr_h : L 3 = true → w.heap[b + 1]? = some (cobj 34 (a.set 0 (0, 0)))
 e0 : L 0 = true → s 6 = sval (0, 0)
 e1 : L 1 = true → s 7 = .pointer (some ⟨b + 1, 0, none⟩)
 e2 : L 2 = true → s 8 = .pointer (some ⟨b + 1, 0 * 2, none⟩)
structure Re3 (V : World) (b : Nat) (a : List (Int × Int)) (H0 : List (Int × Int)) (L : Nat → Bool) (s : Nat → Value) (w : World) : Prop where
 mu : Mut [b + 1] V w
 kt_h : L 5 = false → w.heap[b + 1]? = some (cobj 34 H0)
 kr_h : L 5 = true → w.heap[b + 1]? = some (cobj 34 ((tBy sDiv H0 (tAt a 0)).1))
 e0 : L 0 = true → s 9 = mval H0
 e1 : L 1 = true → s 10 = .pointer (some ⟨b, 0, none⟩)
 e2 : L 2 = true → s 11 = .pointer (some ⟨b, 0 * 2, none⟩)
 e3 : L 3 = true → s 12 = sval (tAt a 0)
 z4 : L 4 = true → (tBy sDiv H0 (tAt a 0)).2 = 0
 e4 : L 4 = true → s 13 = mval ((tBy sDiv H0 (tAt a 0)).1)
 b5_0 : L 5 = true → L 0 = true
structure Re4 (V : World) (b : Nat) (a : List (Int × Int)) (H1 : List (Int × Int)) (L : Nat → Bool) (s : Nat → Value) (w : World) : Prop where
 mu : Mut [b + 1 + 1] V w
 kt_bb : L 2 = false → w.heap[b + 1 + 1]? = some (cobj 31 ([(0, 0)]))
 kr_bb : L 2 = true → w.heap[b + 1 + 1]? = some (cobj 31 ([(tBound H1).1]))
 e0 : L 0 = true → s 14 = mval H1
 z1 : L 1 = true → (tBound H1).2 = 0
 e1 : L 1 = true → s 15 = sval ((tBound H1).1)
structure Re5 (V : World) (b : Nat) (a : List (Int × Int)) (H1 : List (Int × Int)) (bb : Int × Int) (L : Nat → Bool) (s : Nat → Value) (w : World) : Prop where
 mu : Mut [b + 1, b + 1 + 1, b + 1 + 1 + 1] V w
 kt_h : L 13 = false → w.heap[b + 1]? = some (cobj 34 H1)
 kr_h : L 13 = true → w.heap[b + 1]? = some (cobj 34 H1)
 kt_bb : L 14 = false → w.heap[b + 1 + 1]? = some (cobj 31 ([bb]))
 kr_bb : L 14 = true → w.heap[b + 1 + 1]? = some (cobj 31 ([bb]))
 kt_ee : L 15 = false → w.heap[b + 1 + 1 + 1]? = some (cobj 31 ([(0, 0)]))
 kr_ee : L 15 = true → w.heap[b + 1 + 1 + 1]? = some (cobj 31 ([(sAdd (4294967296, 4294967296) (sMul ((0, 4294967296) : Int × Int) bb).1).1]))
 e0 : L 0 = true → s 16 = mval H1
 e1 : L 1 = true → s 17 = sval bb
 e2 : L 2 = true → s 18 = sval (4294967296, 4294967296)
 e3 : L 3 = true → s 19 = sval (((0, 4294967296) : Int × Int))
 e4 : L 4 = true → s 20 = sval bb
 e5 : L 5 = true → s 21 = .tuple #[sval ((sMul (((0, 4294967296) : Int × Int)) (bb))).1, .int .i64 ((sMul (((0, 4294967296) : Int × Int)) (bb))).2]
 e6 : L 6 = true → s 22 = sval (((sMul (((0, 4294967296) : Int × Int)) (bb))).1)
 e7 : L 7 = true → s 23 = .int .i64 (((sMul (((0, 4294967296) : Int × Int)) (bb))).2)
 z8 : L 8 = true → ((sMul (((0, 4294967296) : Int × Int)) (bb))).2 = 0
 e8 : L 8 = true → s 24 = sval (((sMul (((0, 4294967296) : Int × Int)) (bb))).1)
 e9 : L 9 = true → s 25 = .tuple #[sval ((sAdd ((4294967296, 4294967296)) (((sMul (((0, 4294967296) : Int × Int)) (bb))).1))).1, .int .i64 ((sAdd ((4294967296, 4294967296)) (((sMul (((0, 4294967296) : Int × Int)) (bb))).1))).2]
 e10 : L 10 = true → s 26 = sval (((sAdd ((4294967296, 4294967296)) (((sMul (((0, 4294967296) : Int × Int)) (bb))).1))).1)
 e11 : L 11 = true → s 27 = .int .i64 (((sAdd ((4294967296, 4294967296)) (((sMul (((0, 4294967296) : Int × Int)) (bb))).1))).2)
 z12 : L 12 = true → ((sAdd ((4294967296, 4294967296)) (((sMul (((0, 4294967296) : Int × Int)) (bb))).1))).2 = 0
 e12 : L 12 = true → s 28 = sval (((sAdd ((4294967296, 4294967296)) (((sMul (((0, 4294967296) : Int × Int)) (bb))).1))).1)
 q10_8 : L 10 = true → ((sMul (((0, 4294967296) : Int × Int)) (bb))).2 = 0
 q9_8 : L 9 = true → ((sMul (((0, 4294967296) : Int × Int)) (bb))).2 = 0
 b13_0 : L 13 = true → L 0 = true
 b14_1 : L 14 = true → L 1 = true
 b14_4 : L 14 = true → L 4 = true
set_option maxRecDepth 100000 in
set_option maxHeartbeats 4000000 in
theorem tay_relative (a : List (Int × Int)) (ha : a.length = 22) (w : World) :
  Calls Tryz.prog 39 #[mval a] w fun e w' => Ends r3val (tRelative a) e ∧ Below w.heap.size w w' := by
 have HL := lh ha
 have HP0 := lh (show tRelative a = _ from by rw [tRelative])
 clear ha
 go_enter Tryz.func39, Tryz.ntmps39
 refine wsk fun K0 HK0 => ?_
 go_wp2_with fail
 rename_i x1 cs1 hc1
 obtain rfl : (mc a).toArray = cs1 := Value.agg.inj hc1
 clear hc1
 obtain ⟨b, hb⟩ : ∃ b, w.heap.size = b := ⟨_, rfl⟩
 refine HK0.out _ _ ?_
 refine wp_world (fun W => Mut [] w W ∧ W.heap[b]? = some (cobj 34 a) ∧ W.heap[b + 1]? = some (cobj 34 zeroM) ∧ W.heap[b + 1 + 1]? = some (cobj 31 [(0, 0)]) ∧ W.heap[b + 1 + 1 + 1]? = some (cobj 31 [(0, 0)])) ?_
  (by
   rw [← hb]
   exact ⟨((((Mut.refl _ _).alloc _).alloc _).alloc _).alloc _, heap_up _ (heap_up _ (heap_up _ (heap_at _ rfl))), heap_up _ (heap_up _ (heap_at (cobj 34 zeroM) (by simp))), heap_up _ (heap_at _ (by simp)), heap_at _ (by simp)⟩)
 rintro V ⟨hm, hA, hH, hBB, hEE⟩
 rw [hb]
 have HM := lh hm
 have HBW := lh hb
 have HA := lh hA
 have HH := lh hH
 have HBB := lh hBB
 have HEE := lh hEE
 clear hm hA hH hBB hEE hb HK0
 refine wsk fun K1 HK1 => ?_
 refine wp_cut_mergeP (nn :: nn :: nn :: nn :: nn :: some 5 :: n8 (n8 (nn :: nn :: nn :: nn :: nn :: nn :: nn :: []))) (fun _ w' => Mut [b + 1] V w' ∧ w'.heap[b + 1]? = some (cobj 34 a)) (fun _ _ => False) ?_ ?_ ?_
 ·intro Q2 hQ2 hP2
  refine wpG ?_
  refine wp_region_G (b := false) (Pn := (fun _ _ => False)) (Re1 V b a) (by kernel_rfl) (by kernel_rfl) ?_ ?_ ?_ ?_
  ·exact ⟨Mut.start _ false _, fun _ => HH.out, nB, nB⟩
  ·refine AllSP.cons ?_ (AllSP.cons ?_ AllSP.nil)
   ·intro L s w2 h hk hd hn
    have s1 : s 1 = _ := hk 1 (by kernel_rfl)
    have kb := ((h.mu.same _ ((Array.getElem?_eq_some_iff.1 HA.out).1) (notin1 (by omega))).trans HA.out)
    refine sP fun K hK => ?_
    exact rs_load rfl s1 (md_load kb HL.out) (hK _ _ { h with e0 := fun _ => rfl })
   ·intro L s w2 h hk hd hn
    have s2 : s 2 = _ := hk 2 (by kernel_rfl)
    have s5 := h.e0 hd.1
    have kb := h.kt_h hn
    refine sP fun K hK => ?_
    exact rs_store rfl s2 s5 (md_store kb rfl _ HL.out) (hK _ _ { h with mu := h.mu.put (List.Mem.head _) _, kt_h := nF, kr_h := fun _ => pH kb })
  ·intro L s w2 h hk hl
   refine cA ?_ (hQ2 s w2 (⟨h.mu, h.kr_h (hl 1 (by decide))⟩))
   exact frame_eq hk (by kernel_rfl) (by kernel_rfl)
  ·intro c s w2 hc
   exact hc.elim
 rotate_left
 ·rintro _ _ _ h
  exact h.elim
 rintro s1 V ⟨h1, c_h⟩
 simp only [mergeL]
 replace HM := lh (HM.out.stepM h1 (by have := HBW.out; intro x hx; simp at hx; right; omega))
 replace HA := lh ((h1.same _ (lt_of_block HA.out) (notin1 (by omega))).trans HA.out)
 replace HH := lh c_h
 replace HBB := lh ((h1.same _ (lt_of_block HBB.out) (notin1 (by omega))).trans HBB.out)
 replace HEE := lh ((h1.same _ (lt_of_block HEE.out) (notin1 (by omega))).trans HEE.out)
 clear h1 c_h
 refine HK1.out _ _ ?_
 refine wsk fun K2 HK2 => ?_
 refine wp_cut_mergeP (nn :: nn :: nn :: nn :: nn :: nn :: some 6 :: some 7 :: some 8 :: n8 (n8 (nn :: nn :: nn :: nn :: []))) (fun _ w' => Mut [b + 1] V w' ∧ w'.heap[b + 1]? = some (cobj 34 (a.set 0 (0, 0)))) (fun _ _ => False) ?_ ?_ ?_
 ·intro Q2 hQ2 hP2
  refine wpG ?_
  refine wp_region_G (b := false) (Pn := (fun _ _ => False)) (Re2 V b a) (by kernel_rfl) (by kernel_rfl) ?_ ?_ ?_ ?_
  ·exact ⟨Mut.start _ false _, fun _ => HH.out, nB, nB, nB, nB⟩
  ·refine AllSP.cons ?_ (AllSP.cons ?_ (AllSP.cons ?_ (AllSP.cons ?_ AllSP.nil)))
   ·intro L s w2 h hk hd hn
    refine sP fun K hK => ?_
    go_simp
    refine (tm_point 0 _).mono ?_
    rintro e w3 ⟨rfl, hb⟩
    exact .inl ⟨_, rfl, hK _ _ { h with mu := h.mu.step hb, kt_h := fun a => bk hb (h.kt_h a), kr_h := fun a => bk hb (h.kr_h a), e0 := fun _ => rfl }⟩
   ·intro L s w2 h hk hd hn
    have s2 : s 2 = _ := hk 2 (by kernel_rfl)
    refine sP fun K hK => ?_
    exact rs_field rfl s2 (fl_model0 _ _) (hK _ _ { h with e1 := fun _ => rfl })
   ·intro L s w2 h hk hd hn
    have s7 := h.e1 hd.1
    refine sP fun K hK => ?_
    exact rs_index rfl s7 rfl (ix_model _ 0 (by omega)) (hK _ _ { h with e2 := fun _ => rfl })
   ·intro L s w2 h hk hd hn
    have s8 := h.e2 hd.1
    have s6 := h.e0 hd.2.1
    have kb := h.kt_h hn
    refine sP fun K hK => ?_
    exact rs_store rfl s8 s6 (sp_store (p := 0) kb (by have := (HL.out : a.length = 22); omega) (0, 0)) (hK _ _ { h with mu := h.mu.put (List.Mem.head _) _, kt_h := nF, kr_h := fun _ => pH kb })
  ·intro L s w2 h hk hl
   refine cA ?_ (hQ2 s w2 (⟨h.mu, h.kr_h (hl 3 (by decide))⟩))
   exact frame_eq hk (by kernel_rfl) (by kernel_rfl)
  ·intro c s w2 hc
   exact hc.elim
 rotate_left
 ·rintro _ _ _ h
  exact h.elim
 rintro s2 V ⟨h1, c_h⟩
 simp only [mergeL]
 obtain ⟨H0, hr0⟩ : ∃ x, a.set 0 (0, 0) = x := ⟨_, rfl⟩
 try rw [hr0] at c_h
 replace HM := lh (HM.out.stepM h1 (by have := HBW.out; intro x hx; simp at hx; right; omega))
 replace HA := lh ((h1.same _ (lt_of_block HA.out) (notin1 (by omega))).trans HA.out)
 replace HH := lh c_h
 replace HBB := lh ((h1.same _ (lt_of_block HBB.out) (notin1 (by omega))).trans HBB.out)
 replace HEE := lh ((h1.same _ (lt_of_block HEE.out) (notin1 (by omega))).trans HEE.out)
 rw [hr0] at HP0
 have HL0 := lh (show H0.length = 22 by rw [← hr0, List.length_set]; exact HL.out)
 have HLEN := lh (show (tBy sDiv H0 (tAt a 0)).2 = 0 → (tBy sDiv H0 (tAt a 0)).1.length = 22 from fun h => (tEach_len rfl h).trans HL0.out)
 clear h1 c_h hr0
 refine HK2.out _ _ ?_
 refine wsk fun K3 HK3 => ?_
 refine wp_cut_mergeP (n8 (nn :: some 9 :: some 10 :: some 11 :: some 12 :: some 13 :: n8 (nn :: nn :: nn :: nn :: nn :: nn :: nn :: []))) (fun _ w' => Mut [b + 1] V w' ∧ w'.heap[b + 1]? = some (cobj 34 ((tBy sDiv H0 (tAt a 0)).1)) ∧ (tBy sDiv H0 (tAt a 0)).2 = 0) (fun ch w' => ch = brk (fstE [(tBy sDiv H0 (tAt a 0)).2]) ∧ ¬ fstE [(tBy sDiv H0 (tAt a 0)).2] = 0 ∧ Mut [b + 1] V w') ?_ ?_ ?_
 ·intro Q2 hQ2 hP2
  refine wpG ?_
  refine wp_region_G (b := false) (Pn := (fun ch w' => ch = brk (fstE [(tBy sDiv H0 (tAt a 0)).2]) ∧ ¬ fstE [(tBy sDiv H0 (tAt a 0)).2] = 0 ∧ Mut [b + 1] V w')) (Re3 V b a H0) (by kernel_rfl) (by kernel_rfl) ?_ ?_ ?_ ?_
  ·exact ⟨Mut.start _ false _, fun _ => HH.out, nB, nB, nB, nB, nB, nB, nB, nB⟩
  ·refine AllSP.cons ?_ (AllSP.cons ?_ (AllSP.cons ?_ (AllSP.cons ?_ (AllSP.cons ?_ (AllSP.cons ?_ AllSP.nil)))))
   ·intro L s w2 h hk hd hn
    have s2 : s 2 = _ := hk 2 (by kernel_rfl)
    have kb := (h.kt_h (bF h.b5_0 hn))
    refine sP fun K hK => ?_
    exact rs_load rfl s2 (md_load kb HL0.out) (hK _ _ { h with e0 := fun _ => rfl, b5_0 := fun _ => rfl })
   ·intro L s w2 h hk hd hn
    have s1 : s 1 = _ := hk 1 (by kernel_rfl)
    refine sP fun K hK => ?_
    exact rs_field rfl s1 (fl_model0 _ _) (hK _ _ { h with e1 := fun _ => rfl })
   ·intro L s w2 h hk hd hn
    have s10 := h.e1 hd.1
    refine sP fun K hK => ?_
    exact rs_index rfl s10 rfl (ix_model _ 0 (by omega)) (hK _ _ { h with e2 := fun _ => rfl })
   ·intro L s w2 h hk hd hn
    have s11 := h.e2 hd.1
    have kb := ((h.mu.same _ ((Array.getElem?_eq_some_iff.1 HA.out).1) (notin1 (by omega))).trans HA.out)
    refine sP fun K hK => ?_
    exact rs_load rfl s11 (sp_load (p := 0) kb (by have := HL.out; omega)) (hK _ _ { h with e3 := fun _ => rfl })
   ·intro L s w2 h hk hd hn
    have s9 := h.e0 hd.1
    have s12 := h.e3 hd.2.1
    refine sP fun K hK => ?_
    go_simp
    refine (tay_by_Div H0 HL0.out (tAt a 0) _).mono ?_
    rintro e w3 ⟨⟨hz, rfl⟩ | ⟨hz, rfl⟩, hb⟩
    ·exact .inl ⟨_, rfl, hK _ _ { h with mu := h.mu.step hb, kt_h := fun a => bk hb (h.kt_h a), kr_h := fun a => bk hb (h.kr_h a), e4 := fun _ => rfl, z4 := fun _ => hz }⟩
    ·exact .inr ⟨_, rfl, congrArg brk (show (tBy sDiv H0 (tAt a 0)).2 = fstE [(tBy sDiv H0 (tAt a 0)).2] from (by rw [fstE_1 (show ¬ (tBy sDiv H0 (tAt a 0)).2 = 0 from hz)])), (show ¬ fstE [(tBy sDiv H0 (tAt a 0)).2] = 0 from (by rw [fstE_1 (show ¬ (tBy sDiv H0 (tAt a 0)).2 = 0 from hz)]; exact hz)), h.mu.step hb⟩
   ·intro L s w2 h hk hd hn
    have s2 : s 2 = _ := hk 2 (by kernel_rfl)
    have s13 := h.e4 hd.1
    have kb := h.kt_h hn
    refine sP fun K hK => ?_
    exact rs_store rfl s2 s13 (md_store kb HL0.out _ (HLEN.out (h.z4 hd.1))) (hK _ _ { h with mu := h.mu.put (List.Mem.head _) _, kt_h := nF, kr_h := fun _ => pH kb, b5_0 := fun _ => hd.2.2.1 })
  ·intro L s w2 h hk hl
   refine cA ?_ (hQ2 s w2 (⟨h.mu, h.kr_h (hl 5 (by decide)), h.z4 (hl 4 (by decide))⟩))
   exact frame_eq hk (by kernel_rfl) (by kernel_rfl)
  ·intro c s w2 hc
   exact hP2 _ _ _ hc
 rotate_left
 ·rintro e l'' w' ⟨rfl, hz, h2⟩
  have he : (tRelative a).2 = fstE [(tBy sDiv H0 (tAt a 0)).2] := by
   have h := hz
   rw [HP0.out]
   exact thenE_fst1 h
  rw [← he] at hz ⊢
  exact ⟨rfl, .inr ⟨hz, rfl⟩, (by rw [← HBW.out]; exact (HM.out.stepM h2 (by have := HBW.out; intro x hx; simp at hx; right; omega)).to0)⟩
 rintro s3 V ⟨h1, c_h, z1⟩
 simp only [mergeL]
 obtain ⟨H1, hr0⟩ : ∃ x, (tBy sDiv H0 (tAt a 0)).1 = x := ⟨_, rfl⟩
 try rw [hr0] at c_h
 have HP1 := lh (show (tRelative a) = _ from by rw [HP0.out, thenE_ok z1, hr0])
 replace HM := lh (HM.out.stepM h1 (by have := HBW.out; intro x hx; simp at hx; right; omega))
 replace HA := lh ((h1.same _ (lt_of_block HA.out) (notin1 (by omega))).trans HA.out)
 replace HH := lh c_h
 replace HBB := lh ((h1.same _ (lt_of_block HBB.out) (notin1 (by omega))).trans HBB.out)
 replace HEE := lh ((h1.same _ (lt_of_block HEE.out) (notin1 (by omega))).trans HEE.out)
 have HL1 := lh (show H1.length = 22 by rw [← hr0]; exact HLEN.out z1)
 clear h1 c_h z1 hr0
 refine HK3.out _ _ ?_
 refine wsk fun K4 HK4 => ?_
 refine wp_cut_mergeP (n8 (nn :: nn :: nn :: nn :: nn :: nn :: some 14 :: some 15 :: n8 (nn :: nn :: nn :: nn :: nn :: []))) (fun _ w' => Mut [b + 1 + 1] V w' ∧ w'.heap[b + 1 + 1]? = some (cobj 31 ([(tBound H1).1])) ∧ (tBound H1).2 = 0) (fun ch w' => ch = brk (fstE [(tBound H1).2]) ∧ ¬ fstE [(tBound H1).2] = 0 ∧ Mut [b + 1 + 1] V w') ?_ ?_ ?_
 ·intro Q2 hQ2 hP2
  refine wpG ?_
  refine wp_region_G (b := false) (Pn := (fun ch w' => ch = brk (fstE [(tBound H1).2]) ∧ ¬ fstE [(tBound H1).2] = 0 ∧ Mut [b + 1 + 1] V w')) (Re4 V b a H1) (by kernel_rfl) (by kernel_rfl) ?_ ?_ ?_ ?_
  ·exact ⟨Mut.start _ false _, fun _ => HBB.out, nB, nB, nB, nB⟩
  ·refine AllSP.cons ?_ (AllSP.cons ?_ (AllSP.cons ?_ AllSP.nil))
   ·intro L s w2 h hk hd hn
    have s2 : s 2 = _ := hk 2 (by kernel_rfl)
    have kb := ((h.mu.same _ ((Array.getElem?_eq_some_iff.1 HH.out).1) (notin1 (by omega))).trans HH.out)
    refine sP fun K hK => ?_
    exact rs_load rfl s2 (md_load kb HL1.out) (hK _ _ { h with e0 := fun _ => rfl })
   ·intro L s w2 h hk hd hn
    have s14 := h.e0 hd.1
    refine sP fun K hK => ?_
    go_simp
    refine (tay_bound H1 HL1.out _).mono ?_
    rintro e w3 ⟨⟨hz, rfl⟩ | ⟨hz, rfl⟩, hb⟩
    ·exact .inl ⟨_, rfl, hK _ _ { h with mu := h.mu.step hb, kt_bb := fun a => bk hb (h.kt_bb a), kr_bb := fun a => bk hb (h.kr_bb a), e1 := fun _ => rfl, z1 := fun _ => hz }⟩
    ·exact .inr ⟨_, rfl, congrArg brk (show (tBound H1).2 = fstE [(tBound H1).2] from (by rw [fstE_1 (show ¬ (tBound H1).2 = 0 from hz)])), (show ¬ fstE [(tBound H1).2] = 0 from (by rw [fstE_1 (show ¬ (tBound H1).2 = 0 from hz)]; exact hz)), h.mu.step hb⟩
   ·intro L s w2 h hk hd hn
    have s3 : s 3 = _ := hk 3 (by kernel_rfl)
    have s15 := h.e1 hd.1
    have kb := h.kt_bb hn
    refine sP fun K hK => ?_
    exact rs_store rfl s3 s15 (sp_store (p := 0) kb (by simp) ((tBound H1).1)) (hK _ _ { h with mu := h.mu.put (List.Mem.head _) _, kt_bb := nF, kr_bb := fun _ => pH kb })
  ·intro L s w2 h hk hl
   refine cA ?_ (hQ2 s w2 (⟨h.mu, h.kr_bb (hl 2 (by decide)), h.z1 (hl 1 (by decide))⟩))
   exact frame_eq hk (by kernel_rfl) (by kernel_rfl)
  ·intro c s w2 hc
   exact hP2 _ _ _ hc
 rotate_left
 ·rintro e l'' w' ⟨rfl, hz, h2⟩
  have he : (tRelative a).2 = fstE [(tBound H1).2] := by
   have h := hz
   rw [HP1.out]
   exact thenE_fst1 h
  rw [← he] at hz ⊢
  exact ⟨rfl, .inr ⟨hz, rfl⟩, (by rw [← HBW.out]; exact (HM.out.stepM h2 (by have := HBW.out; intro x hx; simp at hx; right; omega)).to0)⟩
 rintro s4 V ⟨h1, c_bb, z1⟩
 simp only [mergeL]
 obtain ⟨bb, hr0⟩ : ∃ x, (tBound H1).1 = x := ⟨_, rfl⟩
 try rw [hr0] at c_bb
 have HP2 := lh (show (tRelative a) = _ from by rw [HP1.out, thenE_ok z1, hr0])
 replace HM := lh (HM.out.stepM h1 (by have := HBW.out; intro x hx; simp at hx; right; omega))
 replace HA := lh ((h1.same _ (lt_of_block HA.out) (notin1 (by omega))).trans HA.out)
 replace HH := lh ((h1.same _ (lt_of_block HH.out) (notin1 (by omega))).trans HH.out)
 replace HBB := lh c_bb
 replace HEE := lh ((h1.same _ (lt_of_block HEE.out) (notin1 (by omega))).trans HEE.out)
 clear h1 c_bb z1 hr0
 refine HK4.out _ _ ?_
 refine wsk fun K5 HK5 => ?_
 refine wp_cut_mergeP (n8 (n8 (some 16 :: some 17 :: some 18 :: some 19 :: some 20 :: some 21 :: some 22 :: some 23 :: some 24 :: some 25 :: some 26 :: some 27 :: some 28 :: []))) (fun _ w' => Mut [b + 1, b + 1 + 1, b + 1 + 1 + 1] V w' ∧ w'.heap[b + 1]? = some (cobj 34 H1) ∧ w'.heap[b + 1 + 1]? = some (cobj 31 ([bb])) ∧ w'.heap[b + 1 + 1 + 1]? = some (cobj 31 ([(sAdd (4294967296, 4294967296) (sMul ((0, 4294967296) : Int × Int) bb).1).1])) ∧ ((sMul (((0, 4294967296) : Int × Int)) (bb))).2 = 0 ∧ ((sAdd ((4294967296, 4294967296)) (((sMul (((0, 4294967296) : Int × Int)) (bb))).1))).2 = 0) (fun ch w' => ch = brk (fstE [((sMul (((0, 4294967296) : Int × Int)) (bb))).2, ((sAdd ((4294967296, 4294967296)) (((sMul (((0, 4294967296) : Int × Int)) (bb))).1))).2]) ∧ ¬ fstE [((sMul (((0, 4294967296) : Int × Int)) (bb))).2, ((sAdd ((4294967296, 4294967296)) (((sMul (((0, 4294967296) : Int × Int)) (bb))).1))).2] = 0 ∧ Mut [b + 1, b + 1 + 1, b + 1 + 1 + 1] V w') ?_ ?_ ?_
 ·intro Q2 hQ2 hP2
  refine wpG ?_
  refine wp_region_G (b := true) (Pn := (fun ch w' => ch = brk (fstE [((sMul (((0, 4294967296) : Int × Int)) (bb))).2, ((sAdd ((4294967296, 4294967296)) (((sMul (((0, 4294967296) : Int × Int)) (bb))).1))).2]) ∧ ¬ fstE [((sMul (((0, 4294967296) : Int × Int)) (bb))).2, ((sAdd ((4294967296, 4294967296)) (((sMul (((0, 4294967296) : Int × Int)) (bb))).1))).2] = 0 ∧ Mut [b + 1, b + 1 + 1, b + 1 + 1 + 1] V w')) (Re5 V b a H1 bb) (by kernel_rfl) (by kernel_rfl) ?_ ?_ ?_ ?_
  ·exact ⟨Mut.start _ true _, fun _ => HH.out, nB, fun _ => HBB.out, nB, fun _ => HEE.out, nB, nB, nB, nB, nB, nB, nB, nB, nB, nB, nB, nB, nB, nB, nB, nB, nB, nB, nB, nB, nB⟩
  ·refine AllSP.cons ?_ (AllSP.cons ?_ (AllSP.cons ?_ (AllSP.cons ?_ (AllSP.cons ?_ (AllSP.cons ?_ (AllSP.cons ?_ (AllSP.cons ?_ (AllSP.cons ?_ (AllSP.cons ?_ (AllSP.cons ?_ (AllSP.cons ?_ (AllSP.cons ?_ (AllSP.cons ?_ (AllSP.cons ?_ (AllSP.cons ?_ AllSP.nil)))))))))))))))
   ·intro L s w2 h hk hd hn
    have s2 : s 2 = _ := hk 2 (by kernel_rfl)
    have kb := (h.kt_h (bF h.b13_0 hn))
    refine sP fun K hK => ?_
    exact rs_load rfl s2 (md_load kb HL1.out) (hK _ _ { h with e0 := fun _ => rfl, b13_0 := fun _ => rfl })
   ·intro L s w2 h hk hd hn
    have s3 : s 3 = _ := hk 3 (by kernel_rfl)
    have kb := (h.kt_bb (bF h.b14_1 hn))
    refine sP fun K hK => ?_
    exact rs_load rfl s3 (sp_load (p := 0) kb (by simp)) (hK _ _ { h with e1 := fun _ => rfl, b14_1 := fun _ => rfl })
   ·intro L s w2 h hk hd hn
    refine sP fun K hK => ?_
    go_simp
    refine (tm_point 4294967296 _).mono ?_
    rintro e w3 ⟨rfl, hb⟩
    exact .inl ⟨_, rfl, hK _ _ { h with mu := h.mu.step hb, kt_h := fun a => bk hb (h.kt_h a), kr_h := fun a => bk hb (h.kr_h a), kt_bb := fun a => bk hb (h.kt_bb a), kr_bb := fun a => bk hb (h.kr_bb a), kt_ee := fun a => bk hb (h.kt_ee a), kr_ee := fun a => bk hb (h.kr_ee a), e2 := fun _ => rfl }⟩
   ·intro L s w2 h hk hd hn
    refine sP fun K hK => ?_
    go_simp
    exact hK _ _ { h with e3 := fun _ => rfl }
   ·intro L s w2 h hk hd hn
    have s3 : s 3 = _ := hk 3 (by kernel_rfl)
    have kb := (h.kt_bb (bF h.b14_4 hn))
    refine sP fun K hK => ?_
    exact rs_load rfl s3 (sp_load (p := 0) kb (by simp)) (hK _ _ { h with e4 := fun _ => rfl, b14_4 := fun _ => rfl })
   ·intro L s w2 h hk hd hn
    have s19 := h.e3 hd.1
    have s20 := h.e4 hd.2.1
    refine sP fun K hK => ?_
    go_simp
    refine (tm_mul (((0, 4294967296) : Int × Int)) (bb) _).mono ?_
    rintro e w3 ⟨rfl, hb⟩
    exact .inl ⟨_, rfl, hK _ _ { h with mu := h.mu.step hb, kt_h := fun a => bk hb (h.kt_h a), kr_h := fun a => bk hb (h.kr_h a), kt_bb := fun a => bk hb (h.kt_bb a), kr_bb := fun a => bk hb (h.kr_bb a), kt_ee := fun a => bk hb (h.kt_ee a), kr_ee := fun a => bk hb (h.kr_ee a), e5 := fun _ => rfl }⟩
   ·intro L s w2 h hk hd hn
    have s21 := h.e5 hd.1
    refine sP fun K hK => ?_
    exact rs_extract rfl s21 rfl (hK _ _ { h with e6 := fun _ => rfl })
   ·intro L s w2 h hk hd hn
    have s21 := h.e5 hd.1
    refine sP fun K hK => ?_
    exact rs_extract rfl s21 rfl (hK _ _ { h with e7 := fun _ => rfl })
   ·intro L s w2 h hk hd hn
    have s22 := h.e6 hd.1
    have s23 := h.e7 hd.2.1
    refine sP fun K hK => ?_
    go_simp
    refine (tm_must (((sMul (((0, 4294967296) : Int × Int)) (bb))).1) (((sMul (((0, 4294967296) : Int × Int)) (bb))).2) _).mono ?_
    rintro e w3 ⟨⟨hz, rfl⟩ | ⟨hz, rfl⟩, hb⟩
    ·exact .inl ⟨_, rfl, hK _ _ { h with mu := h.mu.step hb, kt_h := fun a => bk hb (h.kt_h a), kr_h := fun a => bk hb (h.kr_h a), kt_bb := fun a => bk hb (h.kt_bb a), kr_bb := fun a => bk hb (h.kr_bb a), kt_ee := fun a => bk hb (h.kt_ee a), kr_ee := fun a => bk hb (h.kr_ee a), e8 := fun _ => rfl, z8 := fun _ => hz }⟩
    ·exact .inr ⟨_, rfl, congrArg brk (show ((sMul (((0, 4294967296) : Int × Int)) (bb))).2 = fstE [((sMul (((0, 4294967296) : Int × Int)) (bb))).2, ((sAdd ((4294967296, 4294967296)) (((sMul (((0, 4294967296) : Int × Int)) (bb))).1))).2] from (by rw [fstE_1 (show ¬ ((sMul (((0, 4294967296) : Int × Int)) (bb))).2 = 0 from hz)])), (show ¬ fstE [((sMul (((0, 4294967296) : Int × Int)) (bb))).2, ((sAdd ((4294967296, 4294967296)) (((sMul (((0, 4294967296) : Int × Int)) (bb))).1))).2] = 0 from (by rw [fstE_1 (show ¬ ((sMul (((0, 4294967296) : Int × Int)) (bb))).2 = 0 from hz)]; exact hz)), h.mu.step hb⟩
   ·intro L s w2 h hk hd hn
    have s18 := h.e2 hd.1
    have s24 := h.e8 hd.2.1
    refine sP fun K hK => ?_
    go_simp
    refine (tm_add ((4294967296, 4294967296)) (((sMul (((0, 4294967296) : Int × Int)) (bb))).1) _).mono ?_
    rintro e w3 ⟨rfl, hb⟩
    exact .inl ⟨_, rfl, hK _ _ { h with mu := h.mu.step hb, kt_h := fun a => bk hb (h.kt_h a), kr_h := fun a => bk hb (h.kr_h a), kt_bb := fun a => bk hb (h.kt_bb a), kr_bb := fun a => bk hb (h.kr_bb a), kt_ee := fun a => bk hb (h.kt_ee a), kr_ee := fun a => bk hb (h.kr_ee a), e9 := fun _ => rfl, q9_8 := fun _ => h.z8 hd.2.1 }⟩
   ·intro L s w2 h hk hd hn
    have s25 := h.e9 hd.1
    refine sP fun K hK => ?_
    exact rs_extract rfl s25 rfl (hK _ _ { h with e10 := fun _ => rfl, q10_8 := fun _ => h.q9_8 hd.1 })
   ·intro L s w2 h hk hd hn
    have s25 := h.e9 hd.1
    refine sP fun K hK => ?_
    exact rs_extract rfl s25 rfl (hK _ _ { h with e11 := fun _ => rfl })
   ·intro L s w2 h hk hd hn
    have s26 := h.e10 hd.1
    have s27 := h.e11 hd.2.1
    refine sP fun K hK => ?_
    go_simp
    refine (tm_must (((sAdd ((4294967296, 4294967296)) (((sMul (((0, 4294967296) : Int × Int)) (bb))).1))).1) (((sAdd ((4294967296, 4294967296)) (((sMul (((0, 4294967296) : Int × Int)) (bb))).1))).2) _).mono ?_
    rintro e w3 ⟨⟨hz, rfl⟩ | ⟨hz, rfl⟩, hb⟩
    ·exact .inl ⟨_, rfl, hK _ _ { h with mu := h.mu.step hb, kt_h := fun a => bk hb (h.kt_h a), kr_h := fun a => bk hb (h.kr_h a), kt_bb := fun a => bk hb (h.kt_bb a), kr_bb := fun a => bk hb (h.kr_bb a), kt_ee := fun a => bk hb (h.kt_ee a), kr_ee := fun a => bk hb (h.kr_ee a), e12 := fun _ => rfl, z12 := fun _ => hz }⟩
    ·exact .inr ⟨_, rfl, congrArg brk (show ((sAdd ((4294967296, 4294967296)) (((sMul (((0, 4294967296) : Int × Int)) (bb))).1))).2 = fstE [((sMul (((0, 4294967296) : Int × Int)) (bb))).2, ((sAdd ((4294967296, 4294967296)) (((sMul (((0, 4294967296) : Int × Int)) (bb))).1))).2] from (by rw [fstE_0 (show ((sMul (((0, 4294967296) : Int × Int)) (bb))).2 = 0 from h.q10_8 hd.1), fstE_1 (show ¬ ((sAdd ((4294967296, 4294967296)) (((sMul (((0, 4294967296) : Int × Int)) (bb))).1))).2 = 0 from hz)])), (show ¬ fstE [((sMul (((0, 4294967296) : Int × Int)) (bb))).2, ((sAdd ((4294967296, 4294967296)) (((sMul (((0, 4294967296) : Int × Int)) (bb))).1))).2] = 0 from (by rw [fstE_0 (show ((sMul (((0, 4294967296) : Int × Int)) (bb))).2 = 0 from h.q10_8 hd.1), fstE_1 (show ¬ ((sAdd ((4294967296, 4294967296)) (((sMul (((0, 4294967296) : Int × Int)) (bb))).1))).2 = 0 from hz)]; exact hz)), h.mu.step hb⟩
   ·intro L s w2 h hk hd hn
    have s2 : s 2 = _ := hk 2 (by kernel_rfl)
    have s16 := h.e0 hd.1
    have kb := h.kt_h hn
    refine sP fun K hK => ?_
    exact rs_store rfl s2 s16 (md_store kb HL1.out _ HL1.out) (hK _ _ { h with mu := h.mu.put (List.Mem.head _) _, kt_bb := fun a => (World.putObj_heap_other (by omega)).trans (h.kt_bb a), kr_bb := fun a => (World.putObj_heap_other (by omega)).trans (h.kr_bb a), kt_ee := fun a => (World.putObj_heap_other (by omega)).trans (h.kt_ee a), kr_ee := fun a => (World.putObj_heap_other (by omega)).trans (h.kr_ee a), kt_h := nF, kr_h := fun _ => pH kb, b13_0 := fun _ => hd.1 })
   ·intro L s w2 h hk hd hn
    have s3 : s 3 = _ := hk 3 (by kernel_rfl)
    have s17 := h.e1 hd.1
    have kb := h.kt_bb hn
    refine sP fun K hK => ?_
    exact rs_store rfl s3 s17 (sp_store (p := 0) kb (by simp) bb) (hK _ _ { h with mu := h.mu.put (List.Mem.tail _ (List.Mem.head _)) _, kt_h := fun a => (World.putObj_heap_other (by omega)).trans (h.kt_h a), kr_h := fun a => (World.putObj_heap_other (by omega)).trans (h.kr_h a), kt_ee := fun a => (World.putObj_heap_other (by omega)).trans (h.kt_ee a), kr_ee := fun a => (World.putObj_heap_other (by omega)).trans (h.kr_ee a), kt_bb := nF, kr_bb := fun _ => pH kb, b14_1 := fun _ => hd.1, b14_4 := fun _ => hd.2.2.2.2.2.2.1 })
   ·intro L s w2 h hk hd hn
    have s4 : s 4 = _ := hk 4 (by kernel_rfl)
    have s28 := h.e12 hd.1
    have kb := h.kt_ee hn
    refine sP fun K hK => ?_
    exact rs_store rfl s4 s28 (sp_store (p := 0) kb (by simp) (((sAdd ((4294967296, 4294967296)) (((sMul (((0, 4294967296) : Int × Int)) (bb))).1))).1)) (hK _ _ { h with mu := h.mu.put (List.Mem.tail _ (List.Mem.tail _ (List.Mem.head _))) _, kt_h := fun a => (World.putObj_heap_other (by omega)).trans (h.kt_h a), kr_h := fun a => (World.putObj_heap_other (by omega)).trans (h.kr_h a), kt_bb := fun a => (World.putObj_heap_other (by omega)).trans (h.kt_bb a), kr_bb := fun a => (World.putObj_heap_other (by omega)).trans (h.kr_bb a), kt_ee := nF, kr_ee := fun _ => pH kb })
  ·intro L s w2 h hk hl
   refine cA ?_ (hQ2 s w2 (⟨h.mu, h.kr_h (hl 13 (by decide)), h.kr_bb (hl 14 (by decide)), h.kr_ee (hl 15 (by decide)), h.z8 (hl 8 (by decide)), h.z12 (hl 12 (by decide))⟩))
   exact frame_eq hk (by kernel_rfl) (by kernel_rfl)
  ·intro c s w2 hc
   exact hP2 _ _ _ hc
 rotate_left
 ·rintro e l'' w' ⟨rfl, hz, h2⟩
  have he : (tRelative a).2 = fstE [((sMul (((0, 4294967296) : Int × Int)) (bb))).2, ((sAdd ((4294967296, 4294967296)) (((sMul (((0, 4294967296) : Int × Int)) (bb))).1))).2] := by
   have h := hz
   rw [HP2.out]
   exact thenE_fstC h fun _ h => thenE_fst1 h
  rw [← he] at hz ⊢
  exact ⟨rfl, .inr ⟨hz, rfl⟩, (by rw [← HBW.out]; exact (HM.out.stepM h2 (by have := HBW.out; intro x hx; simp at hx; right; omega)).to0)⟩
 rintro s5 V ⟨h1, c_h, c_bb, c_ee, z1, z2⟩
 simp only [mergeL]
 obtain ⟨ee, hr0⟩ : ∃ x, (sAdd (4294967296, 4294967296) (sMul ((0, 4294967296) : Int × Int) bb).1).1 = x := ⟨_, rfl⟩
 try rw [hr0] at c_h
 try rw [hr0] at c_bb
 try rw [hr0] at c_ee
 have HP3 := lh (show (tRelative a) = _ from by rw [HP2.out, thenE_ok z1, thenE_ok z2, hr0])
 replace HM := lh (HM.out.stepM h1 (by have := HBW.out; intro x hx; simp at hx; right; omega))
 replace HA := lh ((h1.same _ (lt_of_block HA.out) (notin3 (by omega) (by omega) (by omega))).trans HA.out)
 replace HH := lh c_h
 replace HBB := lh c_bb
 replace HEE := lh c_ee
 clear h1 c_h c_bb c_ee z1 z2 hr0
 refine HK5.out _ _ ?_
 refine wp_ret ?_
 exact bodyPost_ret (v := r3val (H1, bb, ee)) (res_three Tryz.results39 rfl rfl rfl (md_loadVar HH.out HL1.out) (sp_loadVar HBB.out) (sp_loadVar HEE.out)) rfl ⟨.inl ⟨by rw [HP3.out], by rw [HP3.out]⟩, by rw [← HBW.out]; exact HM.out.to0⟩
end Go.Proofs.YthhkcfpljgdnhaaGreat
