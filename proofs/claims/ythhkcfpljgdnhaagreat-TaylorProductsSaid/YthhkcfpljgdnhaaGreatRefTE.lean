/- The reference of layer 21: got, add, mul. Printed by wip/genSU.py. -/
import Derived.Test.YthhkcfpljgdnhaaGreatRefTC
import Derived.Test.YthhkcfpljgdnhaaGreatRefTA
import Derived.Test.YthhkcfpljgdnhaaGreatRefSX
import Derived.Test.YthhkcfpljgdnhaaGreatDrT
namespace Go.Proofs.YthhkcfpljgdnhaaGreat
open Go.RowKit Mnc
attribute [local go_sem] RunSP_value RunSP_skip RunSP_enter evS_tmp evS_const evS_global evS_func
theorem fl_sums (B : Nat) (W : World) : (Instr.fieldAt 62 (.pointer (some ⟨B, 0, none⟩)) 0).run Tryz.prog W = .ok (.pointer (some ⟨B, 0, none⟩)) W := by
 simp [go_sem]
theorem res_span {fn : Func} {tmps : Array Value} {i B : Nat} {W : World} {v : Value} (hf : fn.results = #[.cell i 31]) (ht : tmps.getD i undef = .pointer (some ⟨B, 0, none⟩)) (hl : (loadVar 31 ⟨B, 0, none⟩).run Tryz.prog W = .ok v W) :
  (results fn tmps).run Tryz.prog W = .ok v W := by
 unfold results
 rw [hf]
 simp only [Array.mapM_eq_mapM_toList, List.mapM_cons, List.mapM_nil, ht, asAddr, pure_bind, map_eq_pure_bind, bind_assoc, Sem.run_bind, hl, Result.andThen, Sem.run_pure]
 rfl
structure Sga1 (V : World) (A : Nat) (L : Nat → Bool) (s : Nat → Value) (w : World) : Prop where
 mu : Mut [] V w
 e0 : L 0 = true → s 7 = .pointer (some ⟨A, 0, none⟩)
 e1 : L 1 = true → s 8 = .pointer (some ⟨A, 0, none⟩)
 e2 : L 2 = true → s 9 = .pointer (some ⟨A, 0, none⟩)
 e3 : L 3 = true → s 10 = .int .i64 0
 e4 : L 4 = true → s 11 = .bool true
structure Sga2 (V : World) (A : Nat) (L : Nat → Bool) (s : Nat → Value) (w : World) : Prop where
 mu : Mut [A] V w
 kt_c : L 4 = false → w.heap[A]? = some (iobj 62 0)
 kr_c : L 4 = true → w.heap[A]? = some (iobj 62 0)
 e0 : L 0 = true → s 12 = .pointer (some ⟨A, 0, none⟩)
 e1 : L 1 = true → s 13 = .int .i64 0
 e2 : L 2 = true → s 14 = .pointer (some ⟨A, 0, none⟩)
 e3 : L 3 = true → s 15 = .pointer (some ⟨A, 0, none⟩)
structure Sga3 (V : World) (A : Nat) (L : Nat → Bool) (s : Nat → Value) (w : World) : Prop where
 mu : Mut [] V w
 e0 : L 0 = true → s 16 = .pointer (some ⟨A, 0, none⟩)
 e1 : L 1 = true → s 17 = .pointer (some ⟨A, 0, none⟩)
 e2 : L 2 = true → s 18 = .pointer (some ⟨A, 0, none⟩)
 e3 : L 3 = true → s 19 = .int .i64 0
 e4 : L 4 = true → s 20 = .bool false
structure Sga5 (V : World) (x : (Int × Int)) (b : Nat) (L : Nat → Bool) (s : Nat → Value) (w : World) : Prop where
 mu : Mut [b + 1] V w
 kt_r : L 1 = false → w.heap[b + 1]? = some (cobj 31 ([(0, 0)]))
 kr_r : L 1 = true → w.heap[b + 1]? = some (cobj 31 ([x]))
 e0 : L 0 = true → s 22 = sval x
set_option maxRecDepth 100000 in
set_option maxHeartbeats 4000000 in
theorem rf_got_a (A : Nat) (x : Int × Int)  (w : World) (h : w.heap[A]? = some (iobj 62 0)) :
  Calls Tryz.prog 57 #[.pointer (some ⟨A, 0, none⟩), sval x, .int .i64 0] w fun r w' => r = .returned (sval x) ∧ w'.heap[A]? = some (iobj 62 (0)) ∧ Mut [A] w w' := by
 have HE0 := lh h
 clear h
 rw [show sval x = .agg #[.int .i64 x.1, .int .i64 x.2] from rfl]
 go_enter Tryz.func57, Tryz.ntmps57
 refine wsk fun K0 HK0 => ?_
 go_wp2_with fail
 obtain ⟨b, hb⟩ : ∃ b, w.heap.size = b := ⟨_, rfl⟩
 have HLT := lh (show A < b from hb ▸ lt_of_block HE0.out)
 refine HK0.out _ _ ?_
 refine wp_world (fun V => Mut [A] w V ∧ V.heap[A]? = some (iobj 62 0) ∧ V.heap[b]? = some (cobj 31 [x]) ∧ V.heap[b + 1]? = some (cobj 31 [(0, 0)])) ?_
  (by
   rw [← hb]
   exact ⟨(((Mut.refl _ _).alloc _).alloc _), heap_up _ (heap_up _ (HE0.out)), heap_up _ (heap_at (cobj 31 [x]) (by simp)), heap_at (cobj 31 [(0, 0)]) (by simp)⟩)
 rintro V ⟨hm, hHE, hHX, hHR⟩
 rw [hb]
 have HM := lh hm
 have HBW := lh hb
 have HE := lh hHE
 have HX := lh hHX
 have HR := lh hHR
 clear hm hHE hHX hHR hb HK0 HE0
 refine wsk fun KA HKA => ?_
 refine wsk fun K1 HK1 => ?_
 refine wp_cut_mergeP (nn :: nn :: nn :: nn :: nn :: nn :: nn :: some 7 :: some 8 :: some 9 :: some 10 :: some 11 :: n8 (nn :: nn :: nn :: [])) (fun s w' => Mut [] V w' ∧ s 11 = .bool true) (fun _ _ => False) ?_ ?_ ?_
 ·intro Q2 hQ2 hP2
  refine wpG ?_
  refine wp_region_G (b := false) (Pn := (fun _ _ => False)) (Sga1 V A) (by kernel_rfl) (by kernel_rfl) ?_ ?_ ?_ ?_
  ·exact ⟨Mut.start _ false _, nB, nB, nB, nB, nB⟩
  ·refine AllSP.cons ?_ (AllSP.cons ?_ (AllSP.cons ?_ (AllSP.cons ?_ (AllSP.cons ?_ AllSP.nil))))
   ·intro L s w2 h hk hd hn
    have s0 : s 0 = _ := hk 0 (by kernel_rfl)
    refine sP fun K hK => ?_
    exact rs_move rfl s0 (hK _ _ { h with e0 := fun _ => rfl })
   ·intro L s w2 h hk hd hn
    have s7 := h.e0 hd.1
    refine sP fun K hK => ?_
    go_simp
    exact hK _ _ { h with e1 := fun _ => rfl }
   ·intro L s w2 h hk hd hn
    have s8 := h.e1 hd.1
    refine sP fun K hK => ?_
    exact rs_field rfl s8 (fl_sums _ _) (hK _ _ { h with e2 := fun _ => rfl })
   ·intro L s w2 h hk hd hn
    have s9 := h.e2 hd.1
    have kb := ((h.mu.same _ ((Array.getElem?_eq_some_iff.1 HE.out).1) (by simp)).trans HE.out)
    refine sP fun K hK => ?_
    exact rs_load rfl s9 (e_load kb) (hK _ _ { h with e3 := fun _ => rfl })
   ·intro L s w2 h hk hd hn
    have s10 := h.e3 hd.1
    refine sP fun K hK => ?_
    go_simp
    exact hK _ _ { h with e4 := fun _ => rfl }
  ·intro L s w2 h hk hl
   refine cA ?_ (hQ2 s w2 (⟨h.mu, h.e4 (hl 4 (by decide))⟩))
   exact frame_eq hk (by kernel_rfl) (by kernel_rfl)
  ·intro c s w2 hc
   exact hc.elim
 rotate_left
 ·rintro _ _ _ h
  exact h.elim
 rintro s1 V ⟨h1, k11⟩
 simp only [mergeL]
 rw [k11]
 replace HE := sm h1 HE
 replace HX := sm h1 HX
 replace HR := sm h1 HR
 replace HM := lh (HM.out.stepM h1 (by simp))
 clear h1 k11
 refine HK1.out _ _ ?_
 refine wp_cond_true (by rfl) ?_
 refine wp_cut_mergeP (n8 (nn :: nn :: nn :: nn :: some 12 :: some 13 :: some 14 :: some 15 :: nn :: nn :: nn :: nn :: nn :: nn :: nn :: [])) (fun _ w' => Mut [A] V w' ∧ w'.heap[A]? = some (iobj 62 0)) (fun _ _ => False) ?_ ?_ ?_
 ·intro Q2 hQ2 hP2
  refine wpG ?_
  refine wp_region_G (b := false) (Pn := (fun _ _ => False)) (Sga2 V A) (by kernel_rfl) (by kernel_rfl) ?_ ?_ ?_ ?_
  ·exact ⟨Mut.start _ false _, fun _ => HE.out, nB, nB, nB, nB, nB⟩
  ·refine AllSP.cons ?_ (AllSP.cons ?_ (AllSP.cons ?_ (AllSP.cons ?_ (AllSP.cons ?_ AllSP.nil))))
   ·intro L s w2 h hk hd hn
    have s0 : s 0 = _ := hk 0 (by kernel_rfl)
    refine sP fun K hK => ?_
    exact rs_move rfl s0 (hK _ _ { h with e0 := fun _ => rfl })
   ·intro L s w2 h hk hd hn
    have s2 : s 2 = _ := hk 2 (by kernel_rfl)
    refine sP fun K hK => ?_
    exact rs_move rfl s2 (hK _ _ { h with e1 := fun _ => rfl })
   ·intro L s w2 h hk hd hn
    have s12 := h.e0 hd.1
    refine sP fun K hK => ?_
    go_simp
    exact hK _ _ { h with e2 := fun _ => rfl }
   ·intro L s w2 h hk hd hn
    have s14 := h.e2 hd.1
    refine sP fun K hK => ?_
    exact rs_field rfl s14 (fl_sums _ _) (hK _ _ { h with e3 := fun _ => rfl })
   ·intro L s w2 h hk hd hn
    have s15 := h.e3 hd.1
    have s13 := h.e1 hd.2.1
    have kb := h.kt_c hn
    refine sP fun K hK => ?_
    exact rs_store rfl s15 s13 (e_store kb) (hK _ _ { h with mu := h.mu.put (List.Mem.head _) _, kt_c := nF, kr_c := fun _ => pH kb })
  ·intro L s w2 h hk hl
   refine cA ?_ (hQ2 s w2 (⟨h.mu, h.kr_c (hl 4 (by decide))⟩))
   exact frame_eq hk (by kernel_rfl) (by kernel_rfl)
  ·intro c s w2 hc
   exact hc.elim
 rotate_left
 ·rintro _ _ _ h
  exact h.elim
 rintro s2 V ⟨h1, c_c⟩
 simp only [mergeL]
 replace HE := lh c_c
 replace HX := lh ((h1.same _ (lt_of_block HX.out) (notin1 (by have := HLT.out; omega))).trans HX.out)
 replace HR := lh ((h1.same _ (lt_of_block HR.out) (notin1 (by have := HLT.out; omega))).trans HR.out)
 replace HM := lh (HM.out.stepM h1 (by have := HBW.out; have := HLT.out; intro x hx; rw [List.mem_singleton.1 hx]; first | exact .inl (List.mem_singleton.2 rfl) | (right; omega)))
 clear h1 c_c
 refine HKA.out _ _ ?_
 refine wsk fun KB HKB => ?_
 refine wsk fun K3 HK3 => ?_
 refine wp_cut_mergeP (n8 (n8 (some 16 :: some 17 :: some 18 :: some 19 :: some 20 :: nn :: nn :: []))) (fun s w' => Mut [] V w' ∧ s 20 = .bool false) (fun _ _ => False) ?_ ?_ ?_
 ·intro Q2 hQ2 hP2
  refine wpG ?_
  refine wp_region_G (b := false) (Pn := (fun _ _ => False)) (Sga3 V A) (by kernel_rfl) (by kernel_rfl) ?_ ?_ ?_ ?_
  ·exact ⟨Mut.start _ false _, nB, nB, nB, nB, nB⟩
  ·refine AllSP.cons ?_ (AllSP.cons ?_ (AllSP.cons ?_ (AllSP.cons ?_ (AllSP.cons ?_ AllSP.nil))))
   ·intro L s w2 h hk hd hn
    have s0 : s 0 = _ := hk 0 (by kernel_rfl)
    refine sP fun K hK => ?_
    exact rs_move rfl s0 (hK _ _ { h with e0 := fun _ => rfl })
   ·intro L s w2 h hk hd hn
    have s16 := h.e0 hd.1
    refine sP fun K hK => ?_
    go_simp
    exact hK _ _ { h with e1 := fun _ => rfl }
   ·intro L s w2 h hk hd hn
    have s17 := h.e1 hd.1
    refine sP fun K hK => ?_
    exact rs_field rfl s17 (fl_sums _ _) (hK _ _ { h with e2 := fun _ => rfl })
   ·intro L s w2 h hk hd hn
    have s18 := h.e2 hd.1
    have kb := ((h.mu.same _ ((Array.getElem?_eq_some_iff.1 HE.out).1) (by simp)).trans HE.out)
    refine sP fun K hK => ?_
    exact rs_load rfl s18 (e_load kb) (hK _ _ { h with e3 := fun _ => rfl })
   ·intro L s w2 h hk hd hn
    have s19 := h.e3 hd.1
    refine sP fun K hK => ?_
    go_simp
    exact hK _ _ { h with e4 := fun _ => rfl }
  ·intro L s w2 h hk hl
   refine cA ?_ (hQ2 s w2 (⟨h.mu, h.e4 (hl 4 (by decide))⟩))
   exact frame_eq hk (by kernel_rfl) (by kernel_rfl)
  ·intro c s w2 hc
   exact hc.elim
 rotate_left
 ·rintro _ _ _ h
  exact h.elim
 rintro s3 V ⟨h1, k20⟩
 simp only [mergeL]
 rw [k20]
 replace HE := sm h1 HE
 replace HX := sm h1 HX
 replace HR := sm h1 HR
 replace HM := lh (HM.out.stepM h1 (by simp))
 clear h1 k20
 refine HK3.out _ _ ?_
 refine wp_cond_false (by rfl) ?_
 go_wp2_with fail
 refine HKB.out _ _ ?_
 refine wsk fun K5 HK5 => ?_
 refine wp_cut_mergeP (n8 (n8 (nn :: nn :: nn :: nn :: nn :: nn :: some 22 :: []))) (fun _ w' => Mut [b + 1] V w' ∧ w'.heap[b + 1]? = some (cobj 31 ([x]))) (fun _ _ => False) ?_ ?_ ?_
 ·intro Q2 hQ2 hP2
  refine wpG ?_
  refine wp_region_G (b := false) (Pn := (fun _ _ => False)) (Sga5 V x b) (by kernel_rfl) (by kernel_rfl) ?_ ?_ ?_ ?_
  ·exact ⟨Mut.start _ false _, fun _ => HR.out, nB, nB⟩
  ·refine AllSP.cons ?_ (AllSP.cons ?_ AllSP.nil)
   ·intro L s w2 h hk hd hn
    have s4 : s 4 = _ := hk 4 (by kernel_rfl)
    have kb := ((h.mu.same _ ((Array.getElem?_eq_some_iff.1 HX.out).1) (notin1 (by have := HLT.out; have := lt_of_block HE.out; omega))).trans HX.out)
    refine sP fun K hK => ?_
    exact rs_load rfl s4 (sp_load (p := 0) kb (by simp)) (hK _ _ { h with e0 := fun _ => rfl })
   ·intro L s w2 h hk hd hn
    have s6 : s 6 = _ := hk 6 (by kernel_rfl)
    have s22 := h.e0 hd.1
    have kb := h.kt_r hn
    refine sP fun K hK => ?_
    exact rs_store rfl s6 s22 (sp_store (p := 0) kb (by simp) x) (hK _ _ { h with mu := h.mu.put (List.Mem.head _) _, kt_r := nF, kr_r := fun _ => pH kb })
  ·intro L s w2 h hk hl
   refine cA ?_ (hQ2 s w2 (⟨h.mu, h.kr_r (hl 1 (by decide))⟩))
   exact frame_eq hk (by kernel_rfl) (by kernel_rfl)
  ·intro c s w2 hc
   exact hc.elim
 rotate_left
 ·rintro _ _ _ h
  exact h.elim
 rintro s5 V ⟨h1, c_r⟩
 simp only [mergeL]
 replace HE := lh ((h1.same _ (lt_of_block HE.out) (notin1 (by have := HLT.out; omega))).trans HE.out)
 replace HX := lh ((h1.same _ (lt_of_block HX.out) (notin1 (by have := HLT.out; omega))).trans HX.out)
 replace HR := lh c_r
 replace HM := lh (HM.out.stepM h1 (by have := HBW.out; have := HLT.out; intro x hx; rw [List.mem_singleton.1 hx]; first | exact .inl (List.mem_singleton.2 rfl) | (right; omega)))
 clear h1 c_r
 refine HK5.out _ _ ?_
 refine wp_ret ?_
 exact bodyPost_ret (v := sval x) (res_span Tryz.results57 rfl (sp_loadVar HR.out)) rfl ⟨rfl, HE.out, HM.out⟩
structure Sgb1 (V : World) (A : Nat) (L : Nat → Bool) (s : Nat → Value) (w : World) : Prop where
 mu : Mut [] V w
 e0 : L 0 = true → s 7 = .pointer (some ⟨A, 0, none⟩)
 e1 : L 1 = true → s 8 = .pointer (some ⟨A, 0, none⟩)
 e2 : L 2 = true → s 9 = .pointer (some ⟨A, 0, none⟩)
 e3 : L 3 = true → s 10 = .int .i64 0
 e4 : L 4 = true → s 11 = .bool true
structure Sgb2 (V : World) (A : Nat) (n : Int) (L : Nat → Bool) (s : Nat → Value) (w : World) : Prop where
 mu : Mut [A] V w
 kt_c : L 4 = false → w.heap[A]? = some (iobj 62 0)
 kr_c : L 4 = true → w.heap[A]? = some (iobj 62 n)
 e0 : L 0 = true → s 12 = .pointer (some ⟨A, 0, none⟩)
 e1 : L 1 = true → s 13 = .int .i64 n
 e2 : L 2 = true → s 14 = .pointer (some ⟨A, 0, none⟩)
 e3 : L 3 = true → s 15 = .pointer (some ⟨A, 0, none⟩)
structure Sgb3 (V : World) (A : Nat) (n : Int) (L : Nat → Bool) (s : Nat → Value) (w : World) : Prop where
 mu : Mut [] V w
 e0 : L 0 = true → s 16 = .pointer (some ⟨A, 0, none⟩)
 e1 : L 1 = true → s 17 = .pointer (some ⟨A, 0, none⟩)
 e2 : L 2 = true → s 18 = .pointer (some ⟨A, 0, none⟩)
 e3 : L 3 = true → s 19 = .int .i64 n
 e4 : L 4 = true → s 20 = .bool true
structure Sgb4 (V : World) (b : Nat) (L : Nat → Bool) (s : Nat → Value) (w : World) : Prop where
 mu : Mut [b + 1] V w
 kt_r : L 1 = false → w.heap[b + 1]? = some (cobj 31 ([(0, 0)]))
 kr_r : L 1 = true → w.heap[b + 1]? = some (cobj 31 ([(0, 0)]))
 e0 : L 0 = true → s 21 = sval (((0, 0) : Int × Int))
set_option maxRecDepth 100000 in
set_option maxHeartbeats 4000000 in
theorem rf_got_b (A : Nat) (x : Int × Int) (n : Int) (hn : ¬ n = 0) (w : World) (h : w.heap[A]? = some (iobj 62 0)) :
  Calls Tryz.prog 57 #[.pointer (some ⟨A, 0, none⟩), sval x, .int .i64 n] w fun r w' => r = .returned (sval (((0, 0) : Int × Int))) ∧ w'.heap[A]? = some (iobj 62 (n)) ∧ Mut [A] w w' := by
 have HE0 := lh h
 clear h
 have HN := lh hn
 clear hn
 rw [show sval x = .agg #[.int .i64 x.1, .int .i64 x.2] from rfl]
 go_enter Tryz.func57, Tryz.ntmps57
 refine wsk fun K0 HK0 => ?_
 go_wp2_with fail
 obtain ⟨b, hb⟩ : ∃ b, w.heap.size = b := ⟨_, rfl⟩
 have HLT := lh (show A < b from hb ▸ lt_of_block HE0.out)
 refine HK0.out _ _ ?_
 refine wp_world (fun V => Mut [A] w V ∧ V.heap[A]? = some (iobj 62 0) ∧ V.heap[b]? = some (cobj 31 [x]) ∧ V.heap[b + 1]? = some (cobj 31 [(0, 0)])) ?_
  (by
   rw [← hb]
   exact ⟨(((Mut.refl _ _).alloc _).alloc _), heap_up _ (heap_up _ (HE0.out)), heap_up _ (heap_at (cobj 31 [x]) (by simp)), heap_at (cobj 31 [(0, 0)]) (by simp)⟩)
 rintro V ⟨hm, hHE, hHX, hHR⟩
 rw [hb]
 have HM := lh hm
 have HBW := lh hb
 have HE := lh hHE
 have HX := lh hHX
 have HR := lh hHR
 clear hm hHE hHX hHR hb HK0 HE0
 refine wsk fun KA HKA => ?_
 refine wsk fun K1 HK1 => ?_
 refine wp_cut_mergeP (nn :: nn :: nn :: nn :: nn :: nn :: nn :: some 7 :: some 8 :: some 9 :: some 10 :: some 11 :: n8 (nn :: nn :: nn :: [])) (fun s w' => Mut [] V w' ∧ s 11 = .bool true) (fun _ _ => False) ?_ ?_ ?_
 ·intro Q2 hQ2 hP2
  refine wpG ?_
  refine wp_region_G (b := false) (Pn := (fun _ _ => False)) (Sgb1 V A) (by kernel_rfl) (by kernel_rfl) ?_ ?_ ?_ ?_
  ·exact ⟨Mut.start _ false _, nB, nB, nB, nB, nB⟩
  ·refine AllSP.cons ?_ (AllSP.cons ?_ (AllSP.cons ?_ (AllSP.cons ?_ (AllSP.cons ?_ AllSP.nil))))
   ·intro L s w2 h hk hd hn
    have s0 : s 0 = _ := hk 0 (by kernel_rfl)
    refine sP fun K hK => ?_
    exact rs_move rfl s0 (hK _ _ { h with e0 := fun _ => rfl })
   ·intro L s w2 h hk hd hn
    have s7 := h.e0 hd.1
    refine sP fun K hK => ?_
    go_simp
    exact hK _ _ { h with e1 := fun _ => rfl }
   ·intro L s w2 h hk hd hn
    have s8 := h.e1 hd.1
    refine sP fun K hK => ?_
    exact rs_field rfl s8 (fl_sums _ _) (hK _ _ { h with e2 := fun _ => rfl })
   ·intro L s w2 h hk hd hn
    have s9 := h.e2 hd.1
    have kb := ((h.mu.same _ ((Array.getElem?_eq_some_iff.1 HE.out).1) (by simp)).trans HE.out)
    refine sP fun K hK => ?_
    exact rs_load rfl s9 (e_load kb) (hK _ _ { h with e3 := fun _ => rfl })
   ·intro L s w2 h hk hd hn
    have s10 := h.e3 hd.1
    refine sP fun K hK => ?_
    go_simp
    exact hK _ _ { h with e4 := fun _ => rfl }
  ·intro L s w2 h hk hl
   refine cA ?_ (hQ2 s w2 (⟨h.mu, h.e4 (hl 4 (by decide))⟩))
   exact frame_eq hk (by kernel_rfl) (by kernel_rfl)
  ·intro c s w2 hc
   exact hc.elim
 rotate_left
 ·rintro _ _ _ h
  exact h.elim
 rintro s1 V ⟨h1, k11⟩
 simp only [mergeL]
 rw [k11]
 replace HE := sm h1 HE
 replace HX := sm h1 HX
 replace HR := sm h1 HR
 replace HM := lh (HM.out.stepM h1 (by simp))
 clear h1 k11
 refine HK1.out _ _ ?_
 refine wp_cond_true (by rfl) ?_
 refine wp_cut_mergeP (n8 (nn :: nn :: nn :: nn :: some 12 :: some 13 :: some 14 :: some 15 :: nn :: nn :: nn :: nn :: nn :: nn :: nn :: [])) (fun _ w' => Mut [A] V w' ∧ w'.heap[A]? = some (iobj 62 n)) (fun _ _ => False) ?_ ?_ ?_
 ·intro Q2 hQ2 hP2
  refine wpG ?_
  refine wp_region_G (b := false) (Pn := (fun _ _ => False)) (Sgb2 V A n) (by kernel_rfl) (by kernel_rfl) ?_ ?_ ?_ ?_
  ·exact ⟨Mut.start _ false _, fun _ => HE.out, nB, nB, nB, nB, nB⟩
  ·refine AllSP.cons ?_ (AllSP.cons ?_ (AllSP.cons ?_ (AllSP.cons ?_ (AllSP.cons ?_ AllSP.nil))))
   ·intro L s w2 h hk hd hn
    have s0 : s 0 = _ := hk 0 (by kernel_rfl)
    refine sP fun K hK => ?_
    exact rs_move rfl s0 (hK _ _ { h with e0 := fun _ => rfl })
   ·intro L s w2 h hk hd hn
    have s2 : s 2 = _ := hk 2 (by kernel_rfl)
    refine sP fun K hK => ?_
    exact rs_move rfl s2 (hK _ _ { h with e1 := fun _ => rfl })
   ·intro L s w2 h hk hd hn
    have s12 := h.e0 hd.1
    refine sP fun K hK => ?_
    go_simp
    exact hK _ _ { h with e2 := fun _ => rfl }
   ·intro L s w2 h hk hd hn
    have s14 := h.e2 hd.1
    refine sP fun K hK => ?_
    exact rs_field rfl s14 (fl_sums _ _) (hK _ _ { h with e3 := fun _ => rfl })
   ·intro L s w2 h hk hd hn
    have s15 := h.e3 hd.1
    have s13 := h.e1 hd.2.1
    have kb := h.kt_c hn
    refine sP fun K hK => ?_
    exact rs_store rfl s15 s13 (e_store kb) (hK _ _ { h with mu := h.mu.put (List.Mem.head _) _, kt_c := nF, kr_c := fun _ => pH kb })
  ·intro L s w2 h hk hl
   refine cA ?_ (hQ2 s w2 (⟨h.mu, h.kr_c (hl 4 (by decide))⟩))
   exact frame_eq hk (by kernel_rfl) (by kernel_rfl)
  ·intro c s w2 hc
   exact hc.elim
 rotate_left
 ·rintro _ _ _ h
  exact h.elim
 rintro s2 V ⟨h1, c_c⟩
 simp only [mergeL]
 replace HE := lh c_c
 replace HX := lh ((h1.same _ (lt_of_block HX.out) (notin1 (by have := HLT.out; omega))).trans HX.out)
 replace HR := lh ((h1.same _ (lt_of_block HR.out) (notin1 (by have := HLT.out; omega))).trans HR.out)
 replace HM := lh (HM.out.stepM h1 (by have := HBW.out; have := HLT.out; intro x hx; rw [List.mem_singleton.1 hx]; first | exact .inl (List.mem_singleton.2 rfl) | (right; omega)))
 clear h1 c_c
 refine HKA.out _ _ ?_
 refine wsk fun KB HKB => ?_
 refine wsk fun K3 HK3 => ?_
 refine wp_cut_mergeP (n8 (n8 (some 16 :: some 17 :: some 18 :: some 19 :: some 20 :: nn :: nn :: []))) (fun s w' => Mut [] V w' ∧ s 20 = .bool true) (fun _ _ => False) ?_ ?_ ?_
 ·intro Q2 hQ2 hP2
  refine wpG ?_
  refine wp_region_G (b := false) (Pn := (fun _ _ => False)) (Sgb3 V A n) (by kernel_rfl) (by kernel_rfl) ?_ ?_ ?_ ?_
  ·exact ⟨Mut.start _ false _, nB, nB, nB, nB, nB⟩
  ·refine AllSP.cons ?_ (AllSP.cons ?_ (AllSP.cons ?_ (AllSP.cons ?_ (AllSP.cons ?_ AllSP.nil))))
   ·intro L s w2 h hk hd hn
    have s0 : s 0 = _ := hk 0 (by kernel_rfl)
    refine sP fun K hK => ?_
    exact rs_move rfl s0 (hK _ _ { h with e0 := fun _ => rfl })
   ·intro L s w2 h hk hd hn
    have s16 := h.e0 hd.1
    refine sP fun K hK => ?_
    go_simp
    exact hK _ _ { h with e1 := fun _ => rfl }
   ·intro L s w2 h hk hd hn
    have s17 := h.e1 hd.1
    refine sP fun K hK => ?_
    exact rs_field rfl s17 (fl_sums _ _) (hK _ _ { h with e2 := fun _ => rfl })
   ·intro L s w2 h hk hd hn
    have s18 := h.e2 hd.1
    have kb := ((h.mu.same _ ((Array.getElem?_eq_some_iff.1 HE.out).1) (by simp)).trans HE.out)
    refine sP fun K hK => ?_
    exact rs_load rfl s18 (e_load kb) (hK _ _ { h with e3 := fun _ => rfl })
   ·intro L s w2 h hk hd hn
    have s19 := h.e3 hd.1
    refine sP fun K hK => ?_
    go_simp
    exact hK _ _ { h with e4 := fun _ => congrArg Value.bool (by simp; exact HN.out) }
  ·intro L s w2 h hk hl
   refine cA ?_ (hQ2 s w2 (⟨h.mu, h.e4 (hl 4 (by decide))⟩))
   exact frame_eq hk (by kernel_rfl) (by kernel_rfl)
  ·intro c s w2 hc
   exact hc.elim
 rotate_left
 ·rintro _ _ _ h
  exact h.elim
 rintro s3 V ⟨h1, k20⟩
 simp only [mergeL]
 rw [k20]
 replace HE := sm h1 HE
 replace HX := sm h1 HX
 replace HR := sm h1 HR
 replace HM := lh (HM.out.stepM h1 (by simp))
 clear h1 k20
 refine HK3.out _ _ ?_
 refine wp_cond_true (by rfl) ?_
 refine wsk fun K4 HK4 => ?_
 refine wp_cut_mergeP (n8 (n8 (nn :: nn :: nn :: nn :: nn :: some 21 :: nn :: []))) (fun _ w' => Mut [b + 1] V w' ∧ w'.heap[b + 1]? = some (cobj 31 ([(0, 0)]))) (fun _ _ => False) ?_ ?_ ?_
 ·intro Q2 hQ2 hP2
  refine wpG ?_
  refine wp_region_G (b := false) (Pn := (fun _ _ => False)) (Sgb4 V b) (by kernel_rfl) (by kernel_rfl) ?_ ?_ ?_ ?_
  ·exact ⟨Mut.start _ false _, fun _ => HR.out, nB, nB⟩
  ·refine AllSP.cons ?_ (AllSP.cons ?_ AllSP.nil)
   ·intro L s w2 h hk hd hn
    refine sP fun K hK => ?_
    go_simp
    exact hK _ _ { h with e0 := fun _ => rfl }
   ·intro L s w2 h hk hd hn
    have s6 : s 6 = _ := hk 6 (by kernel_rfl)
    have s21 := h.e0 hd.1
    have kb := h.kt_r hn
    refine sP fun K hK => ?_
    exact rs_store rfl s6 s21 (sp_store (p := 0) kb (by simp) (((0, 0) : Int × Int))) (hK _ _ { h with mu := h.mu.put (List.Mem.head _) _, kt_r := nF, kr_r := fun _ => pH kb })
  ·intro L s w2 h hk hl
   refine cA ?_ (hQ2 s w2 (⟨h.mu, h.kr_r (hl 1 (by decide))⟩))
   exact frame_eq hk (by kernel_rfl) (by kernel_rfl)
  ·intro c s w2 hc
   exact hc.elim
 rotate_left
 ·rintro _ _ _ h
  exact h.elim
 rintro s4 V ⟨h1, c_r⟩
 simp only [mergeL]
 replace HE := lh ((h1.same _ (lt_of_block HE.out) (notin1 (by have := HLT.out; omega))).trans HE.out)
 replace HX := lh ((h1.same _ (lt_of_block HX.out) (notin1 (by have := HLT.out; omega))).trans HX.out)
 replace HR := lh c_r
 replace HM := lh (HM.out.stepM h1 (by have := HBW.out; have := HLT.out; intro x hx; rw [List.mem_singleton.1 hx]; first | exact .inl (List.mem_singleton.2 rfl) | (right; omega)))
 clear h1 c_r
 refine HK4.out _ _ ?_
 go_wp2_with fail
 exact bodyPost_ret (v := sval (((0, 0) : Int × Int))) (res_span Tryz.results57 rfl (sp_loadVar HR.out)) rfl ⟨rfl, HE.out, HM.out⟩
structure Sgc1 (V : World) (A : Nat) (e : Int) (L : Nat → Bool) (s : Nat → Value) (w : World) : Prop where
 mu : Mut [] V w
 e0 : L 0 = true → s 7 = .pointer (some ⟨A, 0, none⟩)
 e1 : L 1 = true → s 8 = .pointer (some ⟨A, 0, none⟩)
 e2 : L 2 = true → s 9 = .pointer (some ⟨A, 0, none⟩)
 e3 : L 3 = true → s 10 = .int .i64 e
 e4 : L 4 = true → s 11 = .bool false
structure Sgc3 (V : World) (A : Nat) (e : Int) (L : Nat → Bool) (s : Nat → Value) (w : World) : Prop where
 mu : Mut [] V w
 e0 : L 0 = true → s 16 = .pointer (some ⟨A, 0, none⟩)
 e1 : L 1 = true → s 17 = .pointer (some ⟨A, 0, none⟩)
 e2 : L 2 = true → s 18 = .pointer (some ⟨A, 0, none⟩)
 e3 : L 3 = true → s 19 = .int .i64 e
 e4 : L 4 = true → s 20 = .bool true
structure Sgc4 (V : World) (b : Nat) (L : Nat → Bool) (s : Nat → Value) (w : World) : Prop where
 mu : Mut [b + 1] V w
 kt_r : L 1 = false → w.heap[b + 1]? = some (cobj 31 ([(0, 0)]))
 kr_r : L 1 = true → w.heap[b + 1]? = some (cobj 31 ([(0, 0)]))
 e0 : L 0 = true → s 21 = sval (((0, 0) : Int × Int))
set_option maxRecDepth 100000 in
set_option maxHeartbeats 4000000 in
theorem rf_got_c (A : Nat) (e : Int) (x : Int × Int) (n : Int) (he : ¬ e = 0) (w : World) (h : w.heap[A]? = some (iobj 62 e)) :
  Calls Tryz.prog 57 #[.pointer (some ⟨A, 0, none⟩), sval x, .int .i64 n] w fun r w' => r = .returned (sval (((0, 0) : Int × Int))) ∧ w'.heap[A]? = some (iobj 62 (e)) ∧ Mut [A] w w' := by
 have HE0 := lh h
 clear h
 have HNE := lh he
 clear he
 rw [show sval x = .agg #[.int .i64 x.1, .int .i64 x.2] from rfl]
 go_enter Tryz.func57, Tryz.ntmps57
 refine wsk fun K0 HK0 => ?_
 go_wp2_with fail
 obtain ⟨b, hb⟩ : ∃ b, w.heap.size = b := ⟨_, rfl⟩
 have HLT := lh (show A < b from hb ▸ lt_of_block HE0.out)
 refine HK0.out _ _ ?_
 refine wp_world (fun V => Mut [A] w V ∧ V.heap[A]? = some (iobj 62 e) ∧ V.heap[b]? = some (cobj 31 [x]) ∧ V.heap[b + 1]? = some (cobj 31 [(0, 0)])) ?_
  (by
   rw [← hb]
   exact ⟨(((Mut.refl _ _).alloc _).alloc _), heap_up _ (heap_up _ (HE0.out)), heap_up _ (heap_at (cobj 31 [x]) (by simp)), heap_at (cobj 31 [(0, 0)]) (by simp)⟩)
 rintro V ⟨hm, hHE, hHX, hHR⟩
 rw [hb]
 have HM := lh hm
 have HBW := lh hb
 have HE := lh hHE
 have HX := lh hHX
 have HR := lh hHR
 clear hm hHE hHX hHR hb HK0 HE0
 refine wsk fun KA HKA => ?_
 refine wsk fun K1 HK1 => ?_
 refine wp_cut_mergeP (nn :: nn :: nn :: nn :: nn :: nn :: nn :: some 7 :: some 8 :: some 9 :: some 10 :: some 11 :: n8 (nn :: nn :: nn :: [])) (fun s w' => Mut [] V w' ∧ s 11 = .bool false) (fun _ _ => False) ?_ ?_ ?_
 ·intro Q2 hQ2 hP2
  refine wpG ?_
  refine wp_region_G (b := false) (Pn := (fun _ _ => False)) (Sgc1 V A e) (by kernel_rfl) (by kernel_rfl) ?_ ?_ ?_ ?_
  ·exact ⟨Mut.start _ false _, nB, nB, nB, nB, nB⟩
  ·refine AllSP.cons ?_ (AllSP.cons ?_ (AllSP.cons ?_ (AllSP.cons ?_ (AllSP.cons ?_ AllSP.nil))))
   ·intro L s w2 h hk hd hn
    have s0 : s 0 = _ := hk 0 (by kernel_rfl)
    refine sP fun K hK => ?_
    exact rs_move rfl s0 (hK _ _ { h with e0 := fun _ => rfl })
   ·intro L s w2 h hk hd hn
    have s7 := h.e0 hd.1
    refine sP fun K hK => ?_
    go_simp
    exact hK _ _ { h with e1 := fun _ => rfl }
   ·intro L s w2 h hk hd hn
    have s8 := h.e1 hd.1
    refine sP fun K hK => ?_
    exact rs_field rfl s8 (fl_sums _ _) (hK _ _ { h with e2 := fun _ => rfl })
   ·intro L s w2 h hk hd hn
    have s9 := h.e2 hd.1
    have kb := ((h.mu.same _ ((Array.getElem?_eq_some_iff.1 HE.out).1) (by simp)).trans HE.out)
    refine sP fun K hK => ?_
    exact rs_load rfl s9 (e_load kb) (hK _ _ { h with e3 := fun _ => rfl })
   ·intro L s w2 h hk hd hn
    have s10 := h.e3 hd.1
    refine sP fun K hK => ?_
    go_simp
    exact hK _ _ { h with e4 := fun _ => congrArg Value.bool (by simp; exact HNE.out) }
  ·intro L s w2 h hk hl
   refine cA ?_ (hQ2 s w2 (⟨h.mu, h.e4 (hl 4 (by decide))⟩))
   exact frame_eq hk (by kernel_rfl) (by kernel_rfl)
  ·intro c s w2 hc
   exact hc.elim
 rotate_left
 ·rintro _ _ _ h
  exact h.elim
 rintro s1 V ⟨h1, k11⟩
 simp only [mergeL]
 rw [k11]
 replace HE := sm h1 HE
 replace HX := sm h1 HX
 replace HR := sm h1 HR
 replace HM := lh (HM.out.stepM h1 (by simp))
 clear h1 k11
 refine HK1.out _ _ ?_
 refine wp_cond_false (by rfl) ?_
 go_wp2_with fail
 refine HKA.out _ _ ?_
 refine wsk fun KB HKB => ?_
 refine wsk fun K3 HK3 => ?_
 refine wp_cut_mergeP (n8 (n8 (some 16 :: some 17 :: some 18 :: some 19 :: some 20 :: nn :: nn :: []))) (fun s w' => Mut [] V w' ∧ s 20 = .bool true) (fun _ _ => False) ?_ ?_ ?_
 ·intro Q2 hQ2 hP2
  refine wpG ?_
  refine wp_region_G (b := false) (Pn := (fun _ _ => False)) (Sgc3 V A e) (by kernel_rfl) (by kernel_rfl) ?_ ?_ ?_ ?_
  ·exact ⟨Mut.start _ false _, nB, nB, nB, nB, nB⟩
  ·refine AllSP.cons ?_ (AllSP.cons ?_ (AllSP.cons ?_ (AllSP.cons ?_ (AllSP.cons ?_ AllSP.nil))))
   ·intro L s w2 h hk hd hn
    have s0 : s 0 = _ := hk 0 (by kernel_rfl)
    refine sP fun K hK => ?_
    exact rs_move rfl s0 (hK _ _ { h with e0 := fun _ => rfl })
   ·intro L s w2 h hk hd hn
    have s16 := h.e0 hd.1
    refine sP fun K hK => ?_
    go_simp
    exact hK _ _ { h with e1 := fun _ => rfl }
   ·intro L s w2 h hk hd hn
    have s17 := h.e1 hd.1
    refine sP fun K hK => ?_
    exact rs_field rfl s17 (fl_sums _ _) (hK _ _ { h with e2 := fun _ => rfl })
   ·intro L s w2 h hk hd hn
    have s18 := h.e2 hd.1
    have kb := ((h.mu.same _ ((Array.getElem?_eq_some_iff.1 HE.out).1) (by simp)).trans HE.out)
    refine sP fun K hK => ?_
    exact rs_load rfl s18 (e_load kb) (hK _ _ { h with e3 := fun _ => rfl })
   ·intro L s w2 h hk hd hn
    have s19 := h.e3 hd.1
    refine sP fun K hK => ?_
    go_simp
    exact hK _ _ { h with e4 := fun _ => congrArg Value.bool (by simp; exact HNE.out) }
  ·intro L s w2 h hk hl
   refine cA ?_ (hQ2 s w2 (⟨h.mu, h.e4 (hl 4 (by decide))⟩))
   exact frame_eq hk (by kernel_rfl) (by kernel_rfl)
  ·intro c s w2 hc
   exact hc.elim
 rotate_left
 ·rintro _ _ _ h
  exact h.elim
 rintro s3 V ⟨h1, k20⟩
 simp only [mergeL]
 rw [k20]
 replace HE := sm h1 HE
 replace HX := sm h1 HX
 replace HR := sm h1 HR
 replace HM := lh (HM.out.stepM h1 (by simp))
 clear h1 k20
 refine HK3.out _ _ ?_
 refine wp_cond_true (by rfl) ?_
 refine wsk fun K4 HK4 => ?_
 refine wp_cut_mergeP (n8 (n8 (nn :: nn :: nn :: nn :: nn :: some 21 :: nn :: []))) (fun _ w' => Mut [b + 1] V w' ∧ w'.heap[b + 1]? = some (cobj 31 ([(0, 0)]))) (fun _ _ => False) ?_ ?_ ?_
 ·intro Q2 hQ2 hP2
  refine wpG ?_
  refine wp_region_G (b := false) (Pn := (fun _ _ => False)) (Sgc4 V b) (by kernel_rfl) (by kernel_rfl) ?_ ?_ ?_ ?_
  ·exact ⟨Mut.start _ false _, fun _ => HR.out, nB, nB⟩
  ·refine AllSP.cons ?_ (AllSP.cons ?_ AllSP.nil)
   ·intro L s w2 h hk hd hn
    refine sP fun K hK => ?_
    go_simp
    exact hK _ _ { h with e0 := fun _ => rfl }
   ·intro L s w2 h hk hd hn
    have s6 : s 6 = _ := hk 6 (by kernel_rfl)
    have s21 := h.e0 hd.1
    have kb := h.kt_r hn
    refine sP fun K hK => ?_
    exact rs_store rfl s6 s21 (sp_store (p := 0) kb (by simp) (((0, 0) : Int × Int))) (hK _ _ { h with mu := h.mu.put (List.Mem.head _) _, kt_r := nF, kr_r := fun _ => pH kb })
  ·intro L s w2 h hk hl
   refine cA ?_ (hQ2 s w2 (⟨h.mu, h.kr_r (hl 1 (by decide))⟩))
   exact frame_eq hk (by kernel_rfl) (by kernel_rfl)
  ·intro c s w2 hc
   exact hc.elim
 rotate_left
 ·rintro _ _ _ h
  exact h.elim
 rintro s4 V ⟨h1, c_r⟩
 simp only [mergeL]
 replace HE := lh ((h1.same _ (lt_of_block HE.out) (notin1 (by have := HLT.out; omega))).trans HE.out)
 replace HX := lh ((h1.same _ (lt_of_block HX.out) (notin1 (by have := HLT.out; omega))).trans HX.out)
 replace HR := lh c_r
 replace HM := lh (HM.out.stepM h1 (by have := HBW.out; have := HLT.out; intro x hx; rw [List.mem_singleton.1 hx]; first | exact .inl (List.mem_singleton.2 rfl) | (right; omega)))
 clear h1 c_r
 refine HK4.out _ _ ?_
 go_wp2_with fail
 exact bodyPost_ret (v := sval (((0, 0) : Int × Int))) (res_span Tryz.results57 rfl (sp_loadVar HR.out)) rfl ⟨rfl, HE.out, HM.out⟩
theorem rf_got (A : Nat) (e : Int) (x : Int × Int) (n : Int) (w : World) (h : w.heap[A]? = some (iobj 62 e)) :
  Calls Tryz.prog 57 #[.pointer (some ⟨A, 0, none⟩), sval x, .int .i64 n] w fun r w' => r = .returned (sval (gt e (x, n)).1) ∧ w'.heap[A]? = some (iobj 62 (gt e (x, n)).2) ∧ Mut [A] w w' := by
 by_cases he : e = 0
 ·subst he
  by_cases hn : n = 0
  ·subst hn
   rw [gt_ok rfl]
   exact rf_got_a A x w h
  ·rw [gt_bad (x := (x, n)) hn]
   exact rf_got_b A x n hn w h
 ·rw [gt_err he]
  exact rf_got_c A e x n he w h
structure Soadd1 (V : World) (x : (Int × Int)) (y : (Int × Int)) (L : Nat → Bool) (s : Nat → Value) (w : World) : Prop where
 mu : Mut [] V w
 e0 : L 0 = true → s 10 = sval x
 e1 : L 1 = true → s 11 = sval y
 e2 : L 2 = true → s 12 = .tuple #[sval (sAdd x y).1, .int .i64 (sAdd x y).2]
 e3 : L 3 = true → s 9 = .tuple #[sval (sAdd x y).1, .int .i64 (sAdd x y).2]
 e4 : L 4 = true → s 13 = sval ((sAdd x y).1)
 e5 : L 5 = true → s 14 = .int .i64 ((sAdd x y).2)
 al_u : L 6 = true → ∃ g : Nat, s 7 = .pointer (some ⟨g, 0, none⟩) ∧ V.heap.size ≤ g ∧ g < w.heap.size ∧ (L 7 = false → w.heap[g]? = some (cobj 31 [(0, 0)])) ∧ (L 7 = true → w.heap[g]? = some (cobj 31 [(sAdd x y).1]))
 e8 : L 8 = true → s 8 = .int .i64 ((sAdd x y).2)
 b7_6 : L 7 = true → L 6 = true
structure Soadd2 (V : World) (A : Nat) (e : Int) (x : (Int × Int)) (y : (Int × Int)) (b : Nat) (L : Nat → Bool) (s : Nat → Value) (w : World) : Prop where
 mu : Mut [b + 1 + 1, A] V w
 kt_r : L 4 = false → w.heap[b + 1 + 1]? = some (cobj 31 ([(0, 0)]))
 kr_r : L 4 = true → w.heap[b + 1 + 1]? = some (cobj 31 ([(gt e (sAdd x y)).1]))
 kg_c_0 : L 3 = false → w.heap[A]? = some (iobj 62 e)
 kg_c_1 : L 3 = true → w.heap[A]? = some (iobj 62 ((gt e (sAdd x y)).2))
 e0 : L 0 = true → s 15 = .pointer (some ⟨A, 0, none⟩)
 e1 : L 1 = true → s 16 = sval ((sAdd x y).1)
 e2 : L 2 = true → s 17 = .int .i64 ((sAdd x y).2)
 e3 : L 3 = true → s 18 = sval ((gt e (sAdd x y)).1)
set_option maxRecDepth 100000 in
set_option maxHeartbeats 4000000 in
theorem rf_add (A : Nat) (e : Int) (x y : Int × Int) (w : World) (h : w.heap[A]? = some (iobj 62 e)) :
  Calls Tryz.prog 48 #[.pointer (some ⟨A, 0, none⟩), sval x, sval y] w fun r w' => r = .returned (sval (gt e (sAdd x y)).1) ∧ w'.heap[A]? = some (iobj 62 ((gt e (sAdd x y)).2)) ∧ Mut [A] w w' := by
 have HE0 := lh h
 clear h
 rw [show sval x = .agg #[.int .i64 x.1, .int .i64 x.2] from rfl]
 rw [show sval y = .agg #[.int .i64 y.1, .int .i64 y.2] from rfl]
 go_enter Tryz.func48, Tryz.ntmps48
 refine wsk fun K0 HK0 => ?_
 go_wp2_with fail
 obtain ⟨b, hb⟩ : ∃ b, w.heap.size = b := ⟨_, rfl⟩
 have HLT := lh (show A < b from hb ▸ lt_of_block HE0.out)
 refine HK0.out _ _ ?_
 refine wp_world (fun V => Mut [A] w V ∧ V.heap[A]? = some (iobj 62 e) ∧ V.heap[b]? = some (cobj 31 [x]) ∧ V.heap[b + 1]? = some (cobj 31 [y]) ∧ V.heap[b + 1 + 1]? = some (cobj 31 [(0, 0)])) ?_
  (by
   rw [← hb]
   exact ⟨((((Mut.refl _ _).alloc _).alloc _).alloc _), heap_up _ (heap_up _ (heap_up _ (HE0.out))), heap_up _ (heap_up _ (heap_at (cobj 31 [x]) (by simp))), heap_up _ (heap_at (cobj 31 [y]) (by simp)), heap_at (cobj 31 [(0, 0)]) (by simp)⟩)
 rintro V ⟨hm, hHE, hHX, hHY, hHR⟩
 rw [hb]
 have HM := lh hm
 have HBW := lh hb
 have HE := lh hHE
 have HX := lh hHX
 have HY := lh hHY
 have HR := lh hHR
 clear hm hHE hHX hHY hHR hb HK0 HE0
 refine wsk fun K1 HK1 => ?_
 refine wp_cut_mergeP (nn :: nn :: nn :: nn :: nn :: nn :: nn :: some 7 :: some 8 :: some 9 :: some 10 :: some 11 :: some 12 :: some 13 :: some 14 :: nn :: nn :: nn :: nn :: []) (fun s w' => Mut [] V w' ∧ (∃ g : Nat, s 7 = .pointer (some ⟨g, 0, none⟩) ∧ V.heap.size ≤ g ∧ w'.heap[g]? = some (cobj 31 [(sAdd x y).1])) ∧ s 8 = .int .i64 ((sAdd x y).2)) (fun _ _ => False) ?_ ?_ ?_
 ·intro Q2 hQ2 hP2
  refine wpG ?_
  refine wp_region_G (b := false) (Pn := (fun _ _ => False)) (Soadd1 V x y) (by kernel_rfl) (by kernel_rfl) ?_ ?_ ?_ ?_
  ·exact ⟨Mut.start _ false _, nB, nB, nB, nB, nB, nB, nB, nB, nB⟩
  ·refine AllSP.cons ?_ (AllSP.cons ?_ (AllSP.cons ?_ (AllSP.cons ?_ (AllSP.cons ?_ (AllSP.cons ?_ (AllSP.cons ?_ (AllSP.cons ?_ (AllSP.cons ?_ AllSP.nil))))))))
   ·intro L s w2 h hk hd hn
    have s4 : s 4 = _ := hk 4 (by kernel_rfl)
    have kb := ((h.mu.same _ ((Array.getElem?_eq_some_iff.1 HX.out).1) (by simp)).trans HX.out)
    refine sP fun K hK => ?_
    exact rs_load rfl s4 (sp_load (p := 0) kb (by simp)) (hK _ _ { h with e0 := fun _ => rfl })
   ·intro L s w2 h hk hd hn
    have s5 : s 5 = _ := hk 5 (by kernel_rfl)
    have kb := ((h.mu.same _ ((Array.getElem?_eq_some_iff.1 HY.out).1) (by simp)).trans HY.out)
    refine sP fun K hK => ?_
    exact rs_load rfl s5 (sp_load (p := 0) kb (by simp)) (hK _ _ { h with e1 := fun _ => rfl })
   ·intro L s w2 h hk hd hn
    have s10 := h.e0 hd.1
    have s11 := h.e1 hd.2.1
    refine sP fun K hK => ?_
    go_simp
    refine (ref2_Add x y _).mono ?_
    rintro e w3 ⟨rfl, hb⟩
    exact .inl ⟨_, rfl, hK _ _ { h with mu := h.mu.step hb, al_u := fun a => let ⟨g, h0, h1, hl, h2, h3⟩ := h.al_u a; ⟨g, h0, h1, Nat.lt_of_lt_of_le hl hb.size, fun c => (hb.block _ (lt_of_block (h2 c))).trans (h2 c), fun c => (hb.block _ (lt_of_block (h3 c))).trans (h3 c)⟩, e2 := fun _ => rfl }⟩
   ·intro L s w2 h hk hd hn
    have s12 := h.e2 hd.1
    refine sP fun K hK => ?_
    exact rs_move rfl s12 (hK _ _ { h with e3 := fun _ => rfl })
   ·intro L s w2 h hk hd hn
    have s9 := h.e3 hd.1
    refine sP fun K hK => ?_
    exact rs_extract rfl s9 rfl (hK _ _ { h with e4 := fun _ => rfl })
   ·intro L s w2 h hk hd hn
    have s9 := h.e3 hd.1
    refine sP fun K hK => ?_
    exact rs_extract rfl s9 rfl (hK _ _ { h with e5 := fun _ => rfl })
   ·intro L s w2 h hk hd hn
    refine sP fun K hK => ?_
    go_simp
    exact hK _ _ { h with mu := h.mu.alloc _, al_u := fun _ => ⟨_, rfl, h.mu.size, by simp, fun _ => heap_at _ rfl, fun a => absurd (h.b7_6 a) (by rw [hn]; exact bft)⟩, b7_6 := fun _ => rfl }
   ·intro L s w2 h hk hd hn
    have s13 := h.e4 hd.2.1
    obtain ⟨g, hg0, hg1, hgl, hg2, hg3⟩ := h.al_u hd.1
    have kb := hg2 hn
    refine sP fun K hK => ?_
    exact rs_store rfl hg0 s13 (sp_store (p := 0) kb (by simp) ((sAdd x y).1)) (hK _ _ { h with mu := h.mu.putNew hg1 _, al_u := fun a => ⟨g, hg0, hg1, by simpa using hgl, nF, fun _ => pH kb⟩, b7_6 := fun _ => hd.1 })
   ·intro L s w2 h hk hd hn
    have s14 := h.e5 hd.1
    refine sP fun K hK => ?_
    exact rs_assign rfl s14 (hK _ _ { h with e8 := fun _ => rfl })
  ·intro L s w2 h hk hl
   refine cA ?_ (hQ2 s w2 (⟨h.mu, (let ⟨g, h0, h1, _, _, h3⟩ := h.al_u (hl 6 (by decide)); ⟨g, h0, h1, h3 (hl 7 (by decide))⟩), h.e8 (hl 8 (by decide))⟩))
   exact frame_eq hk (by kernel_rfl) (by kernel_rfl)
  ·intro c s w2 hc
   exact hc.elim
 rotate_left
 ·rintro _ _ _ h
  exact h.elim
 rintro s1 V ⟨h1, ⟨g0, k_u, g_u, c_u⟩, k8⟩
 simp only [mergeL]
 rw [k_u]
 rw [k8]
 replace HLT := lh (show b ≤ g0 ∧ A < g0 ∧ b < g0 ∧ b + 1 < g0 ∧ b + 1 + 1 < g0 ∧ A < b from by
  have hlt := HLT.out
  have hbw := HM.out.size
  have hbw2 := HBW.out
  have := lt_of_block HE.out
  have := lt_of_block HX.out
  have := lt_of_block HY.out
  have := lt_of_block HR.out
  omega)
 replace HE := sm h1 HE
 replace HX := sm h1 HX
 replace HY := sm h1 HY
 replace HR := sm h1 HR
 have HU := lh c_u
 replace HM := lh (HM.out.stepM h1 (by simp))
 clear h1 k_u g_u c_u k8
 refine HK1.out _ _ ?_
 refine wsk fun K2 HK2 => ?_
 refine wp_cut_mergeP (n8 (nn :: nn :: nn :: nn :: nn :: nn :: nn :: some 15 :: some 16 :: some 17 :: some 18 :: [])) (fun _ w' => Mut [b + 1 + 1, A] V w' ∧ w'.heap[b + 1 + 1]? = some (cobj 31 ([(gt e (sAdd x y)).1])) ∧ w'.heap[A]? = some (iobj 62 ((gt e (sAdd x y)).2))) (fun _ _ => False) ?_ ?_ ?_
 ·intro Q2 hQ2 hP2
  refine wpG ?_
  refine wp_region_G (b := false) (Pn := (fun _ _ => False)) (Soadd2 V A e x y b) (by kernel_rfl) (by kernel_rfl) ?_ ?_ ?_ ?_
  ·exact ⟨Mut.start _ false _, fun _ => HR.out, nB, fun _ => HE.out, nB, nB, nB, nB, nB⟩
  ·refine AllSP.cons ?_ (AllSP.cons ?_ (AllSP.cons ?_ (AllSP.cons ?_ (AllSP.cons ?_ AllSP.nil))))
   ·intro L s w2 h hk hd hn
    have s0 : s 0 = _ := hk 0 (by kernel_rfl)
    refine sP fun K hK => ?_
    exact rs_move rfl s0 (hK _ _ { h with e0 := fun _ => rfl })
   ·intro L s w2 h hk hd hn
    have s7 : s 7 = _ := hk 7 (by kernel_rfl)
    have kb := ((h.mu.same _ ((Array.getElem?_eq_some_iff.1 HU.out).1) (notin2 (by have := HLT.out; have := lt_of_block HE.out; omega) (by have := HLT.out; have := lt_of_block HE.out; omega))).trans HU.out)
    refine sP fun K hK => ?_
    exact rs_load rfl s7 (sp_load (p := 0) kb (by simp)) (hK _ _ { h with e1 := fun _ => rfl })
   ·intro L s w2 h hk hd hn
    have s8 : s 8 = _ := hk 8 (by kernel_rfl)
    refine sP fun K hK => ?_
    exact rs_move rfl s8 (hK _ _ { h with e2 := fun _ => rfl })
   ·intro L s w2 h hk hd hn
    have s15 := h.e0 hd.1
    have s16 := h.e1 hd.2.1
    have s17 := h.e2 hd.2.2.1
    have kb := h.kg_c_0 hn
    refine sP fun K hK => ?_
    go_simp
    refine (rf_got _ e (sAdd x y).1 (sAdd x y).2 _ kb).mono ?_
    rintro e w3 ⟨rfl, hkr, hb⟩
    exact .inl ⟨_, rfl, hK _ _ { h with mu := h.mu.stepM hb (by intro x hx; rw [List.mem_singleton.1 hx]; exact .inl (List.Mem.tail _ (List.Mem.head _))), kt_r := fun a => (hb.same _ (lt_of_block (h.kt_r a)) (notin1 (by have := HLT.out; have := lt_of_block HE.out; omega))).trans (h.kt_r a), kr_r := fun a => (hb.same _ (lt_of_block (h.kr_r a)) (notin1 (by have := HLT.out; have := lt_of_block HE.out; omega))).trans (h.kr_r a), kg_c_0 := nF, kg_c_1 := fun _ => hkr, e3 := fun _ => rfl }⟩
   ·intro L s w2 h hk hd hn
    have s6 : s 6 = _ := hk 6 (by kernel_rfl)
    have s18 := h.e3 hd.1
    have kb := h.kt_r hn
    refine sP fun K hK => ?_
    exact rs_store rfl s6 s18 (sp_store (p := 0) kb (by simp) ((gt e (sAdd x y)).1)) (hK _ _ { h with mu := h.mu.put (List.Mem.head _) _, kg_c_0 := fun a => (World.putObj_heap_other (by have := HLT.out; have := lt_of_block HE.out; omega)).trans (h.kg_c_0 a), kg_c_1 := fun a => (World.putObj_heap_other (by have := HLT.out; have := lt_of_block HE.out; omega)).trans (h.kg_c_1 a), kt_r := nF, kr_r := fun _ => pH kb })
  ·intro L s w2 h hk hl
   refine cA ?_ (hQ2 s w2 (⟨h.mu, h.kr_r (hl 4 (by decide)), h.kg_c_1 (hl 3 (by decide))⟩))
   exact frame_eq hk (by kernel_rfl) (by kernel_rfl)
  ·intro c s w2 hc
   exact hc.elim
 rotate_left
 ·rintro _ _ _ h
  exact h.elim
 rintro s2 V ⟨h1, c_r, c_c⟩
 simp only [mergeL]
 replace HE := lh c_c
 replace HX := lh ((h1.same _ (lt_of_block HX.out) (notin2 (by have := HLT.out; omega) (by have := HLT.out; omega))).trans HX.out)
 replace HY := lh ((h1.same _ (lt_of_block HY.out) (notin2 (by have := HLT.out; omega) (by have := HLT.out; omega))).trans HY.out)
 replace HR := lh c_r
 replace HU := lh ((h1.same _ (lt_of_block HU.out) (notin2 (by have := HLT.out; omega) (by have := HLT.out; omega))).trans HU.out)
 replace HM := lh (HM.out.stepM h1 (by have := HBW.out; have := HLT.out; intro x hx; simp only [List.mem_cons, List.not_mem_nil, or_false] at hx; rcases hx with rfl | rfl <;> first | exact .inl (List.mem_singleton.2 rfl) | (right; omega)))
 clear h1 c_r c_c
 refine HK2.out _ _ ?_
 refine wp_ret ?_
 exact bodyPost_ret (v := sval (gt e (sAdd x y)).1) (res_span Tryz.results48 rfl (sp_loadVar HR.out)) rfl ⟨rfl, HE.out, HM.out⟩
structure Somul1 (V : World) (x : (Int × Int)) (y : (Int × Int)) (L : Nat → Bool) (s : Nat → Value) (w : World) : Prop where
 mu : Mut [] V w
 e0 : L 0 = true → s 10 = sval x
 e1 : L 1 = true → s 11 = sval y
 e2 : L 2 = true → s 12 = .tuple #[sval (sMul x y).1, .int .i64 (sMul x y).2]
 e3 : L 3 = true → s 9 = .tuple #[sval (sMul x y).1, .int .i64 (sMul x y).2]
 e4 : L 4 = true → s 13 = sval ((sMul x y).1)
 e5 : L 5 = true → s 14 = .int .i64 ((sMul x y).2)
 al_u : L 6 = true → ∃ g : Nat, s 7 = .pointer (some ⟨g, 0, none⟩) ∧ V.heap.size ≤ g ∧ g < w.heap.size ∧ (L 7 = false → w.heap[g]? = some (cobj 31 [(0, 0)])) ∧ (L 7 = true → w.heap[g]? = some (cobj 31 [(sMul x y).1]))
 e8 : L 8 = true → s 8 = .int .i64 ((sMul x y).2)
 b7_6 : L 7 = true → L 6 = true
structure Somul2 (V : World) (A : Nat) (e : Int) (x : (Int × Int)) (y : (Int × Int)) (b : Nat) (L : Nat → Bool) (s : Nat → Value) (w : World) : Prop where
 mu : Mut [b + 1 + 1, A] V w
 kt_r : L 4 = false → w.heap[b + 1 + 1]? = some (cobj 31 ([(0, 0)]))
 kr_r : L 4 = true → w.heap[b + 1 + 1]? = some (cobj 31 ([(gt e (sMul x y)).1]))
 kg_c_0 : L 3 = false → w.heap[A]? = some (iobj 62 e)
 kg_c_1 : L 3 = true → w.heap[A]? = some (iobj 62 ((gt e (sMul x y)).2))
 e0 : L 0 = true → s 15 = .pointer (some ⟨A, 0, none⟩)
 e1 : L 1 = true → s 16 = sval ((sMul x y).1)
 e2 : L 2 = true → s 17 = .int .i64 ((sMul x y).2)
 e3 : L 3 = true → s 18 = sval ((gt e (sMul x y)).1)
set_option maxRecDepth 100000 in
set_option maxHeartbeats 4000000 in
theorem rf_mul (A : Nat) (e : Int) (x y : Int × Int) (w : World) (h : w.heap[A]? = some (iobj 62 e)) :
  Calls Tryz.prog 56 #[.pointer (some ⟨A, 0, none⟩), sval x, sval y] w fun r w' => r = .returned (sval (gt e (sMul x y)).1) ∧ w'.heap[A]? = some (iobj 62 ((gt e (sMul x y)).2)) ∧ Mut [A] w w' := by
 have HE0 := lh h
 clear h
 rw [show sval x = .agg #[.int .i64 x.1, .int .i64 x.2] from rfl]
 rw [show sval y = .agg #[.int .i64 y.1, .int .i64 y.2] from rfl]
 go_enter Tryz.func56, Tryz.ntmps56
 refine wsk fun K0 HK0 => ?_
 go_wp2_with fail
 obtain ⟨b, hb⟩ : ∃ b, w.heap.size = b := ⟨_, rfl⟩
 have HLT := lh (show A < b from hb ▸ lt_of_block HE0.out)
 refine HK0.out _ _ ?_
 refine wp_world (fun V => Mut [A] w V ∧ V.heap[A]? = some (iobj 62 e) ∧ V.heap[b]? = some (cobj 31 [x]) ∧ V.heap[b + 1]? = some (cobj 31 [y]) ∧ V.heap[b + 1 + 1]? = some (cobj 31 [(0, 0)])) ?_
  (by
   rw [← hb]
   exact ⟨((((Mut.refl _ _).alloc _).alloc _).alloc _), heap_up _ (heap_up _ (heap_up _ (HE0.out))), heap_up _ (heap_up _ (heap_at (cobj 31 [x]) (by simp))), heap_up _ (heap_at (cobj 31 [y]) (by simp)), heap_at (cobj 31 [(0, 0)]) (by simp)⟩)
 rintro V ⟨hm, hHE, hHX, hHY, hHR⟩
 rw [hb]
 have HM := lh hm
 have HBW := lh hb
 have HE := lh hHE
 have HX := lh hHX
 have HY := lh hHY
 have HR := lh hHR
 clear hm hHE hHX hHY hHR hb HK0 HE0
 refine wsk fun K1 HK1 => ?_
 refine wp_cut_mergeP (nn :: nn :: nn :: nn :: nn :: nn :: nn :: some 7 :: some 8 :: some 9 :: some 10 :: some 11 :: some 12 :: some 13 :: some 14 :: nn :: nn :: nn :: nn :: []) (fun s w' => Mut [] V w' ∧ (∃ g : Nat, s 7 = .pointer (some ⟨g, 0, none⟩) ∧ V.heap.size ≤ g ∧ w'.heap[g]? = some (cobj 31 [(sMul x y).1])) ∧ s 8 = .int .i64 ((sMul x y).2)) (fun _ _ => False) ?_ ?_ ?_
 ·intro Q2 hQ2 hP2
  refine wpG ?_
  refine wp_region_G (b := false) (Pn := (fun _ _ => False)) (Somul1 V x y) (by kernel_rfl) (by kernel_rfl) ?_ ?_ ?_ ?_
  ·exact ⟨Mut.start _ false _, nB, nB, nB, nB, nB, nB, nB, nB, nB⟩
  ·refine AllSP.cons ?_ (AllSP.cons ?_ (AllSP.cons ?_ (AllSP.cons ?_ (AllSP.cons ?_ (AllSP.cons ?_ (AllSP.cons ?_ (AllSP.cons ?_ (AllSP.cons ?_ AllSP.nil))))))))
   ·intro L s w2 h hk hd hn
    have s4 : s 4 = _ := hk 4 (by kernel_rfl)
    have kb := ((h.mu.same _ ((Array.getElem?_eq_some_iff.1 HX.out).1) (by simp)).trans HX.out)
    refine sP fun K hK => ?_
    exact rs_load rfl s4 (sp_load (p := 0) kb (by simp)) (hK _ _ { h with e0 := fun _ => rfl })
   ·intro L s w2 h hk hd hn
    have s5 : s 5 = _ := hk 5 (by kernel_rfl)
    have kb := ((h.mu.same _ ((Array.getElem?_eq_some_iff.1 HY.out).1) (by simp)).trans HY.out)
    refine sP fun K hK => ?_
    exact rs_load rfl s5 (sp_load (p := 0) kb (by simp)) (hK _ _ { h with e1 := fun _ => rfl })
   ·intro L s w2 h hk hd hn
    have s10 := h.e0 hd.1
    have s11 := h.e1 hd.2.1
    refine sP fun K hK => ?_
    go_simp
    refine (ref2_Mul x y _).mono ?_
    rintro e w3 ⟨rfl, hb⟩
    exact .inl ⟨_, rfl, hK _ _ { h with mu := h.mu.step hb, al_u := fun a => let ⟨g, h0, h1, hl, h2, h3⟩ := h.al_u a; ⟨g, h0, h1, Nat.lt_of_lt_of_le hl hb.size, fun c => (hb.block _ (lt_of_block (h2 c))).trans (h2 c), fun c => (hb.block _ (lt_of_block (h3 c))).trans (h3 c)⟩, e2 := fun _ => rfl }⟩
   ·intro L s w2 h hk hd hn
    have s12 := h.e2 hd.1
    refine sP fun K hK => ?_
    exact rs_move rfl s12 (hK _ _ { h with e3 := fun _ => rfl })
   ·intro L s w2 h hk hd hn
    have s9 := h.e3 hd.1
    refine sP fun K hK => ?_
    exact rs_extract rfl s9 rfl (hK _ _ { h with e4 := fun _ => rfl })
   ·intro L s w2 h hk hd hn
    have s9 := h.e3 hd.1
    refine sP fun K hK => ?_
    exact rs_extract rfl s9 rfl (hK _ _ { h with e5 := fun _ => rfl })
   ·intro L s w2 h hk hd hn
    refine sP fun K hK => ?_
    go_simp
    exact hK _ _ { h with mu := h.mu.alloc _, al_u := fun _ => ⟨_, rfl, h.mu.size, by simp, fun _ => heap_at _ rfl, fun a => absurd (h.b7_6 a) (by rw [hn]; exact bft)⟩, b7_6 := fun _ => rfl }
   ·intro L s w2 h hk hd hn
    have s13 := h.e4 hd.2.1
    obtain ⟨g, hg0, hg1, hgl, hg2, hg3⟩ := h.al_u hd.1
    have kb := hg2 hn
    refine sP fun K hK => ?_
    exact rs_store rfl hg0 s13 (sp_store (p := 0) kb (by simp) ((sMul x y).1)) (hK _ _ { h with mu := h.mu.putNew hg1 _, al_u := fun a => ⟨g, hg0, hg1, by simpa using hgl, nF, fun _ => pH kb⟩, b7_6 := fun _ => hd.1 })
   ·intro L s w2 h hk hd hn
    have s14 := h.e5 hd.1
    refine sP fun K hK => ?_
    exact rs_assign rfl s14 (hK _ _ { h with e8 := fun _ => rfl })
  ·intro L s w2 h hk hl
   refine cA ?_ (hQ2 s w2 (⟨h.mu, (let ⟨g, h0, h1, _, _, h3⟩ := h.al_u (hl 6 (by decide)); ⟨g, h0, h1, h3 (hl 7 (by decide))⟩), h.e8 (hl 8 (by decide))⟩))
   exact frame_eq hk (by kernel_rfl) (by kernel_rfl)
  ·intro c s w2 hc
   exact hc.elim
 rotate_left
 ·rintro _ _ _ h
  exact h.elim
 rintro s1 V ⟨h1, ⟨g0, k_u, g_u, c_u⟩, k8⟩
 simp only [mergeL]
 rw [k_u]
 rw [k8]
 replace HLT := lh (show b ≤ g0 ∧ A < g0 ∧ b < g0 ∧ b + 1 < g0 ∧ b + 1 + 1 < g0 ∧ A < b from by
  have hlt := HLT.out
  have hbw := HM.out.size
  have hbw2 := HBW.out
  have := lt_of_block HE.out
  have := lt_of_block HX.out
  have := lt_of_block HY.out
  have := lt_of_block HR.out
  omega)
 replace HE := sm h1 HE
 replace HX := sm h1 HX
 replace HY := sm h1 HY
 replace HR := sm h1 HR
 have HU := lh c_u
 replace HM := lh (HM.out.stepM h1 (by simp))
 clear h1 k_u g_u c_u k8
 refine HK1.out _ _ ?_
 refine wsk fun K2 HK2 => ?_
 refine wp_cut_mergeP (n8 (nn :: nn :: nn :: nn :: nn :: nn :: nn :: some 15 :: some 16 :: some 17 :: some 18 :: [])) (fun _ w' => Mut [b + 1 + 1, A] V w' ∧ w'.heap[b + 1 + 1]? = some (cobj 31 ([(gt e (sMul x y)).1])) ∧ w'.heap[A]? = some (iobj 62 ((gt e (sMul x y)).2))) (fun _ _ => False) ?_ ?_ ?_
 ·intro Q2 hQ2 hP2
  refine wpG ?_
  refine wp_region_G (b := false) (Pn := (fun _ _ => False)) (Somul2 V A e x y b) (by kernel_rfl) (by kernel_rfl) ?_ ?_ ?_ ?_
  ·exact ⟨Mut.start _ false _, fun _ => HR.out, nB, fun _ => HE.out, nB, nB, nB, nB, nB⟩
  ·refine AllSP.cons ?_ (AllSP.cons ?_ (AllSP.cons ?_ (AllSP.cons ?_ (AllSP.cons ?_ AllSP.nil))))
   ·intro L s w2 h hk hd hn
    have s0 : s 0 = _ := hk 0 (by kernel_rfl)
    refine sP fun K hK => ?_
    exact rs_move rfl s0 (hK _ _ { h with e0 := fun _ => rfl })
   ·intro L s w2 h hk hd hn
    have s7 : s 7 = _ := hk 7 (by kernel_rfl)
    have kb := ((h.mu.same _ ((Array.getElem?_eq_some_iff.1 HU.out).1) (notin2 (by have := HLT.out; have := lt_of_block HE.out; omega) (by have := HLT.out; have := lt_of_block HE.out; omega))).trans HU.out)
    refine sP fun K hK => ?_
    exact rs_load rfl s7 (sp_load (p := 0) kb (by simp)) (hK _ _ { h with e1 := fun _ => rfl })
   ·intro L s w2 h hk hd hn
    have s8 : s 8 = _ := hk 8 (by kernel_rfl)
    refine sP fun K hK => ?_
    exact rs_move rfl s8 (hK _ _ { h with e2 := fun _ => rfl })
   ·intro L s w2 h hk hd hn
    have s15 := h.e0 hd.1
    have s16 := h.e1 hd.2.1
    have s17 := h.e2 hd.2.2.1
    have kb := h.kg_c_0 hn
    refine sP fun K hK => ?_
    go_simp
    refine (rf_got _ e (sMul x y).1 (sMul x y).2 _ kb).mono ?_
    rintro e w3 ⟨rfl, hkr, hb⟩
    exact .inl ⟨_, rfl, hK _ _ { h with mu := h.mu.stepM hb (by intro x hx; rw [List.mem_singleton.1 hx]; exact .inl (List.Mem.tail _ (List.Mem.head _))), kt_r := fun a => (hb.same _ (lt_of_block (h.kt_r a)) (notin1 (by have := HLT.out; have := lt_of_block HE.out; omega))).trans (h.kt_r a), kr_r := fun a => (hb.same _ (lt_of_block (h.kr_r a)) (notin1 (by have := HLT.out; have := lt_of_block HE.out; omega))).trans (h.kr_r a), kg_c_0 := nF, kg_c_1 := fun _ => hkr, e3 := fun _ => rfl }⟩
   ·intro L s w2 h hk hd hn
    have s6 : s 6 = _ := hk 6 (by kernel_rfl)
    have s18 := h.e3 hd.1
    have kb := h.kt_r hn
    refine sP fun K hK => ?_
    exact rs_store rfl s6 s18 (sp_store (p := 0) kb (by simp) ((gt e (sMul x y)).1)) (hK _ _ { h with mu := h.mu.put (List.Mem.head _) _, kg_c_0 := fun a => (World.putObj_heap_other (by have := HLT.out; have := lt_of_block HE.out; omega)).trans (h.kg_c_0 a), kg_c_1 := fun a => (World.putObj_heap_other (by have := HLT.out; have := lt_of_block HE.out; omega)).trans (h.kg_c_1 a), kt_r := nF, kr_r := fun _ => pH kb })
  ·intro L s w2 h hk hl
   refine cA ?_ (hQ2 s w2 (⟨h.mu, h.kr_r (hl 4 (by decide)), h.kg_c_1 (hl 3 (by decide))⟩))
   exact frame_eq hk (by kernel_rfl) (by kernel_rfl)
  ·intro c s w2 hc
   exact hc.elim
 rotate_left
 ·rintro _ _ _ h
  exact h.elim
 rintro s2 V ⟨h1, c_r, c_c⟩
 simp only [mergeL]
 replace HE := lh c_c
 replace HX := lh ((h1.same _ (lt_of_block HX.out) (notin2 (by have := HLT.out; omega) (by have := HLT.out; omega))).trans HX.out)
 replace HY := lh ((h1.same _ (lt_of_block HY.out) (notin2 (by have := HLT.out; omega) (by have := HLT.out; omega))).trans HY.out)
 replace HR := lh c_r
 replace HU := lh ((h1.same _ (lt_of_block HU.out) (notin2 (by have := HLT.out; omega) (by have := HLT.out; omega))).trans HU.out)
 replace HM := lh (HM.out.stepM h1 (by have := HBW.out; have := HLT.out; intro x hx; simp only [List.mem_cons, List.not_mem_nil, or_false] at hx; rcases hx with rfl | rfl <;> first | exact .inl (List.mem_singleton.2 rfl) | (right; omega)))
 clear h1 c_r c_c
 refine HK2.out _ _ ?_
 refine wp_ret ?_
 exact bodyPost_ret (v := sval (gt e (sMul x y)).1) (res_span Tryz.results56 rfl (sp_loadVar HR.out)) rfl ⟨rfl, HE.out, HM.out⟩
end Go.Proofs.YthhkcfpljgdnhaaGreat
