/- The reference of layer 21: bound, told, both. Printed by wip/genSU.py. -/
import Derived.Test.YthhkcfpljgdnhaaGreatRefTG
import Derived.Test.YthhkcfpljgdnhaaGreatTayArr
namespace Go.Proofs.YthhkcfpljgdnhaaGreat
open Go.RowKit Mnc
attribute [local go_sem] RunSP_value RunSP_skip RunSP_enter evS_tmp evS_const evS_global evS_func
structure Zb1 (V : World) (A : Nat) (e : Int) (a : List (Int × Int)) (b : Nat) (L : Nat → Bool) (s : Nat → Value) (w : World) : Prop where
 mu : Mut [b + 1, A] V w
 kt_r : L 7 = false → w.heap[b + 1]? = some (cobj 31 ([(0, 0)]))
 kr_r : L 7 = true → w.heap[b + 1]? = some (cobj 31 ([(gt (gt e (tSweep a)).2 (sAdd (gt e (tSweep a)).1 (tAt a 21))).1]))
 kg_c_0 : L 3 = false → w.heap[A]? = some (iobj 62 e)
 kg_c_1 : L 3 = true → L 6 = false → w.heap[A]? = some (iobj 62 ((gt e (tSweep a)).2))
 kg_c_2 : L 6 = true → w.heap[A]? = some (iobj 62 ((gt ((gt e (tSweep a)).2) (sAdd ((gt e (tSweep a)).1) (tAt a 21))).2))
 e0 : L 0 = true → s 5 = .pointer (some ⟨A, 0, none⟩)
 e1 : L 1 = true → s 6 = .pointer (some ⟨A, 0, none⟩)
 e2 : L 2 = true → s 7 = mval a
 e3 : L 3 = true → s 8 = sval ((gt e (tSweep a)).1)
 e4 : L 4 = true → s 9 = .pointer (some ⟨b, 21 * 2, none⟩)
 e5 : L 5 = true → s 10 = sval (tAt a 21)
 e6 : L 6 = true → s 11 = sval ((gt ((gt e (tSweep a)).2) (sAdd ((gt e (tSweep a)).1) (tAt a 21))).1)
 b6_3 : L 6 = true → L 3 = true
set_option maxRecDepth 100000 in
set_option maxHeartbeats 4000000 in
theorem rf_bound (A : Nat) (e : Int) (a : List (Int × Int)) (ha : a.length = 22) (w : World) (h : w.heap[A]? = some (iobj 62 e)) :
  Calls Tryz.prog 36 #[.pointer (some ⟨A, 0, none⟩), mval a] w fun r w' => r = .returned (sval (gt e (tBound a)).1) ∧ w'.heap[A]? = some (iobj 62 ((gt e (tBound a)).2)) ∧ Mut [A] w w' := by
 have HE0 := lh h
 clear h
 have HL := lh ha
 clear ha
 rw [show gt e (tBound a) = gt (gt e (tSweep a)).2 (sAdd (gt e (tSweep a)).1 (tAt a 21)) from by rw [← rBound_eq, rBound, rSweep_eq]]
 go_enter Tryz.func36, Tryz.ntmps36
 refine wsk fun K0 HK0 => ?_
 go_wp2_with fail
 rename_i x1 cs1 hc1
 obtain rfl : (mc a).toArray = cs1 := Value.agg.inj hc1
 clear hc1
 obtain ⟨b, hb⟩ : ∃ b, w.heap.size = b := ⟨_, rfl⟩
 have HLT := lh (show A < b from hb ▸ lt_of_block HE0.out)
 refine HK0.out _ _ ?_
 refine wp_world (fun V => Mut [A] w V ∧ V.heap[A]? = some (iobj 62 e) ∧ V.heap[b]? = some (cobj 34 a) ∧ V.heap[b + 1]? = some (cobj 31 [(0, 0)])) ?_
  (by
   rw [← hb]
   exact ⟨(((Mut.refl _ _).alloc _).alloc _), heap_up _ (heap_up _ (HE0.out)), heap_up _ (heap_at (cobj 34 a) (by simp)), heap_at (cobj 31 [(0, 0)]) (by simp)⟩)
 rintro V ⟨hm, hHE, hHA, hHR⟩
 rw [hb]
 have HM := lh hm
 have HBW := lh hb
 have HE := lh hHE
 have HA := lh hHA
 have HR := lh hHR
 clear hm hHE hHA hHR hb HK0 HE0
 refine wsk fun K1 HK1 => ?_
 refine wp_cut_mergeP (nn :: nn :: nn :: nn :: nn :: some 5 :: some 6 :: some 7 :: some 8 :: some 9 :: some 10 :: some 11 :: []) (fun _ w' => Mut [b + 1, A] V w' ∧ w'.heap[b + 1]? = some (cobj 31 ([(gt (gt e (tSweep a)).2 (sAdd (gt e (tSweep a)).1 (tAt a 21))).1])) ∧ w'.heap[A]? = some (iobj 62 ((gt ((gt e (tSweep a)).2) (sAdd ((gt e (tSweep a)).1) (tAt a 21))).2))) (fun _ _ => False) ?_ ?_ ?_
 ·intro Q2 hQ2 hP2
  refine wpG ?_
  refine wp_region_G (b := true) (Pn := (fun _ _ => False)) (Zb1 V A e a b) (by kernel_rfl) (by kernel_rfl) ?_ ?_ ?_ ?_
  ·exact ⟨Mut.start _ true _, fun _ => HR.out, nB, fun _ => HE.out, nB, nB, nB, nB, nB, nB, nB, nB, nB, nB⟩
  ·refine AllSP.cons ?_ (AllSP.cons ?_ (AllSP.cons ?_ (AllSP.cons ?_ (AllSP.cons ?_ (AllSP.cons ?_ (AllSP.cons ?_ (AllSP.cons ?_ AllSP.nil)))))))
   ·intro L s w2 h hk hd hn
    have s0 : s 0 = _ := hk 0 (by kernel_rfl)
    refine sP fun K hK => ?_
    exact rs_move rfl s0 (hK _ _ { h with e0 := fun _ => rfl })
   ·intro L s w2 h hk hd hn
    have s0 : s 0 = _ := hk 0 (by kernel_rfl)
    refine sP fun K hK => ?_
    exact rs_move rfl s0 (hK _ _ { h with e1 := fun _ => rfl })
   ·intro L s w2 h hk hd hn
    have s3 : s 3 = _ := hk 3 (by kernel_rfl)
    have kb := ((h.mu.same _ ((Array.getElem?_eq_some_iff.1 HA.out).1) (notin2 (by have := HLT.out; have := lt_of_block HE.out; omega) (by have := HLT.out; have := lt_of_block HE.out; omega))).trans HA.out)
    refine sP fun K hK => ?_
    exact rs_load rfl s3 (md_load kb HL.out) (hK _ _ { h with e2 := fun _ => rfl })
   ·intro L s w2 h hk hd hn
    have s6 := h.e1 hd.1
    have s7 := h.e2 hd.2.1
    have kb := h.kg_c_0 hn
    refine sP fun K hK => ?_
    go_simp
    refine (rf_sweep _ e a HL.out _ kb).mono ?_
    rintro e w3 ⟨rfl, hkr, hb⟩
    exact .inl ⟨_, rfl, hK _ _ { h with mu := h.mu.stepM hb (by intro x hx; rw [List.mem_singleton.1 hx]; exact .inl (List.Mem.tail _ (List.Mem.head _))), kt_r := fun a => (hb.same _ (lt_of_block (h.kt_r a)) (notin1 (by have := HLT.out; have := lt_of_block HE.out; omega))).trans (h.kt_r a), kr_r := fun a => (hb.same _ (lt_of_block (h.kr_r a)) (notin1 (by have := HLT.out; have := lt_of_block HE.out; omega))).trans (h.kr_r a), kg_c_0 := nF, kg_c_1 := fun _ _ => hkr, kg_c_2 := fun a => absurd (h.b6_3 a) (by rw [hn]; exact bft), e3 := fun _ => rfl, b6_3 := fun _ => rfl }⟩
   ·intro L s w2 h hk hd hn
    have s3 : s 3 = _ := hk 3 (by kernel_rfl)
    refine sP fun K hK => ?_
    exact rs_field rfl s3 (fl_model1 _ _) (hK _ _ { h with e4 := fun _ => rfl })
   ·intro L s w2 h hk hd hn
    have s9 := h.e4 hd.1
    have kb := ((h.mu.same _ ((Array.getElem?_eq_some_iff.1 HA.out).1) (notin2 (by have := HLT.out; have := lt_of_block HE.out; omega) (by have := HLT.out; have := lt_of_block HE.out; omega))).trans HA.out)
    refine sP fun K hK => ?_
    exact rs_load rfl s9 (sp_load (p := 21) kb (by have := (HL.out : a.length = 22); omega)) (hK _ _ { h with e5 := fun _ => rfl })
   ·intro L s w2 h hk hd hn
    have s5 := h.e0 hd.1
    have s8 := h.e3 hd.2.1
    have s10 := h.e5 hd.2.2.1
    have kb := h.kg_c_1 hd.2.1 hn
    refine sP fun K hK => ?_
    go_simp
    refine (rf_add _ ((gt e (tSweep a)).2) ((gt e (tSweep a)).1) (tAt a 21) _ kb).mono ?_
    rintro e w3 ⟨rfl, hkr, hb⟩
    exact .inl ⟨_, rfl, hK _ _ { h with mu := h.mu.stepM hb (by intro x hx; rw [List.mem_singleton.1 hx]; exact .inl (List.Mem.tail _ (List.Mem.head _))), kt_r := fun a => (hb.same _ (lt_of_block (h.kt_r a)) (notin1 (by have := HLT.out; have := lt_of_block HE.out; omega))).trans (h.kt_r a), kr_r := fun a => (hb.same _ (lt_of_block (h.kr_r a)) (notin1 (by have := HLT.out; have := lt_of_block HE.out; omega))).trans (h.kr_r a), kg_c_0 := fun a => absurd (a.symm.trans hd.2.1) bft, kg_c_1 := fun a c => absurd c.symm bft, kg_c_2 := fun _ => hkr, e6 := fun _ => rfl, b6_3 := fun _ => hd.2.1 }⟩
   ·intro L s w2 h hk hd hn
    have s4 : s 4 = _ := hk 4 (by kernel_rfl)
    have s11 := h.e6 hd.1
    have kb := h.kt_r hn
    refine sP fun K hK => ?_
    exact rs_store rfl s4 s11 (sp_store (p := 0) kb (by simp) ((gt ((gt e (tSweep a)).2) (sAdd ((gt e (tSweep a)).1) (tAt a 21))).1)) (hK _ _ { h with mu := h.mu.put (List.Mem.head _) _, kg_c_0 := fun a => (World.putObj_heap_other (by have := HLT.out; have := lt_of_block HE.out; omega)).trans (h.kg_c_0 a), kg_c_1 := fun a c => (World.putObj_heap_other (by have := HLT.out; have := lt_of_block HE.out; omega)).trans (h.kg_c_1 a c), kg_c_2 := fun a => (World.putObj_heap_other (by have := HLT.out; have := lt_of_block HE.out; omega)).trans (h.kg_c_2 a), kt_r := nF, kr_r := fun _ => pH kb })
  ·intro L s w2 h hk hl
   refine cA ?_ (hQ2 s w2 (⟨h.mu, h.kr_r (hl 7 (by decide)), h.kg_c_2 (hl 6 (by decide))⟩))
   exact frame_eq hk (by kernel_rfl) (by kernel_rfl)
  ·intro c s w2 hc
   exact hc.elim
 rotate_left
 ·rintro _ _ _ h
  exact h.elim
 rintro s1 V ⟨h1, c_r, c_c⟩
 simp only [mergeL]
 replace HE := lh c_c
 replace HA := lh ((h1.same _ (lt_of_block HA.out) (notin2 (by have := HLT.out; omega) (by have := HLT.out; omega))).trans HA.out)
 replace HR := lh c_r
 replace HM := lh (HM.out.stepM h1 (by have := HBW.out; have := HLT.out; intro x hx; simp only [List.mem_cons, List.not_mem_nil, or_false] at hx; rcases hx with rfl | rfl <;> first | exact .inl (List.mem_singleton.2 rfl) | (right; omega)))
 clear h1 c_r c_c
 refine HK1.out _ _ ?_
 refine wp_ret ?_
 exact bodyPost_ret (v := sval (gt (gt e (tSweep a)).2 (sAdd (gt e (tSweep a)).1 (tAt a 21))).1) (res_span Tryz.results36 rfl (sp_loadVar HR.out)) rfl ⟨rfl, HE.out, HM.out⟩
structure Zta1 (V : World) (A : Nat) (L : Nat → Bool) (s : Nat → Value) (w : World) : Prop where
 mu : Mut [] V w
 e0 : L 0 = true → s 6 = .pointer (some ⟨A, 0, none⟩)
 e1 : L 1 = true → s 7 = .pointer (some ⟨A, 0, none⟩)
 e2 : L 2 = true → s 8 = .pointer (some ⟨A, 0, none⟩)
 e3 : L 3 = true → s 9 = .int .i64 0
 e4 : L 4 = true → s 10 = .bool false
structure Zta3 (V : World) (a : List (Int × Int)) (b : Nat) (L : Nat → Bool) (s : Nat → Value) (w : World) : Prop where
 mu : Mut [b + 1] V w
 kt_r : L 1 = false → w.heap[b + 1]? = some (cobj 34 zeroM)
 kr_r : L 1 = true → w.heap[b + 1]? = some (cobj 34 a)
 e0 : L 0 = true → s 16 = mval a
 e2 : L 2 = true → s 5 = .int .i64 ((0 : Nat) : Int)
set_option maxRecDepth 100000 in
set_option maxHeartbeats 4000000 in
theorem rf_told_a (A : Nat) (a : List (Int × Int)) (ha : a.length = 22) (w : World) (h : w.heap[A]? = some (iobj 62 0)) :
  Calls Tryz.prog 30 #[.pointer (some ⟨A, 0, none⟩), mval a] w fun r w' => r = .returned (.tuple #[mval a, .int .i64 0]) ∧ w'.heap[A]? = some (iobj 62 (0)) ∧ Mut [A] w w' := by
 have HE0 := lh h
 clear h
 have HL := lh ha
 clear ha
 go_enter Tryz.func30, Tryz.ntmps30
 refine wsk fun K0 HK0 => ?_
 go_wp2_with fail
 rename_i x1 cs1 hc1
 obtain rfl : (mc a).toArray = cs1 := Value.agg.inj hc1
 clear hc1
 obtain ⟨b, hb⟩ : ∃ b, w.heap.size = b := ⟨_, rfl⟩
 have HLT := lh (show A < b from hb ▸ lt_of_block HE0.out)
 refine HK0.out _ _ ?_
 refine wp_world (fun V => Mut [A] w V ∧ V.heap[A]? = some (iobj 62 0) ∧ V.heap[b]? = some (cobj 34 a) ∧ V.heap[b + 1]? = some (cobj 34 zeroM)) ?_
  (by
   rw [← hb]
   exact ⟨(((Mut.refl _ _).alloc _).alloc _), heap_up _ (heap_up _ (HE0.out)), heap_up _ (heap_at (cobj 34 a) (by simp)), heap_at (cobj 34 zeroM) (by simp)⟩)
 rintro V ⟨hm, hHE, hHA, hHR⟩
 rw [hb]
 have HM := lh hm
 have HBW := lh hb
 have HE := lh hHE
 have HA := lh hHA
 have HR := lh hHR
 clear hm hHE hHA hHR hb HK0 HE0
 refine wsk fun KB HKB => ?_
 refine wsk fun K1 HK1 => ?_
 refine wp_cut_mergeP (nn :: nn :: nn :: nn :: nn :: nn :: some 6 :: some 7 :: some 8 :: some 9 :: some 10 :: nn :: nn :: nn :: nn :: nn :: nn :: []) (fun s w' => Mut [] V w' ∧ s 10 = .bool false) (fun _ _ => False) ?_ ?_ ?_
 ·intro Q2 hQ2 hP2
  refine wpG ?_
  refine wp_region_G (b := false) (Pn := (fun _ _ => False)) (Zta1 V A) (by kernel_rfl) (by kernel_rfl) ?_ ?_ ?_ ?_
  ·exact ⟨Mut.start _ false _, nB, nB, nB, nB, nB⟩
  ·refine AllSP.cons ?_ (AllSP.cons ?_ (AllSP.cons ?_ (AllSP.cons ?_ (AllSP.cons ?_ AllSP.nil))))
   ·intro L s w2 h hk hd hn
    have s0 : s 0 = _ := hk 0 (by kernel_rfl)
    refine sP fun K hK => ?_
    exact rs_move rfl s0 (hK _ _ { h with e0 := fun _ => rfl })
   ·intro L s w2 h hk hd hn
    have s6 := h.e0 hd.1
    refine sP fun K hK => ?_
    go_simp
    exact hK _ _ { h with e1 := fun _ => rfl }
   ·intro L s w2 h hk hd hn
    have s7 := h.e1 hd.1
    refine sP fun K hK => ?_
    exact rs_field rfl s7 (fl_sums _ _) (hK _ _ { h with e2 := fun _ => rfl })
   ·intro L s w2 h hk hd hn
    have s8 := h.e2 hd.1
    have kb := ((h.mu.same _ ((Array.getElem?_eq_some_iff.1 HE.out).1) (by simp)).trans HE.out)
    refine sP fun K hK => ?_
    exact rs_load rfl s8 (e_load kb) (hK _ _ { h with e3 := fun _ => rfl })
   ·intro L s w2 h hk hd hn
    have s9 := h.e3 hd.1
    refine sP fun K hK => ?_
    go_simp
    exact hK _ _ { h with e4 := fun _ => rfl }
  ·intro L s w2 h hk hl
   refine cA ?_ (hQ2 s w2 (⟨h.mu, h.e4 (hl 4 (by decide))⟩))
   exact frame_eq hk (by kernel_rfl) (by kernel_rfl)
  ·intro c s w2 hc
   exact hc.elim
 rotate_left
 ·rintro _ _ _ h
  exact h.elim
 rintro s1 V ⟨h1, k10⟩
 simp only [mergeL]
 rw [k10]
 replace HE := sm h1 HE
 replace HA := sm h1 HA
 replace HR := sm h1 HR
 replace HM := lh (HM.out.stepM h1 (by simp))
 clear h1 k10
 refine HK1.out _ _ ?_
 refine wp_cond_false (by rfl) ?_
 go_wp2_with fail
 refine HKB.out _ _ ?_
 refine wsk fun K3 HK3 => ?_
 refine wp_cut_mergeP (nn :: nn :: nn :: nn :: nn :: some 5 :: n8 (nn :: nn :: some 16 :: [])) (fun s w' => Mut [b + 1] V w' ∧ w'.heap[b + 1]? = some (cobj 34 a) ∧ s 5 = .int .i64 ((0 : Nat) : Int)) (fun _ _ => False) ?_ ?_ ?_
 ·intro Q2 hQ2 hP2
  refine wpG ?_
  refine wp_region_G (b := false) (Pn := (fun _ _ => False)) (Zta3 V a b) (by kernel_rfl) (by kernel_rfl) ?_ ?_ ?_ ?_
  ·exact ⟨Mut.start _ false _, fun _ => HR.out, nB, nB, nB⟩
  ·refine AllSP.cons ?_ (AllSP.cons ?_ (AllSP.cons ?_ AllSP.nil))
   ·intro L s w2 h hk hd hn
    have s3 : s 3 = _ := hk 3 (by kernel_rfl)
    have kb := ((h.mu.same _ ((Array.getElem?_eq_some_iff.1 HA.out).1) (notin1 (by have := HLT.out; have := lt_of_block HE.out; omega))).trans HA.out)
    refine sP fun K hK => ?_
    exact rs_load rfl s3 (md_load kb HL.out) (hK _ _ { h with e0 := fun _ => rfl })
   ·intro L s w2 h hk hd hn
    have s4 : s 4 = _ := hk 4 (by kernel_rfl)
    have s16 := h.e0 hd.1
    have kb := h.kt_r hn
    refine sP fun K hK => ?_
    exact rs_store rfl s4 s16 (md_store kb rfl _ HL.out) (hK _ _ { h with mu := h.mu.put (List.Mem.head _) _, kt_r := nF, kr_r := fun _ => pH kb })
   ·intro L s w2 h hk hd hn
    refine sP fun K hK => ?_
    exact rs_assign rfl rfl (hK _ _ { h with e2 := fun _ => rfl })
  ·intro L s w2 h hk hl
   refine cA ?_ (hQ2 s w2 (⟨h.mu, h.kr_r (hl 1 (by decide)), h.e2 (hl 2 (by decide))⟩))
   exact frame_eq hk (by kernel_rfl) (by kernel_rfl)
  ·intro c s w2 hc
   exact hc.elim
 rotate_left
 ·rintro _ _ _ h
  exact h.elim
 rintro s3 V ⟨h1, c_r, k5⟩
 simp only [mergeL]
 rw [k5]
 replace HE := lh ((h1.same _ (lt_of_block HE.out) (notin1 (by have := HLT.out; omega))).trans HE.out)
 replace HA := lh ((h1.same _ (lt_of_block HA.out) (notin1 (by have := HLT.out; omega))).trans HA.out)
 replace HR := lh c_r
 replace HM := lh (HM.out.stepM h1 (by have := HBW.out; have := HLT.out; intro x hx; rw [List.mem_singleton.1 hx]; first | exact .inl (List.mem_singleton.2 rfl) | (right; omega)))
 clear h1 c_r k5
 refine HK3.out _ _ ?_
 refine wp_ret ?_
 exact bodyPost_ret (v := .tuple #[mval a, .int .i64 0]) (res_slot Tryz.results30 rfl rfl (md_loadVar HR.out HL.out)) rfl ⟨rfl, HE.out, HM.out⟩
structure Ztb1 (V : World) (A : Nat) (e : Int) (L : Nat → Bool) (s : Nat → Value) (w : World) : Prop where
 mu : Mut [] V w
 e0 : L 0 = true → s 6 = .pointer (some ⟨A, 0, none⟩)
 e1 : L 1 = true → s 7 = .pointer (some ⟨A, 0, none⟩)
 e2 : L 2 = true → s 8 = .pointer (some ⟨A, 0, none⟩)
 e3 : L 3 = true → s 9 = .int .i64 e
 e4 : L 4 = true → s 10 = .bool true
structure Ztb2 (V : World) (A : Nat) (e : Int) (b : Nat) (L : Nat → Bool) (s : Nat → Value) (w : World) : Prop where
 mu : Mut [b + 1] V w
 kt_r : L 5 = false → w.heap[b + 1]? = some (cobj 34 zeroM)
 kr_r : L 5 = true → w.heap[b + 1]? = some (cobj 34 zeroM)
 e0 : L 0 = true → s 11 = mval zeroM
 e1 : L 1 = true → s 12 = .pointer (some ⟨A, 0, none⟩)
 e2 : L 2 = true → s 13 = .pointer (some ⟨A, 0, none⟩)
 e3 : L 3 = true → s 14 = .pointer (some ⟨A, 0, none⟩)
 e4 : L 4 = true → s 15 = .int .i64 e
 e6 : L 6 = true → s 5 = .int .i64 e
set_option maxRecDepth 100000 in
set_option maxHeartbeats 4000000 in
theorem rf_told_b (A : Nat) (e : Int) (a : List (Int × Int)) (ha : a.length = 22) (he : ¬ e = 0) (w : World) (h : w.heap[A]? = some (iobj 62 e)) :
  Calls Tryz.prog 30 #[.pointer (some ⟨A, 0, none⟩), mval a] w fun r w' => r = .returned (.tuple #[mval zeroM, .int .i64 e]) ∧ w'.heap[A]? = some (iobj 62 (e)) ∧ Mut [A] w w' := by
 have HE0 := lh h
 clear h
 have HL := lh ha
 clear ha
 have HNE := lh he
 clear he
 go_enter Tryz.func30, Tryz.ntmps30
 refine wsk fun K0 HK0 => ?_
 go_wp2_with fail
 rename_i x1 cs1 hc1
 obtain rfl : (mc a).toArray = cs1 := Value.agg.inj hc1
 clear hc1
 obtain ⟨b, hb⟩ : ∃ b, w.heap.size = b := ⟨_, rfl⟩
 have HLT := lh (show A < b from hb ▸ lt_of_block HE0.out)
 refine HK0.out _ _ ?_
 refine wp_world (fun V => Mut [A] w V ∧ V.heap[A]? = some (iobj 62 e) ∧ V.heap[b]? = some (cobj 34 a) ∧ V.heap[b + 1]? = some (cobj 34 zeroM)) ?_
  (by
   rw [← hb]
   exact ⟨(((Mut.refl _ _).alloc _).alloc _), heap_up _ (heap_up _ (HE0.out)), heap_up _ (heap_at (cobj 34 a) (by simp)), heap_at (cobj 34 zeroM) (by simp)⟩)
 rintro V ⟨hm, hHE, hHA, hHR⟩
 rw [hb]
 have HM := lh hm
 have HBW := lh hb
 have HE := lh hHE
 have HA := lh hHA
 have HR := lh hHR
 clear hm hHE hHA hHR hb HK0 HE0
 refine wsk fun KB HKB => ?_
 refine wsk fun K1 HK1 => ?_
 refine wp_cut_mergeP (nn :: nn :: nn :: nn :: nn :: nn :: some 6 :: some 7 :: some 8 :: some 9 :: some 10 :: nn :: nn :: nn :: nn :: nn :: nn :: []) (fun s w' => Mut [] V w' ∧ s 10 = .bool true) (fun _ _ => False) ?_ ?_ ?_
 ·intro Q2 hQ2 hP2
  refine wpG ?_
  refine wp_region_G (b := false) (Pn := (fun _ _ => False)) (Ztb1 V A e) (by kernel_rfl) (by kernel_rfl) ?_ ?_ ?_ ?_
  ·exact ⟨Mut.start _ false _, nB, nB, nB, nB, nB⟩
  ·refine AllSP.cons ?_ (AllSP.cons ?_ (AllSP.cons ?_ (AllSP.cons ?_ (AllSP.cons ?_ AllSP.nil))))
   ·intro L s w2 h hk hd hn
    have s0 : s 0 = _ := hk 0 (by kernel_rfl)
    refine sP fun K hK => ?_
    exact rs_move rfl s0 (hK _ _ { h with e0 := fun _ => rfl })
   ·intro L s w2 h hk hd hn
    have s6 := h.e0 hd.1
    refine sP fun K hK => ?_
    go_simp
    exact hK _ _ { h with e1 := fun _ => rfl }
   ·intro L s w2 h hk hd hn
    have s7 := h.e1 hd.1
    refine sP fun K hK => ?_
    exact rs_field rfl s7 (fl_sums _ _) (hK _ _ { h with e2 := fun _ => rfl })
   ·intro L s w2 h hk hd hn
    have s8 := h.e2 hd.1
    have kb := ((h.mu.same _ ((Array.getElem?_eq_some_iff.1 HE.out).1) (by simp)).trans HE.out)
    refine sP fun K hK => ?_
    exact rs_load rfl s8 (e_load kb) (hK _ _ { h with e3 := fun _ => rfl })
   ·intro L s w2 h hk hd hn
    have s9 := h.e3 hd.1
    refine sP fun K hK => ?_
    go_simp
    exact hK _ _ { h with e4 := fun _ => congrArg Value.bool (by simp; exact HNE.out) }
  ·intro L s w2 h hk hl
   refine cA ?_ (hQ2 s w2 (⟨h.mu, h.e4 (hl 4 (by decide))⟩))
   exact frame_eq hk (by kernel_rfl) (by kernel_rfl)
  ·intro c s w2 hc
   exact hc.elim
 rotate_left
 ·rintro _ _ _ h
  exact h.elim
 rintro s1 V ⟨h1, k10⟩
 simp only [mergeL]
 rw [k10]
 replace HE := sm h1 HE
 replace HA := sm h1 HA
 replace HR := sm h1 HR
 replace HM := lh (HM.out.stepM h1 (by simp))
 clear h1 k10
 refine HK1.out _ _ ?_
 refine wp_cond_true (by rfl) ?_
 refine wsk fun K2 HK2 => ?_
 refine wp_cut_mergeP (nn :: nn :: nn :: nn :: nn :: some 5 :: nn :: nn :: nn :: nn :: nn :: some 11 :: some 12 :: some 13 :: some 14 :: some 15 :: nn :: []) (fun s w' => Mut [b + 1] V w' ∧ w'.heap[b + 1]? = some (cobj 34 zeroM) ∧ s 5 = .int .i64 e) (fun _ _ => False) ?_ ?_ ?_
 ·intro Q2 hQ2 hP2
  refine wpG ?_
  refine wp_region_G (b := true) (Pn := (fun _ _ => False)) (Ztb2 V A e b) (by kernel_rfl) (by kernel_rfl) ?_ ?_ ?_ ?_
  ·exact ⟨Mut.start _ true _, fun _ => HR.out, nB, nB, nB, nB, nB, nB, nB⟩
  ·refine AllSP.cons ?_ (AllSP.cons ?_ (AllSP.cons ?_ (AllSP.cons ?_ (AllSP.cons ?_ (AllSP.cons ?_ (AllSP.cons ?_ AllSP.nil))))))
   ·intro L s w2 h hk hd hn
    refine sP fun K hK => ?_
    exact rs_bld (vs := #[]) rfl (by simp) (by kernel_rfl) (hK _ _ { h with e0 := fun _ => rfl })
   ·intro L s w2 h hk hd hn
    have s0 : s 0 = _ := hk 0 (by kernel_rfl)
    refine sP fun K hK => ?_
    exact rs_move rfl s0 (hK _ _ { h with e1 := fun _ => rfl })
   ·intro L s w2 h hk hd hn
    have s12 := h.e1 hd.1
    refine sP fun K hK => ?_
    go_simp
    exact hK _ _ { h with e2 := fun _ => rfl }
   ·intro L s w2 h hk hd hn
    have s13 := h.e2 hd.1
    refine sP fun K hK => ?_
    exact rs_field rfl s13 (fl_sums _ _) (hK _ _ { h with e3 := fun _ => rfl })
   ·intro L s w2 h hk hd hn
    have s14 := h.e3 hd.1
    have kb := ((h.mu.same _ ((Array.getElem?_eq_some_iff.1 HE.out).1) (notin1 (by have := HLT.out; have := lt_of_block HE.out; omega))).trans HE.out)
    refine sP fun K hK => ?_
    exact rs_load rfl s14 (e_load kb) (hK _ _ { h with e4 := fun _ => rfl })
   ·intro L s w2 h hk hd hn
    have s4 : s 4 = _ := hk 4 (by kernel_rfl)
    have s11 := h.e0 hd.1
    have kb := h.kt_r hn
    refine sP fun K hK => ?_
    exact rs_store rfl s4 s11 (md_store kb rfl _ rfl) (hK _ _ { h with mu := h.mu.put (List.Mem.head _) _, kt_r := nF, kr_r := fun _ => pH kb })
   ·intro L s w2 h hk hd hn
    have s15 := h.e4 hd.1
    refine sP fun K hK => ?_
    exact rs_assign rfl s15 (hK _ _ { h with e6 := fun _ => rfl })
  ·intro L s w2 h hk hl
   refine cA ?_ (hQ2 s w2 (⟨h.mu, h.kr_r (hl 5 (by decide)), h.e6 (hl 6 (by decide))⟩))
   exact frame_eq hk (by kernel_rfl) (by kernel_rfl)
  ·intro c s w2 hc
   exact hc.elim
 rotate_left
 ·rintro _ _ _ h
  exact h.elim
 rintro s2 V ⟨h1, c_r, k5⟩
 simp only [mergeL]
 rw [k5]
 replace HE := lh ((h1.same _ (lt_of_block HE.out) (notin1 (by have := HLT.out; omega))).trans HE.out)
 replace HA := lh ((h1.same _ (lt_of_block HA.out) (notin1 (by have := HLT.out; omega))).trans HA.out)
 replace HR := lh c_r
 replace HM := lh (HM.out.stepM h1 (by have := HBW.out; have := HLT.out; intro x hx; rw [List.mem_singleton.1 hx]; first | exact .inl (List.mem_singleton.2 rfl) | (right; omega)))
 clear h1 c_r k5
 refine HK2.out _ _ ?_
 go_wp2_with fail
 exact bodyPost_ret (v := .tuple #[mval zeroM, .int .i64 e]) (res_slot Tryz.results30 rfl rfl (md_loadVar HR.out rfl)) rfl ⟨rfl, HE.out, HM.out⟩
theorem rf_told (A : Nat) (e : Int) (a : List (Int × Int)) (ha : a.length = 22) (w : World) (h : w.heap[A]? = some (iobj 62 e)) :
  Calls Tryz.prog 30 #[.pointer (some ⟨A, 0, none⟩), mval a] w fun r w' => r = .returned (.tuple #[mval (rTold (a, e)).1, .int .i64 (rTold (a, e)).2]) ∧ w'.heap[A]? = some (iobj 62 e) ∧ Mut [A] w w' := by
 unfold rTold
 by_cases he : e = 0
 ·subst he
  exact rf_told_a A a ha w h
 ·simp only [if_neg he]
  exact rf_told_b A e a ha he w h
structure Zook1 (V : World) (a : List (Int × Int)) (d : List (Int × Int)) (L : Nat → Bool) (s : Nat → Value) (w : World) : Prop where
 mu : Mut [] V w
 e0 : L 0 = true → s 5 = mval a
 e1 : L 1 = true → s 6 = .bool true
 e2 : L 2 = true → s 7 = .bool false
 e3 : L 3 = true → s 8 = .bool false
 e4 : L 4 = true → s 9 = mval d
 e5 : L 5 = true → s 10 = .bool true
 e6 : L 6 = true → s 11 = .bool false
 e7 : L 7 = true → s 12 = .bool false
set_option maxRecDepth 100000 in
set_option maxHeartbeats 4000000 in
theorem rf_both_ok (a d : List (Int × Int)) (ha : a.length = 22) (hd : d.length = 22) (oa : ∀ s ∈ a, okS s) (od : ∀ s ∈ d, okS s) (w : World) : Calls Tryz.prog 29 #[mval a, mval d] w fun e w' => e = .returned (.int .i64 0) ∧ Below w.heap.size w w' := by
 have HL := lh ha
 have HLD := lh hd
 have HOA := lh oa
 have HOD := lh od
 clear ha hd oa od
 go_enter Tryz.func29, Tryz.ntmps29
 refine wsk fun K0 HK0 => ?_
 go_wp2_with fail
 rename_i x1 cs1 hc1 x2 cs2 hc2
 obtain rfl : (mc a).toArray = cs1 := Value.agg.inj hc1
 obtain rfl : (mc d).toArray = cs2 := Value.agg.inj hc2
 clear hc1 hc2
 obtain ⟨b, hb⟩ : ∃ b, w.heap.size = b := ⟨_, rfl⟩
 refine HK0.out _ _ ?_
 refine wp_world (fun V => Mut [] w V ∧ V.heap[b]? = some (cobj 34 a) ∧ V.heap[b + 1]? = some (cobj 34 d)) ?_
  (by
   rw [← hb]
   exact ⟨(((Mut.refl _ _).alloc _).alloc _), heap_up _ (heap_at (cobj 34 a) (by simp)), heap_at (cobj 34 d) (by simp)⟩)
 rintro V ⟨hm, hHA, hHD⟩
 rw [hb]
 have HM := lh hm
 have HBW := lh hb
 have HLT := lh trivial
 have HA := lh hHA
 have HD := lh hHD
 clear hm hHA hHD hb HK0
 refine wsk fun KB HKB => ?_
 refine wsk fun K1 HK1 => ?_
 refine wp_cut_mergeP (nn :: nn :: nn :: nn :: nn :: some 5 :: some 6 :: some 7 :: some 8 :: some 9 :: some 10 :: some 11 :: some 12 :: []) (fun s w' => Mut [] V w' ∧ s 12 = .bool false) (fun _ _ => False) ?_ ?_ ?_
 ·intro Q2 hQ2 hP2
  refine wpG ?_
  refine wp_region_G (b := false) (Pn := (fun _ _ => False)) (Zook1 V a d) (by kernel_rfl) (by kernel_rfl) ?_ ?_ ?_ ?_
  ·exact ⟨Mut.start _ false _, nB, nB, nB, nB, nB, nB, nB, nB⟩
  ·refine AllSP.cons ?_ (AllSP.cons ?_ (AllSP.cons ?_ (AllSP.cons ?_ (AllSP.cons ?_ (AllSP.cons ?_ (AllSP.cons ?_ (AllSP.cons ?_ AllSP.nil)))))))
   ·intro L s w2 h hk hd hn
    have s2 : s 2 = _ := hk 2 (by kernel_rfl)
    have kb := ((h.mu.same _ ((Array.getElem?_eq_some_iff.1 HA.out).1) (by simp)).trans HA.out)
    refine sP fun K hK => ?_
    exact rs_load rfl s2 (md_load kb HL.out) (hK _ _ { h with e0 := fun _ => rfl })
   ·intro L s w2 h hk hd hn
    have s5 := h.e0 hd.1
    refine sP fun K hK => ?_
    go_simp
    refine (rf_Right_ok HL.out HOA.out _).mono ?_
    rintro e w3 ⟨rfl, hb⟩
    exact .inl ⟨_, rfl, hK _ _ { h with mu := h.mu.step hb, e1 := fun _ => rfl }⟩
   ·intro L s w2 h hk hd hn
    have s6 := h.e1 hd.1
    refine sP fun K hK => ?_
    go_simp
    exact hK _ _ { h with e2 := fun _ => rfl }
   ·intro L s w2 h hk hd hn
    have s7 := h.e2 hd.1
    refine sP fun K hK => ?_
    exact rs_move rfl s7 (hK _ _ { h with e3 := fun _ => rfl })
   ·intro L s w2 h hk hd hn
    have gq := h.e3 hd.1
    have s3 : s 3 = _ := hk 3 (by kernel_rfl)
    have kb := ((h.mu.same _ ((Array.getElem?_eq_some_iff.1 HD.out).1) (by simp)).trans HD.out)
    refine stepSP (by simp [Region.wanted, yieldS, gq]) fun K hK => ?_
    exact rs_load rfl s3 (md_load kb HLD.out) (hK _ _ { h with e4 := fun _ => rfl })
   ·intro L s w2 h hk hd hn
    have gq := h.e3 hd.2.1
    have s9 := h.e4 hd.1
    refine stepSP (by simp [Region.wanted, yieldS, gq]) fun K hK => ?_
    go_simp
    refine (rf_Right_ok HLD.out HOD.out _).mono ?_
    rintro e w3 ⟨rfl, hb⟩
    exact .inl ⟨_, rfl, hK _ _ { h with mu := h.mu.step hb, e5 := fun _ => rfl }⟩
   ·intro L s w2 h hk hd hn
    have gq := h.e3 hd.2.1
    have s10 := h.e5 hd.1
    refine stepSP (by simp [Region.wanted, yieldS, gq]) fun K hK => ?_
    go_simp
    exact hK _ _ { h with e6 := fun _ => rfl }
   ·intro L s w2 h hk hd hn
    have s8 := h.e3 hd.1
    have s11 := h.e6 hd.2.1
    refine sP fun K hK => ?_
    go_simp
    exact hK _ _ { h with e7 := fun _ => rfl }
  ·intro L s w2 h hk hl
   refine cA ?_ (hQ2 s w2 (⟨h.mu, h.e7 (hl 7 (by decide))⟩))
   exact frame_eq hk (by kernel_rfl) (by kernel_rfl)
  ·intro c s w2 hc
   exact hc.elim
 rotate_left
 ·rintro _ _ _ h
  exact h.elim
 rintro s1 V ⟨h1, k12⟩
 simp only [mergeL]
 rw [k12]
 replace HA := sm h1 HA
 replace HD := sm h1 HD
 replace HM := lh (HM.out.stepM h1 (by simp))
 clear h1 k12
 refine HK1.out _ _ ?_
 refine wp_cond_false (by rfl) ?_
 go_wp2_with fail
 refine HKB.out _ _ ?_
 go_wp2_with fail
 exact bodyPost_ret (v := .int .i64 0) (by simp [results, Tryz.results29, go_sem]) rfl ⟨rfl, by rw [← HBW.out]; exact HM.out.to0⟩
structure Zoba1 (V : World) (a : List (Int × Int)) (L : Nat → Bool) (s : Nat → Value) (w : World) : Prop where
 mu : Mut [] V w
 e0 : L 0 = true → s 5 = mval a
 e1 : L 1 = true → s 6 = .bool false
 e2 : L 2 = true → s 7 = .bool true
 e3 : L 3 = true → s 8 = .bool true
 u4 : True
 u5 : True
 u6 : True
 e7 : L 7 = true → s 12 = .bool true
set_option maxRecDepth 100000 in
set_option maxHeartbeats 4000000 in
theorem rf_both_ba (a d : List (Int × Int)) (ha : a.length = 22) (hd : d.length = 22) (oa : ¬ ∀ s ∈ a, okS s) (w : World) : Calls Tryz.prog 29 #[mval a, mval d] w fun e w' => e = .returned (.int .i64 210) ∧ Below w.heap.size w w' := by
 have HL := lh ha
 have HLD := lh hd
 have HOA := lh oa
 clear ha hd oa
 go_enter Tryz.func29, Tryz.ntmps29
 refine wsk fun K0 HK0 => ?_
 go_wp2_with fail
 rename_i x1 cs1 hc1 x2 cs2 hc2
 obtain rfl : (mc a).toArray = cs1 := Value.agg.inj hc1
 obtain rfl : (mc d).toArray = cs2 := Value.agg.inj hc2
 clear hc1 hc2
 obtain ⟨b, hb⟩ : ∃ b, w.heap.size = b := ⟨_, rfl⟩
 refine HK0.out _ _ ?_
 refine wp_world (fun V => Mut [] w V ∧ V.heap[b]? = some (cobj 34 a) ∧ V.heap[b + 1]? = some (cobj 34 d)) ?_
  (by
   rw [← hb]
   exact ⟨(((Mut.refl _ _).alloc _).alloc _), heap_up _ (heap_at (cobj 34 a) (by simp)), heap_at (cobj 34 d) (by simp)⟩)
 rintro V ⟨hm, hHA, hHD⟩
 rw [hb]
 have HM := lh hm
 have HBW := lh hb
 have HLT := lh trivial
 have HA := lh hHA
 have HD := lh hHD
 clear hm hHA hHD hb HK0
 refine wsk fun KB HKB => ?_
 refine wsk fun K1 HK1 => ?_
 refine wp_cut_mergeP (nn :: nn :: nn :: nn :: nn :: some 5 :: some 6 :: some 7 :: some 8 :: some 9 :: some 10 :: some 11 :: some 12 :: []) (fun s w' => Mut [] V w' ∧ s 12 = .bool true) (fun _ _ => False) ?_ ?_ ?_
 ·intro Q2 hQ2 hP2
  refine wpG ?_
  refine wp_region_G (b := false) (Pn := (fun _ _ => False)) (Zoba1 V a) (by kernel_rfl) (by kernel_rfl) ?_ ?_ ?_ ?_
  ·exact ⟨Mut.start _ false _, nB, nB, nB, nB, trivial, trivial, trivial, nB⟩
  ·refine AllSP.cons ?_ (AllSP.cons ?_ (AllSP.cons ?_ (AllSP.cons ?_ (AllSP.cons ?_ (AllSP.cons ?_ (AllSP.cons ?_ (AllSP.cons ?_ AllSP.nil)))))))
   ·intro L s w2 h hk hd hn
    have s2 : s 2 = _ := hk 2 (by kernel_rfl)
    have kb := ((h.mu.same _ ((Array.getElem?_eq_some_iff.1 HA.out).1) (by simp)).trans HA.out)
    refine sP fun K hK => ?_
    exact rs_load rfl s2 (md_load kb HL.out) (hK _ _ { h with e0 := fun _ => rfl })
   ·intro L s w2 h hk hd hn
    have s5 := h.e0 hd.1
    refine sP fun K hK => ?_
    go_simp
    refine (rf_Right_bad HL.out HOA.out _).mono ?_
    rintro e w3 ⟨rfl, hb⟩
    exact .inl ⟨_, rfl, hK _ _ { h with mu := h.mu.step hb, e1 := fun _ => rfl }⟩
   ·intro L s w2 h hk hd hn
    have s6 := h.e1 hd.1
    refine sP fun K hK => ?_
    go_simp
    exact hK _ _ { h with e2 := fun _ => rfl }
   ·intro L s w2 h hk hd hn
    have s7 := h.e2 hd.1
    refine sP fun K hK => ?_
    exact rs_move rfl s7 (hK _ _ { h with e3 := fun _ => rfl })
   ·intro L s w2 h hk hd hn
    have gq := h.e3 hd.1
    exact stepSP_not (by simp [Region.wanted, yieldS, gq]) { h with u4 := trivial }
   ·intro L s w2 h hk hd hn
    have gq := h.e3 hd.2.1
    exact stepSP_not (by simp [Region.wanted, yieldS, gq]) { h with u5 := trivial }
   ·intro L s w2 h hk hd hn
    have gq := h.e3 hd.2.1
    exact stepSP_not (by simp [Region.wanted, yieldS, gq]) { h with u6 := trivial }
   ·intro L s w2 h hk hd hn
    have s8 := h.e3 hd.1
    refine sP fun K hK => ?_
    go_simp
    exact hK _ _ { h with e7 := fun _ => rfl }
  ·intro L s w2 h hk hl
   refine cA ?_ (hQ2 s w2 (⟨h.mu, h.e7 (hl 7 (by decide))⟩))
   exact frame_eq hk (by kernel_rfl) (by kernel_rfl)
  ·intro c s w2 hc
   exact hc.elim
 rotate_left
 ·rintro _ _ _ h
  exact h.elim
 rintro s1 V ⟨h1, k12⟩
 simp only [mergeL]
 rw [k12]
 replace HA := sm h1 HA
 replace HD := sm h1 HD
 replace HM := lh (HM.out.stepM h1 (by simp))
 clear h1 k12
 refine HK1.out _ _ ?_
 refine wp_cond_true (by rfl) ?_
 go_wp2_with fail
 exact bodyPost_ret (v := .int .i64 210) (by simp [results, Tryz.results29, go_sem]) rfl ⟨rfl, by rw [← HBW.out]; exact HM.out.to0⟩
structure Zobd1 (V : World) (a : List (Int × Int)) (d : List (Int × Int)) (L : Nat → Bool) (s : Nat → Value) (w : World) : Prop where
 mu : Mut [] V w
 e0 : L 0 = true → s 5 = mval a
 e1 : L 1 = true → s 6 = .bool true
 e2 : L 2 = true → s 7 = .bool false
 e3 : L 3 = true → s 8 = .bool false
 e4 : L 4 = true → s 9 = mval d
 e5 : L 5 = true → s 10 = .bool false
 e6 : L 6 = true → s 11 = .bool true
 e7 : L 7 = true → s 12 = .bool true
set_option maxRecDepth 100000 in
set_option maxHeartbeats 4000000 in
theorem rf_both_bd (a d : List (Int × Int)) (ha : a.length = 22) (hd : d.length = 22) (oa : ∀ s ∈ a, okS s) (od : ¬ ∀ s ∈ d, okS s) (w : World) : Calls Tryz.prog 29 #[mval a, mval d] w fun e w' => e = .returned (.int .i64 210) ∧ Below w.heap.size w w' := by
 have HL := lh ha
 have HLD := lh hd
 have HOA := lh oa
 have HOD := lh od
 clear ha hd oa od
 go_enter Tryz.func29, Tryz.ntmps29
 refine wsk fun K0 HK0 => ?_
 go_wp2_with fail
 rename_i x1 cs1 hc1 x2 cs2 hc2
 obtain rfl : (mc a).toArray = cs1 := Value.agg.inj hc1
 obtain rfl : (mc d).toArray = cs2 := Value.agg.inj hc2
 clear hc1 hc2
 obtain ⟨b, hb⟩ : ∃ b, w.heap.size = b := ⟨_, rfl⟩
 refine HK0.out _ _ ?_
 refine wp_world (fun V => Mut [] w V ∧ V.heap[b]? = some (cobj 34 a) ∧ V.heap[b + 1]? = some (cobj 34 d)) ?_
  (by
   rw [← hb]
   exact ⟨(((Mut.refl _ _).alloc _).alloc _), heap_up _ (heap_at (cobj 34 a) (by simp)), heap_at (cobj 34 d) (by simp)⟩)
 rintro V ⟨hm, hHA, hHD⟩
 rw [hb]
 have HM := lh hm
 have HBW := lh hb
 have HLT := lh trivial
 have HA := lh hHA
 have HD := lh hHD
 clear hm hHA hHD hb HK0
 refine wsk fun KB HKB => ?_
 refine wsk fun K1 HK1 => ?_
 refine wp_cut_mergeP (nn :: nn :: nn :: nn :: nn :: some 5 :: some 6 :: some 7 :: some 8 :: some 9 :: some 10 :: some 11 :: some 12 :: []) (fun s w' => Mut [] V w' ∧ s 12 = .bool true) (fun _ _ => False) ?_ ?_ ?_
 ·intro Q2 hQ2 hP2
  refine wpG ?_
  refine wp_region_G (b := false) (Pn := (fun _ _ => False)) (Zobd1 V a d) (by kernel_rfl) (by kernel_rfl) ?_ ?_ ?_ ?_
  ·exact ⟨Mut.start _ false _, nB, nB, nB, nB, nB, nB, nB, nB⟩
  ·refine AllSP.cons ?_ (AllSP.cons ?_ (AllSP.cons ?_ (AllSP.cons ?_ (AllSP.cons ?_ (AllSP.cons ?_ (AllSP.cons ?_ (AllSP.cons ?_ AllSP.nil)))))))
   ·intro L s w2 h hk hd hn
    have s2 : s 2 = _ := hk 2 (by kernel_rfl)
    have kb := ((h.mu.same _ ((Array.getElem?_eq_some_iff.1 HA.out).1) (by simp)).trans HA.out)
    refine sP fun K hK => ?_
    exact rs_load rfl s2 (md_load kb HL.out) (hK _ _ { h with e0 := fun _ => rfl })
   ·intro L s w2 h hk hd hn
    have s5 := h.e0 hd.1
    refine sP fun K hK => ?_
    go_simp
    refine (rf_Right_ok HL.out HOA.out _).mono ?_
    rintro e w3 ⟨rfl, hb⟩
    exact .inl ⟨_, rfl, hK _ _ { h with mu := h.mu.step hb, e1 := fun _ => rfl }⟩
   ·intro L s w2 h hk hd hn
    have s6 := h.e1 hd.1
    refine sP fun K hK => ?_
    go_simp
    exact hK _ _ { h with e2 := fun _ => rfl }
   ·intro L s w2 h hk hd hn
    have s7 := h.e2 hd.1
    refine sP fun K hK => ?_
    exact rs_move rfl s7 (hK _ _ { h with e3 := fun _ => rfl })
   ·intro L s w2 h hk hd hn
    have gq := h.e3 hd.1
    have s3 : s 3 = _ := hk 3 (by kernel_rfl)
    have kb := ((h.mu.same _ ((Array.getElem?_eq_some_iff.1 HD.out).1) (by simp)).trans HD.out)
    refine stepSP (by simp [Region.wanted, yieldS, gq]) fun K hK => ?_
    exact rs_load rfl s3 (md_load kb HLD.out) (hK _ _ { h with e4 := fun _ => rfl })
   ·intro L s w2 h hk hd hn
    have gq := h.e3 hd.2.1
    have s9 := h.e4 hd.1
    refine stepSP (by simp [Region.wanted, yieldS, gq]) fun K hK => ?_
    go_simp
    refine (rf_Right_bad HLD.out HOD.out _).mono ?_
    rintro e w3 ⟨rfl, hb⟩
    exact .inl ⟨_, rfl, hK _ _ { h with mu := h.mu.step hb, e5 := fun _ => rfl }⟩
   ·intro L s w2 h hk hd hn
    have gq := h.e3 hd.2.1
    have s10 := h.e5 hd.1
    refine stepSP (by simp [Region.wanted, yieldS, gq]) fun K hK => ?_
    go_simp
    exact hK _ _ { h with e6 := fun _ => rfl }
   ·intro L s w2 h hk hd hn
    have s8 := h.e3 hd.1
    have s11 := h.e6 hd.2.1
    refine sP fun K hK => ?_
    go_simp
    exact hK _ _ { h with e7 := fun _ => rfl }
  ·intro L s w2 h hk hl
   refine cA ?_ (hQ2 s w2 (⟨h.mu, h.e7 (hl 7 (by decide))⟩))
   exact frame_eq hk (by kernel_rfl) (by kernel_rfl)
  ·intro c s w2 hc
   exact hc.elim
 rotate_left
 ·rintro _ _ _ h
  exact h.elim
 rintro s1 V ⟨h1, k12⟩
 simp only [mergeL]
 rw [k12]
 replace HA := sm h1 HA
 replace HD := sm h1 HD
 replace HM := lh (HM.out.stepM h1 (by simp))
 clear h1 k12
 refine HK1.out _ _ ?_
 refine wp_cond_true (by rfl) ?_
 go_wp2_with fail
 exact bodyPost_ret (v := .int .i64 210) (by simp [results, Tryz.results29, go_sem]) rfl ⟨rfl, by rw [← HBW.out]; exact HM.out.to0⟩
theorem rf_both (a d : List (Int × Int)) (ha : a.length = 22) (hd : d.length = 22) (w : World) : Calls Tryz.prog 29 #[mval a, mval d] w fun e w' => e = .returned (.int .i64 (tRight (a ++ d)).2) ∧ Below w.heap.size w w' := by
 have e : (tRight (a ++ d)).2 = if ∀ s ∈ a ++ d, okS s then 0 else 210 := rfl
 rw [e]
 by_cases oa : ∀ s ∈ a, okS s
 ·by_cases od : ∀ s ∈ d, okS s
  ·rw [if_pos (fun s hs => (List.mem_append.1 hs).elim (oa s) (od s))]
   exact rf_both_ok a d ha hd oa od w
  ·rw [if_neg (fun h => od fun s hs => h s (List.mem_append.2 (.inr hs)))]
   exact rf_both_bd a d ha hd oa od w
 ·rw [if_neg (fun h => oa fun s hs => h s (List.mem_append.2 (.inl hs)))]
  exact rf_both_ba a d ha hd oa w
end Go.Proofs.YthhkcfpljgdnhaaGreat
