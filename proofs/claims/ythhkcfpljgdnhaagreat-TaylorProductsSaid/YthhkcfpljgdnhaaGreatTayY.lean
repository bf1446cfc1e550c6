/- Package taylor: Check, Const, U, V. Printed by wip/genTY.py. -/
import Derived.Test.YthhkcfpljgdnhaaGreatTayO
namespace Go.Proofs.YthhkcfpljgdnhaaGreat
open Go.RowKit Mnc
attribute [local go_sem] RunSP_value RunSP_skip RunSP_enter evS_tmp evS_const evS_global evS_func
/-- The model of a variable. -/
def xU : List (Int × Int) := zeroM.set 2 (4294967296, 4294967296)
structure VU1 (V : World) (b : Nat) (L : Nat → Bool) (s : Nat → Value) (w : World) : Prop where
 mu : Mut [b] V w
 kt_r : L 4 = false → w.heap[b]? = some (cobj 34 zeroM)
 kr_r : L 4 = true → w.heap[b]? = some (cobj 34 (zeroM.set (tPlace 1 0) (4294967296, 4294967296)))
 e0 : L 0 = true → s 1 = .int .i64 ((tPlace 1 0 : Nat) : Int)
 e1 : L 1 = true → s 2 = sval (4294967296, 4294967296)
 e2 : L 2 = true → s 3 = .pointer (some ⟨b, 0, none⟩)
 e3 : L 3 = true → s 4 = .pointer (some ⟨b, (tPlace 1 0) * 2, none⟩)
structure VU2 (V : World) (b : Nat) (L : Nat → Bool) (s : Nat → Value) (w : World) : Prop where
 mu : Mut [b] V w
 kt_r : L 1 = false → w.heap[b]? = some (cobj 34 (zeroM.set (tPlace 1 0) (4294967296, 4294967296)))
 kr_r : L 1 = true → w.heap[b]? = some (cobj 34 (zeroM.set (tPlace 1 0) (4294967296, 4294967296)))
 e0 : L 0 = true → s 5 = mval (zeroM.set (tPlace 1 0) (4294967296, 4294967296))
 b1_0 : L 1 = true → L 0 = true
set_option maxRecDepth 100000 in
set_option maxHeartbeats 4000000 in
theorem taw_U (w : World) : Calls Tryz.prog 21 #[] w fun e w' => e = .returned (mval xU) ∧ Below w.heap.size w w' := by
 go_enter Tryz.func21, Tryz.ntmps21
 refine wsk fun K0 HK0 => ?_
 go_wp2_with fail
 obtain ⟨b, hb⟩ : ∃ b, w.heap.size = b := ⟨_, rfl⟩
 refine HK0.out _ _ ?_
 refine wp_world (fun V => Mut [] w V ∧ V.heap[b]? = some (cobj 34 zeroM)) ?_
  (by
   rw [← hb]
   exact ⟨((Mut.refl _ _).alloc _), heap_at (cobj 34 zeroM) (by simp)⟩)
 rintro V ⟨hm, hHR⟩
 rw [hb]
 have HM := lh hm
 have HBW := lh hb
 have HLT := lh trivial
 have HR := lh hHR
 clear hm hHR hb HK0
 refine wsk fun K1 HK1 => ?_
 refine wp_cut_mergeP (nn :: some 1 :: some 2 :: some 3 :: some 4 :: nn :: []) (fun _ w' => Mut [b] V w' ∧ w'.heap[b]? = some (cobj 34 (zeroM.set (tPlace 1 0) (4294967296, 4294967296)))) (fun _ _ => False) ?_ ?_ ?_
 ·intro Q2 hQ2 hP2
  refine wpG ?_
  refine wp_region_G (b := false) (Pn := (fun _ _ => False)) (VU1 V b) (by kernel_rfl) (by kernel_rfl) ?_ ?_ ?_ ?_
  ·exact ⟨Mut.start _ false _, fun _ => HR.out, nB, nB, nB, nB, nB⟩
  ·refine AllSP.cons ?_ (AllSP.cons ?_ (AllSP.cons ?_ (AllSP.cons ?_ (AllSP.cons ?_ AllSP.nil))))
   ·intro L s w2 h hk hd hn
    refine sP fun K hK => ?_
    go_simp
    refine (tay_place 1 0 (by omega) _).mono ?_
    rintro e w3 ⟨rfl, hb⟩
    exact .inl ⟨_, rfl, hK _ _ { h with mu := h.mu.step hb, kt_r := fun a => bk hb (h.kt_r a), kr_r := fun a => bk hb (h.kr_r a), e0 := fun _ => rfl }⟩
   ·intro L s w2 h hk hd hn
    refine sP fun K hK => ?_
    go_simp
    refine (tm_point 4294967296 _).mono ?_
    rintro e w3 ⟨rfl, hb⟩
    exact .inl ⟨_, rfl, hK _ _ { h with mu := h.mu.step hb, kt_r := fun a => bk hb (h.kt_r a), kr_r := fun a => bk hb (h.kr_r a), e1 := fun _ => rfl }⟩
   ·intro L s w2 h hk hd hn
    have s0 : s 0 = _ := hk 0 (by kernel_rfl)
    refine sP fun K hK => ?_
    exact rs_field rfl s0 (fl_model0 _ _) (hK _ _ { h with e2 := fun _ => rfl })
   ·intro L s w2 h hk hd hn
    have s3 := h.e2 hd.1
    have s1 := h.e0 hd.2.1
    refine sP fun K hK => ?_
    exact rs_index rfl s3 s1 (ix_model _ (tPlace 1 0) (by decide)) (hK _ _ { h with e3 := fun _ => rfl })
   ·intro L s w2 h hk hd hn
    have s4 := h.e3 hd.1
    have s2 := h.e1 hd.2.1
    have kb := h.kt_r hn
    refine sP fun K hK => ?_
    exact rs_store rfl s4 s2 (sp_store (p := tPlace 1 0) kb (by decide) (4294967296, 4294967296)) (hK _ _ { h with mu := h.mu.put (List.Mem.head _) _, kt_r := nF, kr_r := fun _ => pH kb })
  ·intro L s w2 h hk hl
   refine cA ?_ (hQ2 s w2 (⟨h.mu, h.kr_r (hl 4 (by decide))⟩))
   exact frame_eq hk (by kernel_rfl) (by kernel_rfl)
  ·intro c s w2 hc
   exact hc.elim
 rotate_left
 ·rintro _ _ _ h
  exact h.elim
 rintro s1 V ⟨h1, c_r⟩
 simp only [mergeL]
 replace HR := lh c_r
 replace HM := lh (HM.out.stepM h1 (by have := HBW.out; have := HLT.out; intro x hx; simp at hx; right; omega))
 clear h1 c_r
 refine HK1.out _ _ ?_
 refine wsk fun K2 HK2 => ?_
 refine wp_cut_mergeP (nn :: nn :: nn :: nn :: nn :: some 5 :: []) (fun _ w' => Mut [b] V w' ∧ w'.heap[b]? = some (cobj 34 (zeroM.set (tPlace 1 0) (4294967296, 4294967296)))) (fun _ _ => False) ?_ ?_ ?_
 ·intro Q2 hQ2 hP2
  refine wpG ?_
  refine wp_region_G (b := false) (Pn := (fun _ _ => False)) (VU2 V b) (by kernel_rfl) (by kernel_rfl) ?_ ?_ ?_ ?_
  ·exact ⟨Mut.start _ false _, fun _ => HR.out, nB, nB, nB⟩
  ·refine AllSP.cons ?_ (AllSP.cons ?_ AllSP.nil)
   ·intro L s w2 h hk hd hn
    have s0 : s 0 = _ := hk 0 (by kernel_rfl)
    have kb := (h.kt_r (bF h.b1_0 hn))
    refine sP fun K hK => ?_
    exact rs_load rfl s0 (md_load kb (by simp [zeroM])) (hK _ _ { h with e0 := fun _ => rfl, b1_0 := fun _ => rfl })
   ·intro L s w2 h hk hd hn
    have s0 : s 0 = _ := hk 0 (by kernel_rfl)
    have s5 := h.e0 hd.1
    have kb := h.kt_r hn
    refine sP fun K hK => ?_
    exact rs_store rfl s0 s5 (md_store kb (by simp [zeroM]) _ (by simp [zeroM])) (hK _ _ { h with mu := h.mu.put (List.Mem.head _) _, kt_r := nF, kr_r := fun _ => pH kb, b1_0 := fun _ => hd.1 })
  ·intro L s w2 h hk hl
   refine cA ?_ (hQ2 s w2 (⟨h.mu, h.kr_r (hl 1 (by decide))⟩))
   exact frame_eq hk (by kernel_rfl) (by kernel_rfl)
  ·intro c s w2 hc
   exact hc.elim
 rotate_left
 ·rintro _ _ _ h
  exact h.elim
 rintro s2 V ⟨h1, c_r⟩
 simp only [mergeL]
 replace HR := lh c_r
 replace HM := lh (HM.out.stepM h1 (by have := HBW.out; have := HLT.out; intro x hx; simp at hx; right; omega))
 clear h1 c_r
 refine HK2.out _ _ ?_
 refine wp_ret ?_
 exact bodyPost_ret (v := mval xU) (res_model Tryz.results21 rfl (md_loadVar HR.out (show (zeroM.set (tPlace 1 0) (4294967296, 4294967296)).length = 22 from rfl))) rfl ⟨rfl, by rw [← HBW.out]; exact HM.out.to0⟩
/-- The model of a variable. -/
def xV : List (Int × Int) := zeroM.set 1 (4294967296, 4294967296)
structure VV1 (V : World) (b : Nat) (L : Nat → Bool) (s : Nat → Value) (w : World) : Prop where
 mu : Mut [b] V w
 kt_r : L 4 = false → w.heap[b]? = some (cobj 34 zeroM)
 kr_r : L 4 = true → w.heap[b]? = some (cobj 34 (zeroM.set (tPlace 0 1) (4294967296, 4294967296)))
 e0 : L 0 = true → s 1 = .int .i64 ((tPlace 0 1 : Nat) : Int)
 e1 : L 1 = true → s 2 = sval (4294967296, 4294967296)
 e2 : L 2 = true → s 3 = .pointer (some ⟨b, 0, none⟩)
 e3 : L 3 = true → s 4 = .pointer (some ⟨b, (tPlace 0 1) * 2, none⟩)
structure VV2 (V : World) (b : Nat) (L : Nat → Bool) (s : Nat → Value) (w : World) : Prop where
 mu : Mut [b] V w
 kt_r : L 1 = false → w.heap[b]? = some (cobj 34 (zeroM.set (tPlace 0 1) (4294967296, 4294967296)))
 kr_r : L 1 = true → w.heap[b]? = some (cobj 34 (zeroM.set (tPlace 0 1) (4294967296, 4294967296)))
 e0 : L 0 = true → s 5 = mval (zeroM.set (tPlace 0 1) (4294967296, 4294967296))
 b1_0 : L 1 = true → L 0 = true
set_option maxRecDepth 100000 in
set_option maxHeartbeats 4000000 in
theorem taw_V (w : World) : Calls Tryz.prog 22 #[] w fun e w' => e = .returned (mval xV) ∧ Below w.heap.size w w' := by
 go_enter Tryz.func22, Tryz.ntmps22
 refine wsk fun K0 HK0 => ?_
 go_wp2_with fail
 obtain ⟨b, hb⟩ : ∃ b, w.heap.size = b := ⟨_, rfl⟩
 refine HK0.out _ _ ?_
 refine wp_world (fun V => Mut [] w V ∧ V.heap[b]? = some (cobj 34 zeroM)) ?_
  (by
   rw [← hb]
   exact ⟨((Mut.refl _ _).alloc _), heap_at (cobj 34 zeroM) (by simp)⟩)
 rintro V ⟨hm, hHR⟩
 rw [hb]
 have HM := lh hm
 have HBW := lh hb
 have HLT := lh trivial
 have HR := lh hHR
 clear hm hHR hb HK0
 refine wsk fun K1 HK1 => ?_
 refine wp_cut_mergeP (nn :: some 1 :: some 2 :: some 3 :: some 4 :: nn :: []) (fun _ w' => Mut [b] V w' ∧ w'.heap[b]? = some (cobj 34 (zeroM.set (tPlace 0 1) (4294967296, 4294967296)))) (fun _ _ => False) ?_ ?_ ?_
 ·intro Q2 hQ2 hP2
  refine wpG ?_
  refine wp_region_G (b := false) (Pn := (fun _ _ => False)) (VV1 V b) (by kernel_rfl) (by kernel_rfl) ?_ ?_ ?_ ?_
  ·exact ⟨Mut.start _ false _, fun _ => HR.out, nB, nB, nB, nB, nB⟩
  ·refine AllSP.cons ?_ (AllSP.cons ?_ (AllSP.cons ?_ (AllSP.cons ?_ (AllSP.cons ?_ AllSP.nil))))
   ·intro L s w2 h hk hd hn
    refine sP fun K hK => ?_
    go_simp
    refine (tay_place 0 1 (by omega) _).mono ?_
    rintro e w3 ⟨rfl, hb⟩
    exact .inl ⟨_, rfl, hK _ _ { h with mu := h.mu.step hb, kt_r := fun a => bk hb (h.kt_r a), kr_r := fun a => bk hb (h.kr_r a), e0 := fun _ => rfl }⟩
   ·intro L s w2 h hk hd hn
    refine sP fun K hK => ?_
    go_simp
    refine (tm_point 4294967296 _).mono ?_
    rintro e w3 ⟨rfl, hb⟩
    exact .inl ⟨_, rfl, hK _ _ { h with mu := h.mu.step hb, kt_r := fun a => bk hb (h.kt_r a), kr_r := fun a => bk hb (h.kr_r a), e1 := fun _ => rfl }⟩
   ·intro L s w2 h hk hd hn
    have s0 : s 0 = _ := hk 0 (by kernel_rfl)
    refine sP fun K hK => ?_
    exact rs_field rfl s0 (fl_model0 _ _) (hK _ _ { h with e2 := fun _ => rfl })
   ·intro L s w2 h hk hd hn
    have s3 := h.e2 hd.1
    have s1 := h.e0 hd.2.1
    refine sP fun K hK => ?_
    exact rs_index rfl s3 s1 (ix_model _ (tPlace 0 1) (by decide)) (hK _ _ { h with e3 := fun _ => rfl })
   ·intro L s w2 h hk hd hn
    have s4 := h.e3 hd.1
    have s2 := h.e1 hd.2.1
    have kb := h.kt_r hn
    refine sP fun K hK => ?_
    exact rs_store rfl s4 s2 (sp_store (p := tPlace 0 1) kb (by decide) (4294967296, 4294967296)) (hK _ _ { h with mu := h.mu.put (List.Mem.head _) _, kt_r := nF, kr_r := fun _ => pH kb })
  ·intro L s w2 h hk hl
   refine cA ?_ (hQ2 s w2 (⟨h.mu, h.kr_r (hl 4 (by decide))⟩))
   exact frame_eq hk (by kernel_rfl) (by kernel_rfl)
  ·intro c s w2 hc
   exact hc.elim
 rotate_left
 ·rintro _ _ _ h
  exact h.elim
 rintro s1 V ⟨h1, c_r⟩
 simp only [mergeL]
 replace HR := lh c_r
 replace HM := lh (HM.out.stepM h1 (by have := HBW.out; have := HLT.out; intro x hx; simp at hx; right; omega))
 clear h1 c_r
 refine HK1.out _ _ ?_
 refine wsk fun K2 HK2 => ?_
 refine wp_cut_mergeP (nn :: nn :: nn :: nn :: nn :: some 5 :: []) (fun _ w' => Mut [b] V w' ∧ w'.heap[b]? = some (cobj 34 (zeroM.set (tPlace 0 1) (4294967296, 4294967296)))) (fun _ _ => False) ?_ ?_ ?_
 ·intro Q2 hQ2 hP2
  refine wpG ?_
  refine wp_region_G (b := false) (Pn := (fun _ _ => False)) (VV2 V b) (by kernel_rfl) (by kernel_rfl) ?_ ?_ ?_ ?_
  ·exact ⟨Mut.start _ false _, fun _ => HR.out, nB, nB, nB⟩
  ·refine AllSP.cons ?_ (AllSP.cons ?_ AllSP.nil)
   ·intro L s w2 h hk hd hn
    have s0 : s 0 = _ := hk 0 (by kernel_rfl)
    have kb := (h.kt_r (bF h.b1_0 hn))
    refine sP fun K hK => ?_
    exact rs_load rfl s0 (md_load kb (by simp [zeroM])) (hK _ _ { h with e0 := fun _ => rfl, b1_0 := fun _ => rfl })
   ·intro L s w2 h hk hd hn
    have s0 : s 0 = _ := hk 0 (by kernel_rfl)
    have s5 := h.e0 hd.1
    have kb := h.kt_r hn
    refine sP fun K hK => ?_
    exact rs_store rfl s0 s5 (md_store kb (by simp [zeroM]) _ (by simp [zeroM])) (hK _ _ { h with mu := h.mu.put (List.Mem.head _) _, kt_r := nF, kr_r := fun _ => pH kb, b1_0 := fun _ => hd.1 })
  ·intro L s w2 h hk hl
   refine cA ?_ (hQ2 s w2 (⟨h.mu, h.kr_r (hl 1 (by decide))⟩))
   exact frame_eq hk (by kernel_rfl) (by kernel_rfl)
  ·intro c s w2 hc
   exact hc.elim
 rotate_left
 ·rintro _ _ _ h
  exact h.elim
 rintro s2 V ⟨h1, c_r⟩
 simp only [mergeL]
 replace HR := lh c_r
 replace HM := lh (HM.out.stepM h1 (by have := HBW.out; have := HLT.out; intro x hx; simp at hx; right; omega))
 clear h1 c_r
 refine HK2.out _ _ ?_
 refine wp_ret ?_
 exact bodyPost_ret (v := mval xV) (res_model Tryz.results22 rfl (md_loadVar HR.out (show (zeroM.set (tPlace 0 1) (4294967296, 4294967296)).length = 22 from rfl))) rfl ⟨rfl, by rw [← HBW.out]; exact HM.out.to0⟩
end Go.Proofs.YthhkcfpljgdnhaaGreat
