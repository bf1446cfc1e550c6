/- Package taylor: Check, Const, U, V. Printed by wip/genTY.py. -/
import Derived.Test.YthhkcfpljgdnhaaTayO
namespace Go.Proofs.Ythhkcfpljgdnhaa
open Go.RowKit Mnc
attribute [local go_sem] RunSP_value RunSP_skip RunSP_enter evS_tmp evS_const evS_global evS_func
/-- The model of a variable. -/
def xU : List (Int × Int) := zeroM.set 2 (4294967296, 4294967296)
structure VU1 (V : World) (b : Nat) (L : Nat → Bool) (s : Nat → Value) (w : World) : Prop where
  mu : Mut [b] V w
  kt_r : L 4 = false → w.heap[b]? = some (cobj 28 zeroM)
  kr_r : L 4 = true → w.heap[b]? = some (cobj 28 (zeroM.set (tPlace 1 0) (4294967296, 4294967296)))
  e0 : L 0 = true → s 1 = .int .i64 ((tPlace 1 0 : Nat) : Int)
  e1 : L 1 = true → s 2 = sval (4294967296, 4294967296)
  e2 : L 2 = true → s 3 = .pointer (some ⟨b, 0, none⟩)
  e3 : L 3 = true → s 4 = .pointer (some ⟨b, (tPlace 1 0) * 2, none⟩)
structure VU2 (V : World) (b : Nat) (L : Nat → Bool) (s : Nat → Value) (w : World) : Prop where
  mu : Mut [b] V w
  kt_r : L 1 = false → w.heap[b]? = some (cobj 28 (zeroM.set (tPlace 1 0) (4294967296, 4294967296)))
  kr_r : L 1 = true → w.heap[b]? = some (cobj 28 (zeroM.set (tPlace 1 0) (4294967296, 4294967296)))
  e0 : L 0 = true → s 5 = mval (zeroM.set (tPlace 1 0) (4294967296, 4294967296))
  b1_0 : L 1 = true → L 0 = true
set_option maxRecDepth 100000 in
set_option maxHeartbeats 4000000 in
theorem taw_U (w : World) : Calls Try.prog 25 #[] w fun e w' => e = .returned (mval xU) ∧ Below w.heap.size w w' := by
  go_enter Try.func25, Try.ntmps25
  refine wp_seq_k fun K0 hK0 => ?_
  have HK0 := Lib.hid hK0
  clear hK0
  go_wp2_with fail
  obtain ⟨b, hb⟩ : ∃ b, w.heap.size = b := ⟨_, rfl⟩
  refine HK0.out _ _ ?_
  refine wp_world (fun V => Mut [] w V ∧ V.heap[b]? = some (cobj 28 zeroM)) ?_
    (by
      rw [← hb]
      exact ⟨((Mut.refl _ _).alloc _), heap_at (cobj 28 zeroM) (by simp)⟩)
  rintro V ⟨hm, hHR⟩
  rw [hb]
  have HM := Lib.hid hm
  have HBW := Lib.hid hb
  have HLT := Lib.hid trivial
  have HR := Lib.hid hHR
  clear hm hHR hb HK0
  refine wp_seq_k fun K1 hK1 => ?_
  have HK1 := Lib.hid hK1
  clear hK1
  refine wp_cut_mergeP [none, some 1, some 2, some 3, some 4, none] (fun _ w' => Mut [b] V w' ∧ w'.heap[b]? = some (cobj 28 (zeroM.set (tPlace 1 0) (4294967296, 4294967296)))) (fun _ _ => False) ?_ ?_ ?_
  · intro Q2 hQ2 hP2
    refine (wpIn_wide (n := 0)).1 (show Code.wpIn (G none) 0 _ _ _ _ _ from ?_)
    refine wp_region_G (b := false) (Pn := (fun _ _ => False)) (VU1 V b) (by kernel_rfl) (by kernel_rfl) ?_ ?_ ?_ ?_
    · exact ⟨Mut.start _ false _, fun _ => HR.out, fun h => absurd h Bool.false_ne_true, fun h => absurd h Bool.false_ne_true, fun h => absurd h Bool.false_ne_true, fun h => absurd h Bool.false_ne_true, fun h => absurd h Bool.false_ne_true⟩
    · refine AllSP.cons ?_ (AllSP.cons ?_ (AllSP.cons ?_ (AllSP.cons ?_ (AllSP.cons ?_ AllSP.nil))))
      · intro L s w2 h hk hd hn
        refine stepSP rfl fun K hK => ?_
        go_simp
        refine (tay_place 1 0 (by omega) _).mono ?_
        rintro e w3 ⟨rfl, hb⟩
        exact .inl ⟨_, rfl, hK _ _ { h with mu := h.mu.step hb, kt_r := fun a => bk hb (h.kt_r a), kr_r := fun a => bk hb (h.kr_r a), e0 := fun _ => rfl }⟩
      · intro L s w2 h hk hd hn
        refine stepSP rfl fun K hK => ?_
        go_simp
        refine (tm_point 4294967296 _).mono ?_
        rintro e w3 ⟨rfl, hb⟩
        exact .inl ⟨_, rfl, hK _ _ { h with mu := h.mu.step hb, kt_r := fun a => bk hb (h.kt_r a), kr_r := fun a => bk hb (h.kr_r a), e1 := fun _ => rfl }⟩
      · intro L s w2 h hk hd hn
        have s0 : s 0 = _ := hk 0 (by kernel_rfl)
        refine stepSP rfl fun K hK => ?_
        exact rs_field rfl s0 (fl_model0 _ _) (hK _ _ { h with e2 := fun _ => rfl })
      · intro L s w2 h hk hd hn
        have s3 := h.e2 hd.1
        have s1 := h.e0 hd.2.1
        refine stepSP rfl fun K hK => ?_
        exact rs_index rfl s3 s1 (ix_model _ (tPlace 1 0) (by decide)) (hK _ _ { h with e3 := fun _ => rfl })
      · intro L s w2 h hk hd hn
        have s4 := h.e3 hd.1
        have s2 := h.e1 hd.2.1
        have kb := h.kt_r hn
        refine stepSP rfl fun K hK => ?_
        exact rs_store rfl s4 s2 (sp_store (p := tPlace 1 0) kb (by decide) (4294967296, 4294967296)) (hK _ _ { h with mu := h.mu.put (List.Mem.head _) _, kt_r := nF, kr_r := fun _ => pH kb })
    · intro L s w2 h hk hl
      refine (congrArg (fun a => Q2 .normal a w2) (?_ : _ = _)).mpr (hQ2 s w2 (⟨h.mu, h.kr_r (hl 4 (by decide))⟩))
      exact frame_eq hk (by kernel_rfl) (by kernel_rfl)
    · intro c s w2 hc
      exact hc.elim
  rotate_left
  · rintro _ _ _ h
    exact h.elim
  rintro s1 V ⟨h1, c_r⟩
  simp only [mergeL]
  replace HR := Lib.hid c_r
  replace HM := Lib.hid (HM.out.stepM h1 (by have := HBW.out; have := HLT.out; intro x hx; simp at hx; right; omega))
  clear h1 c_r
  refine HK1.out _ _ ?_
  refine wp_seq_k fun K2 hK2 => ?_
  have HK2 := Lib.hid hK2
  clear hK2
  refine wp_cut_mergeP [none, none, none, none, none, some 5] (fun _ w' => Mut [b] V w' ∧ w'.heap[b]? = some (cobj 28 (zeroM.set (tPlace 1 0) (4294967296, 4294967296)))) (fun _ _ => False) ?_ ?_ ?_
  · intro Q2 hQ2 hP2
    refine (wpIn_wide (n := 0)).1 (show Code.wpIn (G none) 0 _ _ _ _ _ from ?_)
    refine wp_region_G (b := false) (Pn := (fun _ _ => False)) (VU2 V b) (by kernel_rfl) (by kernel_rfl) ?_ ?_ ?_ ?_
    · exact ⟨Mut.start _ false _, fun _ => HR.out, fun h => absurd h Bool.false_ne_true, fun h => absurd h Bool.false_ne_true, fun h => absurd h Bool.false_ne_true⟩
    · refine AllSP.cons ?_ (AllSP.cons ?_ AllSP.nil)
      · intro L s w2 h hk hd hn
        have s0 : s 0 = _ := hk 0 (by kernel_rfl)
        have kb := (h.kt_r (bF h.b1_0 hn))
        refine stepSP rfl fun K hK => ?_
        exact rs_load rfl s0 (md_load kb (by simp [zeroM])) (hK _ _ { h with e0 := fun _ => rfl, b1_0 := fun _ => rfl })
      · intro L s w2 h hk hd hn
        have s0 : s 0 = _ := hk 0 (by kernel_rfl)
        have s5 := h.e0 hd.1
        have kb := h.kt_r hn
        refine stepSP rfl fun K hK => ?_
        exact rs_store rfl s0 s5 (md_store kb (by simp [zeroM]) _ (by simp [zeroM])) (hK _ _ { h with mu := h.mu.put (List.Mem.head _) _, kt_r := nF, kr_r := fun _ => pH kb, b1_0 := fun _ => hd.1 })
    · intro L s w2 h hk hl
      refine (congrArg (fun a => Q2 .normal a w2) (?_ : _ = _)).mpr (hQ2 s w2 (⟨h.mu, h.kr_r (hl 1 (by decide))⟩))
      exact frame_eq hk (by kernel_rfl) (by kernel_rfl)
    · intro c s w2 hc
      exact hc.elim
  rotate_left
  · rintro _ _ _ h
    exact h.elim
  rintro s2 V ⟨h1, c_r⟩
  simp only [mergeL]
  replace HR := Lib.hid c_r
  replace HM := Lib.hid (HM.out.stepM h1 (by have := HBW.out; have := HLT.out; intro x hx; simp at hx; right; omega))
  clear h1 c_r
  refine HK2.out _ _ ?_
  refine wp_ret ?_
  exact bodyPost_ret (v := mval xU) (res_model Try.results25 rfl (md_loadVar HR.out (show (zeroM.set (tPlace 1 0) (4294967296, 4294967296)).length = 22 from rfl))) rfl ⟨rfl, by rw [← HBW.out]; exact HM.out.to0⟩
/-- The model of a variable. -/
def xV : List (Int × Int) := zeroM.set 1 (4294967296, 4294967296)
structure VV1 (V : World) (b : Nat) (L : Nat → Bool) (s : Nat → Value) (w : World) : Prop where
  mu : Mut [b] V w
  kt_r : L 4 = false → w.heap[b]? = some (cobj 28 zeroM)
  kr_r : L 4 = true → w.heap[b]? = some (cobj 28 (zeroM.set (tPlace 0 1) (4294967296, 4294967296)))
  e0 : L 0 = true → s 1 = .int .i64 ((tPlace 0 1 : Nat) : Int)
  e1 : L 1 = true → s 2 = sval (4294967296, 4294967296)
  e2 : L 2 = true → s 3 = .pointer (some ⟨b, 0, none⟩)
  e3 : L 3 = true → s 4 = .pointer (some ⟨b, (tPlace 0 1) * 2, none⟩)
structure VV2 (V : World) (b : Nat) (L : Nat → Bool) (s : Nat → Value) (w : World) : Prop where
  mu : Mut [b] V w
  kt_r : L 1 = false → w.heap[b]? = some (cobj 28 (zeroM.set (tPlace 0 1) (4294967296, 4294967296)))
  kr_r : L 1 = true → w.heap[b]? = some (cobj 28 (zeroM.set (tPlace 0 1) (4294967296, 4294967296)))
  e0 : L 0 = true → s 5 = mval (zeroM.set (tPlace 0 1) (4294967296, 4294967296))
  b1_0 : L 1 = true → L 0 = true
set_option maxRecDepth 100000 in
set_option maxHeartbeats 4000000 in
theorem taw_V (w : World) : Calls Try.prog 27 #[] w fun e w' => e = .returned (mval xV) ∧ Below w.heap.size w w' := by
  go_enter Try.func27, Try.ntmps27
  refine wp_seq_k fun K0 hK0 => ?_
  have HK0 := Lib.hid hK0
  clear hK0
  go_wp2_with fail
  obtain ⟨b, hb⟩ : ∃ b, w.heap.size = b := ⟨_, rfl⟩
  refine HK0.out _ _ ?_
  refine wp_world (fun V => Mut [] w V ∧ V.heap[b]? = some (cobj 28 zeroM)) ?_
    (by
      rw [← hb]
      exact ⟨((Mut.refl _ _).alloc _), heap_at (cobj 28 zeroM) (by simp)⟩)
  rintro V ⟨hm, hHR⟩
  rw [hb]
  have HM := Lib.hid hm
  have HBW := Lib.hid hb
  have HLT := Lib.hid trivial
  have HR := Lib.hid hHR
  clear hm hHR hb HK0
  refine wp_seq_k fun K1 hK1 => ?_
  have HK1 := Lib.hid hK1
  clear hK1
  refine wp_cut_mergeP [none, some 1, some 2, some 3, some 4, none] (fun _ w' => Mut [b] V w' ∧ w'.heap[b]? = some (cobj 28 (zeroM.set (tPlace 0 1) (4294967296, 4294967296)))) (fun _ _ => False) ?_ ?_ ?_
  · intro Q2 hQ2 hP2
    refine (wpIn_wide (n := 0)).1 (show Code.wpIn (G none) 0 _ _ _ _ _ from ?_)
    refine wp_region_G (b := false) (Pn := (fun _ _ => False)) (VV1 V b) (by kernel_rfl) (by kernel_rfl) ?_ ?_ ?_ ?_
    · exact ⟨Mut.start _ false _, fun _ => HR.out, fun h => absurd h Bool.false_ne_true, fun h => absurd h Bool.false_ne_true, fun h => absurd h Bool.false_ne_true, fun h => absurd h Bool.false_ne_true, fun h => absurd h Bool.false_ne_true⟩
    · refine AllSP.cons ?_ (AllSP.cons ?_ (AllSP.cons ?_ (AllSP.cons ?_ (AllSP.cons ?_ AllSP.nil))))
      · intro L s w2 h hk hd hn
        refine stepSP rfl fun K hK => ?_
        go_simp
        refine (tay_place 0 1 (by omega) _).mono ?_
        rintro e w3 ⟨rfl, hb⟩
        exact .inl ⟨_, rfl, hK _ _ { h with mu := h.mu.step hb, kt_r := fun a => bk hb (h.kt_r a), kr_r := fun a => bk hb (h.kr_r a), e0 := fun _ => rfl }⟩
      · intro L s w2 h hk hd hn
        refine stepSP rfl fun K hK => ?_
        go_simp
        refine (tm_point 4294967296 _).mono ?_
        rintro e w3 ⟨rfl, hb⟩
        exact .inl ⟨_, rfl, hK _ _ { h with mu := h.mu.step hb, kt_r := fun a => bk hb (h.kt_r a), kr_r := fun a => bk hb (h.kr_r a), e1 := fun _ => rfl }⟩
      · intro L s w2 h hk hd hn
        have s0 : s 0 = _ := hk 0 (by kernel_rfl)
        refine stepSP rfl fun K hK => ?_
        exact rs_field rfl s0 (fl_model0 _ _) (hK _ _ { h with e2 := fun _ => rfl })
      · intro L s w2 h hk hd hn
        have s3 := h.e2 hd.1
        have s1 := h.e0 hd.2.1
        refine stepSP rfl fun K hK => ?_
        exact rs_index rfl s3 s1 (ix_model _ (tPlace 0 1) (by decide)) (hK _ _ { h with e3 := fun _ => rfl })
      · intro L s w2 h hk hd hn
        have s4 := h.e3 hd.1
        have s2 := h.e1 hd.2.1
        have kb := h.kt_r hn
        refine stepSP rfl fun K hK => ?_
        exact rs_store rfl s4 s2 (sp_store (p := tPlace 0 1) kb (by decide) (4294967296, 4294967296)) (hK _ _ { h with mu := h.mu.put (List.Mem.head _) _, kt_r := nF, kr_r := fun _ => pH kb })
    · intro L s w2 h hk hl
      refine (congrArg (fun a => Q2 .normal a w2) (?_ : _ = _)).mpr (hQ2 s w2 (⟨h.mu, h.kr_r (hl 4 (by decide))⟩))
      exact frame_eq hk (by kernel_rfl) (by kernel_rfl)
    · intro c s w2 hc
      exact hc.elim
  rotate_left
  · rintro _ _ _ h
    exact h.elim
  rintro s1 V ⟨h1, c_r⟩
  simp only [mergeL]
  replace HR := Lib.hid c_r
  replace HM := Lib.hid (HM.out.stepM h1 (by have := HBW.out; have := HLT.out; intro x hx; simp at hx; right; omega))
  clear h1 c_r
  refine HK1.out _ _ ?_
  refine wp_seq_k fun K2 hK2 => ?_
  have HK2 := Lib.hid hK2
  clear hK2
  refine wp_cut_mergeP [none, none, none, none, none, some 5] (fun _ w' => Mut [b] V w' ∧ w'.heap[b]? = some (cobj 28 (zeroM.set (tPlace 0 1) (4294967296, 4294967296)))) (fun _ _ => False) ?_ ?_ ?_
  · intro Q2 hQ2 hP2
    refine (wpIn_wide (n := 0)).1 (show Code.wpIn (G none) 0 _ _ _ _ _ from ?_)
    refine wp_region_G (b := false) (Pn := (fun _ _ => False)) (VV2 V b) (by kernel_rfl) (by kernel_rfl) ?_ ?_ ?_ ?_
    · exact ⟨Mut.start _ false _, fun _ => HR.out, fun h => absurd h Bool.false_ne_true, fun h => absurd h Bool.false_ne_true, fun h => absurd h Bool.false_ne_true⟩
    · refine AllSP.cons ?_ (AllSP.cons ?_ AllSP.nil)
      · intro L s w2 h hk hd hn
        have s0 : s 0 = _ := hk 0 (by kernel_rfl)
        have kb := (h.kt_r (bF h.b1_0 hn))
        refine stepSP rfl fun K hK => ?_
        exact rs_load rfl s0 (md_load kb (by simp [zeroM])) (hK _ _ { h with e0 := fun _ => rfl, b1_0 := fun _ => rfl })
      · intro L s w2 h hk hd hn
        have s0 : s 0 = _ := hk 0 (by kernel_rfl)
        have s5 := h.e0 hd.1
        have kb := h.kt_r hn
        refine stepSP rfl fun K hK => ?_
        exact rs_store rfl s0 s5 (md_store kb (by simp [zeroM]) _ (by simp [zeroM])) (hK _ _ { h with mu := h.mu.put (List.Mem.head _) _, kt_r := nF, kr_r := fun _ => pH kb, b1_0 := fun _ => hd.1 })
    · intro L s w2 h hk hl
      refine (congrArg (fun a => Q2 .normal a w2) (?_ : _ = _)).mpr (hQ2 s w2 (⟨h.mu, h.kr_r (hl 1 (by decide))⟩))
      exact frame_eq hk (by kernel_rfl) (by kernel_rfl)
    · intro c s w2 hc
      exact hc.elim
  rotate_left
  · rintro _ _ _ h
    exact h.elim
  rintro s2 V ⟨h1, c_r⟩
  simp only [mergeL]
  replace HR := Lib.hid c_r
  replace HM := Lib.hid (HM.out.stepM h1 (by have := HBW.out; have := HLT.out; intro x hx; simp at hx; right; omega))
  clear h1 c_r
  refine HK2.out _ _ ?_
  refine wp_ret ?_
  exact bodyPost_ret (v := mval xV) (res_model Try.results27 rfl (md_loadVar HR.out (show (zeroM.set (tPlace 0 1) (4294967296, 4294967296)).length = 22 from rfl))) rfl ⟨rfl, by rw [← HBW.out]; exact HM.out.to0⟩
/-- A constant's model, or the error. -/
def xConst (sp : Int × Int) : List (Int × Int) × Int := if okS sp then (zeroM.set 0 sp, 0) else (zeroM, 20)
structure Cook1 (V : World) (sp : (Int × Int)) (b : Nat) (L : Nat → Bool) (s : Nat → Value) (w : World) : Prop where
  mu : Mut [] V w
  e0 : L 0 = true → s 4 = sval sp
  e1 : L 1 = true → s 5 = .int .i64 0
  e2 : L 2 = true → s 3 = .int .i64 0
structure Cook3 (V : World) (sp : (Int × Int)) (b : Nat) (L : Nat → Bool) (s : Nat → Value) (w : World) : Prop where
  mu : Mut [b + 1] V w
  kt_r : L 3 = false → w.heap[b + 1]? = some (cobj 28 zeroM)
  kr_r : L 3 = true → w.heap[b + 1]? = some (cobj 28 (zeroM.set 0 sp))
  e0 : L 0 = true → s 8 = sval sp
  e1 : L 1 = true → s 9 = .pointer (some ⟨b + 1, 0, none⟩)
  e2 : L 2 = true → s 10 = .pointer (some ⟨b + 1, 0 * 2, none⟩)
structure Cook4 (V : World) (sp : (Int × Int)) (b : Nat) (L : Nat → Bool) (s : Nat → Value) (w : World) : Prop where
  mu : Mut [b + 1] V w
  kt_r : L 2 = false → w.heap[b + 1]? = some (cobj 28 (zeroM.set 0 sp))
  kr_r : L 2 = true → w.heap[b + 1]? = some (cobj 28 (zeroM.set 0 sp))
  e0 : L 0 = true → s 11 = mval (zeroM.set 0 sp)
  o3 : L 3 = false → s 3 = .int .i64 0
  e1 : L 1 = true → s 12 = .int .i64 0
  e3 : L 3 = true → s 3 = .int .i64 0
  b2_0 : L 2 = true → L 0 = true
  b3_1 : L 3 = true → L 1 = true
set_option maxRecDepth 100000 in
set_option maxHeartbeats 4000000 in
theorem taw_Const_ok (sp : Int × Int) (hs : okS sp) (w : World) : Calls Try.prog 22 #[sval sp] w fun e w' => e = .returned (.tuple #[mval (xConst sp).1, .int .i64 (xConst sp).2]) ∧ Below w.heap.size w w' := by
  have HX := Lib.hid (show xConst sp = _ from if_pos hs)
  have HOK := Lib.hid hs
  clear hs
  rw [show sval sp = .agg #[.int .i64 sp.1, .int .i64 sp.2] from rfl]
  go_enter Try.func22, Try.ntmps22
  refine wp_seq_k fun K0 hK0 => ?_
  have HK0 := Lib.hid hK0
  clear hK0
  go_wp2_with fail
  obtain ⟨b, hb⟩ : ∃ b, w.heap.size = b := ⟨_, rfl⟩
  refine HK0.out _ _ ?_
  refine wp_world (fun V => Mut [] w V ∧ V.heap[b]? = some (cobj 25 [sp]) ∧ V.heap[b + 1]? = some (cobj 28 zeroM)) ?_
    (by
      rw [← hb]
      exact ⟨(((Mut.refl _ _).alloc _).alloc _), heap_up _ (heap_at (cobj 25 [sp]) (by simp)), heap_at (cobj 28 zeroM) (by simp)⟩)
  rintro V ⟨hm, hHS, hHR⟩
  rw [hb]
  have HM := Lib.hid hm
  have HBW := Lib.hid hb
  have HLT := Lib.hid trivial
  have HS := Lib.hid hHS
  have HR := Lib.hid hHR
  clear hm hHS hHR hb HK0
  refine wp_seq_k fun KA hKA => ?_
  have HKA := Lib.hid hKA
  clear hKA
  refine wp_seq_k fun K1 hK1 => ?_
  have HK1 := Lib.hid hK1
  clear hK1
  refine wp_cut_mergeP [none, none, none, some 3, some 4, some 5, none, none, none, none, none, none, none] (fun s w' => Mut [] V w' ∧ s 3 = .int .i64 0) (fun _ _ => False) ?_ ?_ ?_
  · intro Q2 hQ2 hP2
    refine (wpIn_wide (n := 0)).1 (show Code.wpIn (G none) 0 _ _ _ _ _ from ?_)
    refine wp_region_G (b := false) (Pn := (fun _ _ => False)) (Cook1 V sp b) (by kernel_rfl) (by kernel_rfl) ?_ ?_ ?_ ?_
    · exact ⟨Mut.start _ false _, fun h => absurd h Bool.false_ne_true, fun h => absurd h Bool.false_ne_true, fun h => absurd h Bool.false_ne_true⟩
    · refine AllSP.cons ?_ (AllSP.cons ?_ (AllSP.cons ?_ AllSP.nil))
      · intro L s w2 h hk hd hn
        have s1 : s 1 = _ := hk 1 (by kernel_rfl)
        have kb := ((h.mu.same _ ((Array.getElem?_eq_some_iff.1 HS.out).1) (by simp)).trans HS.out)
        refine stepSP rfl fun K hK => ?_
        exact rs_load rfl s1 (sp_load (p := 0) kb (by simp)) (hK _ _ { h with e0 := fun _ => rfl })
      · intro L s w2 h hk hd hn
        have s4 := h.e0 hd.1
        refine stepSP rfl fun K hK => ?_
        go_simp
        refine (span_Check_ok HOK.out _).mono ?_
        rintro e w3 ⟨rfl, hb⟩
        exact .inl ⟨_, rfl, hK _ _ { h with mu := h.mu.step hb, e1 := fun _ => rfl }⟩
      · intro L s w2 h hk hd hn
        have s5 := h.e1 hd.1
        refine stepSP rfl fun K hK => ?_
        exact rs_assign rfl s5 (hK _ _ { h with e2 := fun _ => rfl })
    · intro L s w2 h hk hl
      refine (congrArg (fun a => Q2 .normal a w2) (?_ : _ = _)).mpr (hQ2 s w2 (⟨h.mu, h.e2 (hl 2 (by decide))⟩))
      exact frame_eq hk (by kernel_rfl) (by kernel_rfl)
    · intro c s w2 hc
      exact hc.elim
  rotate_left
  · rintro _ _ _ h
    exact h.elim
  rintro s1 V ⟨h1, k3⟩
  simp only [mergeL]
  rw [k3]
  replace HS := Lib.hid ((h1.same _ (lt_of_block HS.out) (by simp)).trans HS.out)
  replace HR := Lib.hid ((h1.same _ (lt_of_block HR.out) (by simp)).trans HR.out)
  replace HM := Lib.hid (HM.out.stepM h1 (by simp))
  clear h1 k3
  refine HK1.out _ _ ?_
  refine wp_seq_k fun KB hKB => ?_
  have HKB := Lib.hid hKB
  clear hKB
  go_wp2_with fail
  refine HKB.out _ _ ?_
  refine wp_cond_true (by rfl) ?_
  refine wp_cut_mergeP [none, none, none, none, none, none, none, none, some 8, some 9, some 10, none, none] (fun _ w' => Mut [b + 1] V w' ∧ w'.heap[b + 1]? = some (cobj 28 (zeroM.set 0 sp))) (fun _ _ => False) ?_ ?_ ?_
  · intro Q2 hQ2 hP2
    refine (wpIn_wide (n := 0)).1 (show Code.wpIn (G none) 0 _ _ _ _ _ from ?_)
    refine wp_region_G (b := false) (Pn := (fun _ _ => False)) (Cook3 V sp b) (by kernel_rfl) (by kernel_rfl) ?_ ?_ ?_ ?_
    · exact ⟨Mut.start _ false _, fun _ => HR.out, fun h => absurd h Bool.false_ne_true, fun h => absurd h Bool.false_ne_true, fun h => absurd h Bool.false_ne_true, fun h => absurd h Bool.false_ne_true⟩
    · refine AllSP.cons ?_ (AllSP.cons ?_ (AllSP.cons ?_ (AllSP.cons ?_ AllSP.nil)))
      · intro L s w2 h hk hd hn
        have s1 : s 1 = _ := hk 1 (by kernel_rfl)
        have kb := ((h.mu.same _ ((Array.getElem?_eq_some_iff.1 HS.out).1) (notin1 (by have := HLT.out; omega))).trans HS.out)
        refine stepSP rfl fun K hK => ?_
        exact rs_load rfl s1 (sp_load (p := 0) kb (by simp)) (hK _ _ { h with e0 := fun _ => rfl })
      · intro L s w2 h hk hd hn
        have s2 : s 2 = _ := hk 2 (by kernel_rfl)
        refine stepSP rfl fun K hK => ?_
        exact rs_field rfl s2 (fl_model0 _ _) (hK _ _ { h with e1 := fun _ => rfl })
      · intro L s w2 h hk hd hn
        have s9 := h.e1 hd.1
        refine stepSP rfl fun K hK => ?_
        exact rs_index rfl s9 rfl (ix_model _ 0 (by decide)) (hK _ _ { h with e2 := fun _ => rfl })
      · intro L s w2 h hk hd hn
        have s10 := h.e2 hd.1
        have s8 := h.e0 hd.2.1
        have kb := h.kt_r hn
        refine stepSP rfl fun K hK => ?_
        exact rs_store rfl s10 s8 (sp_store (p := 0) kb (by decide) sp) (hK _ _ { h with mu := h.mu.put (List.Mem.head _) _, kt_r := nF, kr_r := fun _ => pH kb })
    · intro L s w2 h hk hl
      refine (congrArg (fun a => Q2 .normal a w2) (?_ : _ = _)).mpr (hQ2 s w2 (⟨h.mu, h.kr_r (hl 3 (by decide))⟩))
      exact frame_eq hk (by kernel_rfl) (by kernel_rfl)
    · intro c s w2 hc
      exact hc.elim
  rotate_left
  · rintro _ _ _ h
    exact h.elim
  rintro s3 V ⟨h1, c_r⟩
  simp only [mergeL]
  replace HS := Lib.hid ((h1.same _ (lt_of_block HS.out) (notin1 (by have := HLT.out; omega))).trans HS.out)
  replace HR := Lib.hid c_r
  replace HM := Lib.hid (HM.out.stepM h1 (by have := HBW.out; have := HLT.out; intro x hx; simp at hx; right; omega))
  clear h1 c_r
  refine HKA.out _ _ ?_
  refine wp_seq_k fun K4 hK4 => ?_
  have HK4 := Lib.hid hK4
  clear hK4
  refine wp_cut_mergeP [none, none, none, some 3, none, none, none, none, none, none, none, some 11, some 12] (fun s w' => Mut [b + 1] V w' ∧ w'.heap[b + 1]? = some (cobj 28 (zeroM.set 0 sp)) ∧ s 3 = .int .i64 0) (fun _ _ => False) ?_ ?_ ?_
  · intro Q2 hQ2 hP2
    refine (wpIn_wide (n := 0)).1 (show Code.wpIn (G none) 0 _ _ _ _ _ from ?_)
    refine wp_region_G (b := false) (Pn := (fun _ _ => False)) (Cook4 V sp b) (by kernel_rfl) (by kernel_rfl) ?_ ?_ ?_ ?_
    · exact ⟨Mut.start _ false _, fun _ => HR.out, fun h => absurd h Bool.false_ne_true, fun h => absurd h Bool.false_ne_true, fun _ => rfl, fun h => absurd h Bool.false_ne_true, fun h => absurd h Bool.false_ne_true, fun h => absurd h Bool.false_ne_true, fun h => absurd h Bool.false_ne_true⟩
    · refine AllSP.cons ?_ (AllSP.cons ?_ (AllSP.cons ?_ (AllSP.cons ?_ AllSP.nil)))
      · intro L s w2 h hk hd hn
        have s2 : s 2 = _ := hk 2 (by kernel_rfl)
        have kb := (h.kt_r (bF h.b2_0 hn))
        refine stepSP rfl fun K hK => ?_
        exact rs_load rfl s2 (md_load kb (by simp [zeroM])) (hK _ _ { h with e0 := fun _ => rfl, b2_0 := fun _ => rfl })
      · intro L s w2 h hk hd hn
        have s3 := h.o3 (bF h.b3_1 hn)
        refine stepSP rfl fun K hK => ?_
        exact rs_move rfl s3 (hK _ _ { h with e1 := fun _ => rfl, b3_1 := fun _ => rfl })
      · intro L s w2 h hk hd hn
        have s2 : s 2 = _ := hk 2 (by kernel_rfl)
        have s11 := h.e0 hd.1
        have kb := h.kt_r hn
        refine stepSP rfl fun K hK => ?_
        exact rs_store rfl s2 s11 (md_store kb (by simp [zeroM]) _ (by simp [zeroM])) (hK _ _ { h with mu := h.mu.put (List.Mem.head _) _, kt_r := nF, kr_r := fun _ => pH kb, b2_0 := fun _ => hd.1 })
      · intro L s w2 h hk hd hn
        have s12 := h.e1 hd.1
        refine stepSP rfl fun K hK => ?_
        exact rs_assign rfl s12 (hK _ _ { h with e3 := fun _ => rfl, o3 := nF, b3_1 := fun _ => hd.1 })
    · intro L s w2 h hk hl
      refine (congrArg (fun a => Q2 .normal a w2) (?_ : _ = _)).mpr (hQ2 s w2 (⟨h.mu, h.kr_r (hl 2 (by decide)), h.e3 (hl 3 (by decide))⟩))
      exact frame_eq hk (by kernel_rfl) (by kernel_rfl)
    · intro c s w2 hc
      exact hc.elim
  rotate_left
  · rintro _ _ _ h
    exact h.elim
  rintro s4 V ⟨h1, c_r, k3⟩
  simp only [mergeL]
  rw [k3]
  replace HS := Lib.hid ((h1.same _ (lt_of_block HS.out) (notin1 (by have := HLT.out; omega))).trans HS.out)
  replace HR := Lib.hid c_r
  replace HM := Lib.hid (HM.out.stepM h1 (by have := HBW.out; have := HLT.out; intro x hx; simp at hx; right; omega))
  clear h1 c_r k3
  refine HK4.out _ _ ?_
  rw [HX.out]
  refine wp_ret ?_
  exact bodyPost_ret (v := .tuple #[mval (zeroM.set 0 sp), .int .i64 0]) (res_slot Try.results22 rfl rfl (md_loadVar HR.out (by simp [zeroM]))) rfl ⟨rfl, by rw [← HBW.out]; exact HM.out.to0⟩
structure Cobad1 (V : World) (sp : (Int × Int)) (b : Nat) (L : Nat → Bool) (s : Nat → Value) (w : World) : Prop where
  mu : Mut [] V w
  e0 : L 0 = true → s 4 = sval sp
  e1 : L 1 = true → s 5 = .int .i64 20
  e2 : L 2 = true → s 3 = .int .i64 20
structure Cobad4 (V : World) (sp : (Int × Int)) (b : Nat) (L : Nat → Bool) (s : Nat → Value) (w : World) : Prop where
  mu : Mut [b + 1] V w
  kt_r : L 2 = false → w.heap[b + 1]? = some (cobj 28 zeroM)
  kr_r : L 2 = true → w.heap[b + 1]? = some (cobj 28 zeroM)
  e0 : L 0 = true → s 11 = mval zeroM
  o3 : L 3 = false → s 3 = .int .i64 20
  e1 : L 1 = true → s 12 = .int .i64 20
  e3 : L 3 = true → s 3 = .int .i64 20
  b2_0 : L 2 = true → L 0 = true
  b3_1 : L 3 = true → L 1 = true
set_option maxRecDepth 100000 in
set_option maxHeartbeats 4000000 in
theorem taw_Const_bad (sp : Int × Int) (hs : ¬ okS sp) (w : World) : Calls Try.prog 22 #[sval sp] w fun e w' => e = .returned (.tuple #[mval (xConst sp).1, .int .i64 (xConst sp).2]) ∧ Below w.heap.size w w' := by
  have HX := Lib.hid (show xConst sp = _ from if_neg hs)
  have HOK := Lib.hid hs
  clear hs
  rw [show sval sp = .agg #[.int .i64 sp.1, .int .i64 sp.2] from rfl]
  go_enter Try.func22, Try.ntmps22
  refine wp_seq_k fun K0 hK0 => ?_
  have HK0 := Lib.hid hK0
  clear hK0
  go_wp2_with fail
  obtain ⟨b, hb⟩ : ∃ b, w.heap.size = b := ⟨_, rfl⟩
  refine HK0.out _ _ ?_
  refine wp_world (fun V => Mut [] w V ∧ V.heap[b]? = some (cobj 25 [sp]) ∧ V.heap[b + 1]? = some (cobj 28 zeroM)) ?_
    (by
      rw [← hb]
      exact ⟨(((Mut.refl _ _).alloc _).alloc _), heap_up _ (heap_at (cobj 25 [sp]) (by simp)), heap_at (cobj 28 zeroM) (by simp)⟩)
  rintro V ⟨hm, hHS, hHR⟩
  rw [hb]
  have HM := Lib.hid hm
  have HBW := Lib.hid hb
  have HLT := Lib.hid trivial
  have HS := Lib.hid hHS
  have HR := Lib.hid hHR
  clear hm hHS hHR hb HK0
  refine wp_seq_k fun KA hKA => ?_
  have HKA := Lib.hid hKA
  clear hKA
  refine wp_seq_k fun K1 hK1 => ?_
  have HK1 := Lib.hid hK1
  clear hK1
  refine wp_cut_mergeP [none, none, none, some 3, some 4, some 5, none, none, none, none, none, none, none] (fun s w' => Mut [] V w' ∧ s 3 = .int .i64 20) (fun _ _ => False) ?_ ?_ ?_
  · intro Q2 hQ2 hP2
    refine (wpIn_wide (n := 0)).1 (show Code.wpIn (G none) 0 _ _ _ _ _ from ?_)
    refine wp_region_G (b := false) (Pn := (fun _ _ => False)) (Cobad1 V sp b) (by kernel_rfl) (by kernel_rfl) ?_ ?_ ?_ ?_
    · exact ⟨Mut.start _ false _, fun h => absurd h Bool.false_ne_true, fun h => absurd h Bool.false_ne_true, fun h => absurd h Bool.false_ne_true⟩
    · refine AllSP.cons ?_ (AllSP.cons ?_ (AllSP.cons ?_ AllSP.nil))
      · intro L s w2 h hk hd hn
        have s1 : s 1 = _ := hk 1 (by kernel_rfl)
        have kb := ((h.mu.same _ ((Array.getElem?_eq_some_iff.1 HS.out).1) (by simp)).trans HS.out)
        refine stepSP rfl fun K hK => ?_
        exact rs_load rfl s1 (sp_load (p := 0) kb (by simp)) (hK _ _ { h with e0 := fun _ => rfl })
      · intro L s w2 h hk hd hn
        have s4 := h.e0 hd.1
        refine stepSP rfl fun K hK => ?_
        go_simp
        refine (span_Check_bad HOK.out _).mono ?_
        rintro e w3 ⟨rfl, hb⟩
        exact .inl ⟨_, rfl, hK _ _ { h with mu := h.mu.step hb, e1 := fun _ => rfl }⟩
      · intro L s w2 h hk hd hn
        have s5 := h.e1 hd.1
        refine stepSP rfl fun K hK => ?_
        exact rs_assign rfl s5 (hK _ _ { h with e2 := fun _ => rfl })
    · intro L s w2 h hk hl
      refine (congrArg (fun a => Q2 .normal a w2) (?_ : _ = _)).mpr (hQ2 s w2 (⟨h.mu, h.e2 (hl 2 (by decide))⟩))
      exact frame_eq hk (by kernel_rfl) (by kernel_rfl)
    · intro c s w2 hc
      exact hc.elim
  rotate_left
  · rintro _ _ _ h
    exact h.elim
  rintro s1 V ⟨h1, k3⟩
  simp only [mergeL]
  rw [k3]
  replace HS := Lib.hid ((h1.same _ (lt_of_block HS.out) (by simp)).trans HS.out)
  replace HR := Lib.hid ((h1.same _ (lt_of_block HR.out) (by simp)).trans HR.out)
  replace HM := Lib.hid (HM.out.stepM h1 (by simp))
  clear h1 k3
  refine HK1.out _ _ ?_
  go_wp2_with fail
  refine HKA.out _ _ ?_
  refine wp_seq_k fun K4 hK4 => ?_
  have HK4 := Lib.hid hK4
  clear hK4
  refine wp_cut_mergeP [none, none, none, some 3, none, none, none, none, none, none, none, some 11, some 12] (fun s w' => Mut [b + 1] V w' ∧ w'.heap[b + 1]? = some (cobj 28 zeroM) ∧ s 3 = .int .i64 20) (fun _ _ => False) ?_ ?_ ?_
  · intro Q2 hQ2 hP2
    refine (wpIn_wide (n := 0)).1 (show Code.wpIn (G none) 0 _ _ _ _ _ from ?_)
    refine wp_region_G (b := false) (Pn := (fun _ _ => False)) (Cobad4 V sp b) (by kernel_rfl) (by kernel_rfl) ?_ ?_ ?_ ?_
    · exact ⟨Mut.start _ false _, fun _ => HR.out, fun h => absurd h Bool.false_ne_true, fun h => absurd h Bool.false_ne_true, fun _ => rfl, fun h => absurd h Bool.false_ne_true, fun h => absurd h Bool.false_ne_true, fun h => absurd h Bool.false_ne_true, fun h => absurd h Bool.false_ne_true⟩
    · refine AllSP.cons ?_ (AllSP.cons ?_ (AllSP.cons ?_ (AllSP.cons ?_ AllSP.nil)))
      · intro L s w2 h hk hd hn
        have s2 : s 2 = _ := hk 2 (by kernel_rfl)
        have kb := (h.kt_r (bF h.b2_0 hn))
        refine stepSP rfl fun K hK => ?_
        exact rs_load rfl s2 (md_load kb rfl) (hK _ _ { h with e0 := fun _ => rfl, b2_0 := fun _ => rfl })
      · intro L s w2 h hk hd hn
        have s3 := h.o3 (bF h.b3_1 hn)
        refine stepSP rfl fun K hK => ?_
        exact rs_move rfl s3 (hK _ _ { h with e1 := fun _ => rfl, b3_1 := fun _ => rfl })
      · intro L s w2 h hk hd hn
        have s2 : s 2 = _ := hk 2 (by kernel_rfl)
        have s11 := h.e0 hd.1
        have kb := h.kt_r hn
        refine stepSP rfl fun K hK => ?_
        exact rs_store rfl s2 s11 (md_store kb rfl _ rfl) (hK _ _ { h with mu := h.mu.put (List.Mem.head _) _, kt_r := nF, kr_r := fun _ => pH kb, b2_0 := fun _ => hd.1 })
      · intro L s w2 h hk hd hn
        have s12 := h.e1 hd.1
        refine stepSP rfl fun K hK => ?_
        exact rs_assign rfl s12 (hK _ _ { h with e3 := fun _ => rfl, o3 := nF, b3_1 := fun _ => hd.1 })
    · intro L s w2 h hk hl
      refine (congrArg (fun a => Q2 .normal a w2) (?_ : _ = _)).mpr (hQ2 s w2 (⟨h.mu, h.kr_r (hl 2 (by decide)), h.e3 (hl 3 (by decide))⟩))
      exact frame_eq hk (by kernel_rfl) (by kernel_rfl)
    · intro c s w2 hc
      exact hc.elim
  rotate_left
  · rintro _ _ _ h
    exact h.elim
  rintro s4 V ⟨h1, c_r, k3⟩
  simp only [mergeL]
  rw [k3]
  replace HS := Lib.hid ((h1.same _ (lt_of_block HS.out) (notin1 (by have := HLT.out; omega))).trans HS.out)
  replace HR := Lib.hid c_r
  replace HM := Lib.hid (HM.out.stepM h1 (by have := HBW.out; have := HLT.out; intro x hx; simp at hx; right; omega))
  clear h1 c_r k3
  refine HK4.out _ _ ?_
  rw [HX.out]
  refine wp_ret ?_
  exact bodyPost_ret (v := .tuple #[mval (zeroM), .int .i64 20]) (res_slot Try.results22 rfl rfl (md_loadVar HR.out rfl)) rfl ⟨rfl, by rw [← HBW.out]; exact HM.out.to0⟩
theorem taw_Const (sp : Int × Int) (w : World) : Calls Try.prog 22 #[sval sp] w fun e w' => e = .returned (.tuple #[mval (xConst sp).1, .int .i64 (xConst sp).2]) ∧ Below w.heap.size w w' := by
  by_cases h : okS sp
  · exact taw_Const_ok sp h w
  · exact taw_Const_bad sp h w
structure Ckw1 (V : World) (A : Nat) (a : List (Int × Int)) (b : Nat) (L : Nat → Bool) (s : Nat → Value) (w : World) : Prop where
  mu : Mut [] V w
  e0 : L 0 = true → s 2 = mval a
  nb : L 1 = true → ∃ q : Nat, s 3 = .slice (some ⟨q, 0, none⟩) 1 1 ∧ w.heap[q]? = some (cobj 28 (a))
  z2 : L 2 = true → (tRight (a)).2 = 0
set_option maxRecDepth 100000 in
set_option maxHeartbeats 4000000 in
theorem tay_check1 (A : Nat) (a : List (Int × Int)) (ha : a.length = 22) (w : World) (h : w.heap[A]? = some (cobj 28 a)) :
    Calls Try.prog 58 #[.pointer (some ⟨A, 0, none⟩)] w fun e w' => Ends intV (thenE (0 : Int) (tRight a) fun _ => ((0 : Int), 0)) e ∧ Below w.heap.size w w' := by
  have HL := Lib.hid ha
  have HA := Lib.hid h
  clear ha h
  go_enter Try.func58, Try.ntmps58
  refine wp_seq_k fun K0 hK0 => ?_
  have HK0 := Lib.hid hK0
  clear hK0
  go_wp2_with fail
  refine HK0.out _ _ ?_
  obtain ⟨b, hb⟩ : ∃ b, w.heap.size = b := ⟨_, rfl⟩
  refine wp_world (fun V => Mut [] w V ∧ V.heap[A]? = some (cobj 28 a)) ?_ ⟨Mut.refl _ _, HA.out⟩
  rintro V ⟨hm, hA⟩
  rw [hb]
  have HM := Lib.hid hm
  have HBW := Lib.hid hb
  have HLT := Lib.hid (show A < b from hb ▸ lt_of_block HA.out)
  replace HA := Lib.hid hA
  have HP0 := Lib.hid (show (thenE (0 : Int) (tRight a) fun _ => ((0 : Int), 0)) = (thenE (0 : Int) (tRight a) fun _ => ((0 : Int), 0)) from rfl)
  clear hm hA hb HK0
  refine wp_seq_k fun K1 hK1 => ?_
  have HK1 := Lib.hid hK1
  clear hK1
  refine wp_cut_mergeP [none, none, some 2, some 3, some 4] (fun _ w' => Mut [] V w' ∧ (tRight (a)).2 = 0) (fun ch w' => ch = brk (fstE [(tRight (a)).2]) ∧ ¬ fstE [(tRight (a)).2] = 0 ∧ Mut [] V w') ?_ ?_ ?_
  · intro Q2 hQ2 hP2
    refine (wpIn_wide (n := 0)).1 (show Code.wpIn (G none) 0 _ _ _ _ _ from ?_)
    refine wp_region_G (b := false) (Pn := (fun ch w' => ch = brk (fstE [(tRight (a)).2]) ∧ ¬ fstE [(tRight (a)).2] = 0 ∧ Mut [] V w')) (Ckw1 V A a b) (by kernel_rfl) (by kernel_rfl) ?_ ?_ ?_ ?_
    · exact ⟨Mut.start _ false _, fun h => absurd h Bool.false_ne_true, fun h => absurd h Bool.false_ne_true, fun h => absurd h Bool.false_ne_true⟩
    · refine AllSP.cons ?_ (AllSP.cons ?_ (AllSP.cons ?_ AllSP.nil))
      · intro L s w2 h hk hd hn
        have s0 : s 0 = _ := hk 0 (by kernel_rfl)
        have kb := ((h.mu.same _ ((Array.getElem?_eq_some_iff.1 HA.out).1) (by simp)).trans HA.out)
        refine stepSP rfl fun K hK => ?_
        exact rs_load rfl s0 (md_load kb HL.out) (hK _ _ { h with e0 := fun _ => rfl })
      · intro L s w2 h hk hd hn
        have s2 := h.e0 hd.1
        refine stepSP rfl fun K hK => ?_
        exact rs_build rfl (by simp [evS_tmp, s2]) (bs_one HL.out _) (hK _ _ { h with mu := h.mu.alloc _, nb := fun _ => ⟨_, rfl, heap_at _ rfl⟩ })
      · intro L s w2 h hk hd hn
        obtain ⟨q, s3, hq⟩ := h.nb hd.1
        refine stepSP rfl fun K hK => ?_
        go_simp
        refine (tm_right (a) 1 (by simp [HL.out]) (by omega) q 1 _ hq).mono ?_
        rintro e w3 ⟨⟨hz, v, rfl⟩ | ⟨hz, rfl⟩, hb⟩
        · exact .inl ⟨_, rfl, hK _ _ { h with mu := h.mu.step hb, nb := fun a => let ⟨q, h1, h2⟩ := h.nb a; ⟨q, h1, (hb.block _ (lt_of_block h2)).trans h2⟩, z2 := fun _ => hz }⟩
        · exact .inr ⟨_, rfl, congrArg brk (show (tRight (a)).2 = fstE [(tRight (a)).2] from (by rw [fstE_1 (show ¬ (tRight (a)).2 = 0 from hz)])), (show ¬ fstE [(tRight (a)).2] = 0 from (by rw [fstE_1 (show ¬ (tRight (a)).2 = 0 from hz)]; exact hz)), h.mu.step hb⟩
    · intro L s w2 h hk hl
      refine (congrArg (fun a => Q2 .normal a w2) (?_ : _ = _)).mpr (hQ2 s w2 (⟨h.mu, h.z2 (hl 2 (by decide))⟩))
      exact frame_eq hk (by kernel_rfl) (by kernel_rfl)
    · intro c s w2 hc
      exact hP2 _ _ _ hc
  rotate_left
  · rintro e l'' w' ⟨rfl, hz, h2⟩
    have he : (thenE (0 : Int) (tRight a) fun _ => ((0 : Int), 0)).2 = fstE [(tRight (a)).2] := by
      have h := hz
      rw [HP0.out]
      first | exact thenE_fst1 h | exact fstE_one.symm | exact fstE_one.symm
    rw [← he] at hz ⊢
    exact ⟨rfl, .inr ⟨hz, rfl⟩, (by rw [← HBW.out]; exact (HM.out.stepM h2 (by simp)).to0)⟩
  rintro s1 V ⟨h1, z1⟩
  simp only [mergeL]
  replace HA := Lib.hid ((h1.same _ (lt_of_block HA.out) (by simp)).trans HA.out)
  have HP1 := Lib.hid (show (thenE (0 : Int) (tRight a) fun _ => ((0 : Int), 0)) = _ from by rw [HP0.out, thenE_ok z1])
  replace HM := Lib.hid (HM.out.stepM h1 (by simp))
  clear h1 z1
  refine HK1.out _ _ ?_
  refine wp_seq_k fun K2 hK2 => ?_
  have HK2 := Lib.hid hK2
  clear hK2
  go_wp2_with fail
  refine HK2.out _ _ ?_
  refine wp_ret ?_
  exact bodyPost_ret (v := .int .i64 0) (by simp [results, Try.results58, go_sem]) rfl ⟨.inl ⟨by rw [HP1.out], by rw [HP1.out]⟩, by rw [← HBW.out]; exact HM.out.to0⟩
structure Ckx1 (V : World) (a : List (Int × Int)) (b : Nat) (L : Nat → Bool) (s : Nat → Value) (w : World) : Prop where
  mu : Mut [] V w
  e0 : L 0 = true → s 6 = .func (.func 58) #[] #[.pointer (some ⟨b, 0, none⟩)]
  e1 : L 1 = true → s 7 = .tuple #[intV (((orZ (0 : Int) (thenE (0 : Int) (tRight a) fun _ => ((0 : Int), 0))), (thenE (0 : Int) (tRight a) fun _ => ((0 : Int), 0)).2)).1, .int .i64 (((orZ (0 : Int) (thenE (0 : Int) (tRight a) fun _ => ((0 : Int), 0))), (thenE (0 : Int) (tRight a) fun _ => ((0 : Int), 0)).2)).2]
  e2 : L 2 = true → s 5 = .tuple #[intV (((orZ (0 : Int) (thenE (0 : Int) (tRight a) fun _ => ((0 : Int), 0))), (thenE (0 : Int) (tRight a) fun _ => ((0 : Int), 0)).2)).1, .int .i64 (((orZ (0 : Int) (thenE (0 : Int) (tRight a) fun _ => ((0 : Int), 0))), (thenE (0 : Int) (tRight a) fun _ => ((0 : Int), 0)).2)).2]
  e3 : L 3 = true → s 8 = .int .i64 ((((orZ (0 : Int) (thenE (0 : Int) (tRight a) fun _ => ((0 : Int), 0))), (thenE (0 : Int) (tRight a) fun _ => ((0 : Int), 0)).2)).1)
  e4 : L 4 = true → s 9 = .int .i64 ((((orZ (0 : Int) (thenE (0 : Int) (tRight a) fun _ => ((0 : Int), 0))), (thenE (0 : Int) (tRight a) fun _ => ((0 : Int), 0)).2)).2)
  e5 : L 5 = true → s 3 = .int .i64 ((((orZ (0 : Int) (thenE (0 : Int) (tRight a) fun _ => ((0 : Int), 0))), (thenE (0 : Int) (tRight a) fun _ => ((0 : Int), 0)).2)).1)
  e6 : L 6 = true → s 4 = .int .i64 ((((orZ (0 : Int) (thenE (0 : Int) (tRight a) fun _ => ((0 : Int), 0))), (thenE (0 : Int) (tRight a) fun _ => ((0 : Int), 0)).2)).2)
/-- The error of a model that is not right. -/
def xCheck (a : List (Int × Int)) : Int := (tRight a).2
set_option maxRecDepth 100000 in
set_option maxHeartbeats 4000000 in
theorem taw_Check (a : List (Int × Int)) (ha : a.length = 22) (w : World) : Calls Try.prog 18 #[mval a] w fun e w' => e = .returned (.int .i64 (xCheck a)) ∧ Below w.heap.size w w' := by
  have HLa := Lib.hid ha
  have HX := Lib.hid (show (thenE (0 : Int) (tRight a) fun _ => ((0 : Int), 0)).2 = xCheck a from by
    unfold thenE xCheck
    by_cases h : (tRight a).2 = 0
    · rw [if_pos h, h]
    · rw [if_neg h])
  clear ha
  go_enter Try.func18, Try.ntmps18
  refine wp_seq_k fun K0 hK0 => ?_
  have HK0 := Lib.hid hK0
  clear hK0
  go_wp2_with fail
  rename_i xa csa hca
  obtain rfl : (mc a).toArray = csa := Value.agg.inj hca
  clear hca
  obtain ⟨b, hb⟩ : ∃ b, w.heap.size = b := ⟨_, rfl⟩
  refine HK0.out _ _ ?_
  refine wp_world (fun V => Mut [] w V ∧ V.heap[b]? = some (cobj 28 a)) ?_
    (by
      rw [← hb]
      exact ⟨((Mut.refl _ _).alloc _), heap_at (cobj 28 a) (by simp)⟩)
  rintro V ⟨hm, hHBa⟩
  rw [hb]
  have HM := Lib.hid hm
  have HBW := Lib.hid hb
  have HLT := Lib.hid trivial
  have HBa := Lib.hid hHBa
  clear hm hHBa hb HK0
  refine wp_seq_k fun K1 hK1 => ?_
  have HK1 := Lib.hid hK1
  clear hK1
  refine wp_cut_mergeP [none, none, none, some 3, some 4, some 5, some 6, some 7, some 8, some 9, none] (fun s w' => Mut [] V w' ∧ s 4 = .int .i64 ((((orZ (0 : Int) (thenE (0 : Int) (tRight a) fun _ => ((0 : Int), 0))), (thenE (0 : Int) (tRight a) fun _ => ((0 : Int), 0)).2)).2)) (fun _ _ => False) ?_ ?_ ?_
  · intro Q2 hQ2 hP2
    refine (wpIn_wide (n := 0)).1 (show Code.wpIn (G none) 0 _ _ _ _ _ from ?_)
    refine wp_region_G (b := false) (Pn := (fun _ _ => False)) (Ckx1 V a b) (by kernel_rfl) (by kernel_rfl) ?_ ?_ ?_ ?_
    · exact ⟨Mut.start _ false _, fun h => absurd h Bool.false_ne_true, fun h => absurd h Bool.false_ne_true, fun h => absurd h Bool.false_ne_true, fun h => absurd h Bool.false_ne_true, fun h => absurd h Bool.false_ne_true, fun h => absurd h Bool.false_ne_true, fun h => absurd h Bool.false_ne_true⟩
    · refine AllSP.cons ?_ (AllSP.cons ?_ (AllSP.cons ?_ (AllSP.cons ?_ (AllSP.cons ?_ (AllSP.cons ?_ (AllSP.cons ?_ AllSP.nil))))))
      · intro L s w2 h hk hd hn
        have s1 : s 1 = _ := hk 1 (by kernel_rfl)
        refine stepSP rfl fun K hK => ?_
        exact rs_makeFunc rfl (cs := #[.pointer (some ⟨b, 0, none⟩)]) (by simp [evS_tmp, s1]) (hK _ _ { h with e0 := fun _ => rfl })
      · intro L s w2 h hk hd hn
        have s6 := h.e0 hd.1
        refine stepSP rfl fun K hK => ?_
        go_simp
        have kb0 := (h.mu.same _ (lt_of_block HBa.out) (by simp)).trans HBa.out
        refine (tay_caught_i 58 #[.pointer (some ⟨b, 0, none⟩)] (thenE (0 : Int) (tRight a) fun _ => ((0 : Int), 0)) _ (fun W => enters_of Try.func58 (by kernel_rfl) rfl _ W) (fun W hB => tay_check1 b a HLa.out W ((hB.block _ (lt_of_block kb0)).trans kb0))).mono ?_
        rintro e w3 ⟨rfl, hb⟩
        exact .inl ⟨_, rfl, hK _ _ { h with mu := h.mu.step hb, e1 := fun _ => rfl }⟩
      · intro L s w2 h hk hd hn
        have s7 := h.e1 hd.1
        refine stepSP rfl fun K hK => ?_
        exact rs_move rfl s7 (hK _ _ { h with e2 := fun _ => rfl })
      · intro L s w2 h hk hd hn
        have s5 := h.e2 hd.1
        refine stepSP rfl fun K hK => ?_
        exact rs_extract rfl s5 rfl (hK _ _ { h with e3 := fun _ => rfl })
      · intro L s w2 h hk hd hn
        have s5 := h.e2 hd.1
        refine stepSP rfl fun K hK => ?_
        exact rs_extract rfl s5 rfl (hK _ _ { h with e4 := fun _ => rfl })
      · intro L s w2 h hk hd hn
        have s8 := h.e3 hd.1
        refine stepSP rfl fun K hK => ?_
        exact rs_assign rfl s8 (hK _ _ { h with e5 := fun _ => rfl })
      · intro L s w2 h hk hd hn
        have s9 := h.e4 hd.1
        refine stepSP rfl fun K hK => ?_
        exact rs_assign rfl s9 (hK _ _ { h with e6 := fun _ => rfl })
    · intro L s w2 h hk hl
      refine (congrArg (fun a => Q2 .normal a w2) (?_ : _ = _)).mpr (hQ2 s w2 (⟨h.mu, h.e6 (hl 6 (by decide))⟩))
      exact frame_eq hk (by kernel_rfl) (by kernel_rfl)
    · intro c s w2 hc
      exact hc.elim
  rotate_left
  · rintro _ _ _ h
    exact h.elim
  rintro s1 V ⟨h1, k4⟩
  simp only [mergeL]
  rw [k4]
  replace HBa := Lib.hid ((h1.same _ (lt_of_block HBa.out) (by simp)).trans HBa.out)
  replace HM := Lib.hid (HM.out.stepM h1 (by simp))
  clear h1 k4
  refine HK1.out _ _ ?_
  refine wp_seq_k fun K2 hK2 => ?_
  have HK2 := Lib.hid hK2
  clear hK2
  go_wp2_with fail
  refine HK2.out _ _ ?_
  refine wp_ret ?_
  exact bodyPost_ret (v := .int .i64 (xCheck a)) (by simp [results, Try.results18, go_sem]; exact HX.out) rfl ⟨rfl, by rw [← HBW.out]; exact HM.out.to0⟩
end Go.Proofs.Ythhkcfpljgdnhaa
