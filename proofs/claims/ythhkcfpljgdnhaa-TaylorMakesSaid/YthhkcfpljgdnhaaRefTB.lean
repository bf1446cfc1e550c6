/- The reference of layer 21: Place, Const, U, V. Printed by wip/genRF.py. -/
import Derived.Test.YthhkcfpljgdnhaaRefTA
import Derived.Test.YthhkcfpljgdnhaaTayP
import Derived.Test.YthhkcfpljgdnhaaTayY
namespace Go.Proofs.Ythhkcfpljgdnhaa
open Go.RowKit Mnc
attribute [local go_sem] RunSP_value RunSP_skip RunSP_enter evS_tmp evS_const evS_global evS_func
theorem rf_Place (x y : Int) (w : World) : Calls Try.prog 21 #[.int .i64 x, .int .i64 y] w fun e w' => e = .returned (.tuple #[.int .i64 (xPlace x y).1, .int .i64 (xPlace x y).2]) ∧ Below w.heap.size w w' := by
  by_cases h : 0 ≤ x ∧ 0 ≤ y ∧ x + y ≤ 5
  · obtain ⟨i, rfl⟩ : ∃ i : Nat, x = i := ⟨x.toNat, by omega⟩
    obtain ⟨j, rfl⟩ : ∃ j : Nat, y = j := ⟨y.toNat, by omega⟩
    have hij : i + j ≤ 5 := by omega
    rw [show xPlace i j = (((tPlace i j : Nat) : Int), 0) by unfold xPlace; rw [if_pos h]; rfl]
    have h1 : decide ((i : Int) < 0) = false := decide_eq_false (by omega)
    have h2 : decide ((j : Int) < 0) = false := decide_eq_false (by omega)
    have h3 : decide ((5 : Int) < (i : Int)) = false := by simp; omega
    have h4 : decide ((5 : Int) < (j : Int)) = false := by simp; omega
    have h5 : decide ((5 : Int) < (i : Int) + (j : Int)) = false := by simp; omega
    have i0 : (0 : Int) ≤ i := by omega
    have i1 : (i : Int) ≤ 5 := by omega
    have j0 : (0 : Int) ≤ j := by omega
    have j1 : (j : Int) ≤ 5 := by omega
    clear h
    go_enter Try.func21, Try.ntmps21
    go_wp2_with fail
    refine (rf_place i j (by omega) _).mono ?_
    rintro e w2 ⟨rfl, hb⟩
    go_wp2_with fail
    exact bodyPost_ret (v := .tuple #[.int .i64 ((tPlace i j : Nat) : Int), .int .i64 0]) (by simp [results, Try.results21, go_sem]) rfl ⟨rfl, hb⟩
  · rw [show xPlace x y = (0, 2) from if_neg h]
    have HN := Lib.hid h
    clear h
    go_enter Try.func21, Try.ntmps21
    by_cases h1 : x < 0
    · go_wp2_with fail
      exact bodyPost_ret (v := .tuple #[.int .i64 0, .int .i64 2]) (by simp [results, Try.results21, go_sem]) rfl ⟨rfl, Below.refl _ _⟩
    by_cases h2 : y < 0
    · go_wp2_with fail
      exact bodyPost_ret (v := .tuple #[.int .i64 0, .int .i64 2]) (by simp [results, Try.results21, go_sem]) rfl ⟨rfl, Below.refl _ _⟩
    by_cases h3 : 5 < x
    · go_wp2_with fail
      exact bodyPost_ret (v := .tuple #[.int .i64 0, .int .i64 2]) (by simp [results, Try.results21, go_sem]) rfl ⟨rfl, Below.refl _ _⟩
    by_cases h4 : 5 < y
    · go_wp2_with fail
      exact bodyPost_ret (v := .tuple #[.int .i64 0, .int .i64 2]) (by simp [results, Try.results21, go_sem]) rfl ⟨rfl, Below.refl _ _⟩
    have h5 : 5 < x + y := by
      have := HN.out
      omega
    have x0 : 0 ≤ x := by omega
    have x1 : x ≤ 5 := by omega
    have y0 : 0 ≤ y := by omega
    have y1 : y ≤ 5 := by omega
    go_wp2_with fail
    exact bodyPost_ret (v := .tuple #[.int .i64 0, .int .i64 2]) (by simp [results, Try.results21, go_sem]) rfl ⟨rfl, Below.refl _ _⟩
structure RvU2 (V : World) (b : Nat) (g0 : Nat) (L : Nat → Bool) (s : Nat → Value) (w : World) : Prop where
  mu : Mut [g0] V w
  kt_a : L 4 = false → w.heap[g0]? = some (cobj 28 zeroM)
  kr_a : L 4 = true → w.heap[g0]? = some (cobj 28 (zeroM.set (tPlace 1 0) (4294967296, 4294967296)))
  e0 : L 0 = true → s 2 = .int .i64 ((tPlace 1 0 : Nat) : Int)
  e1 : L 1 = true → s 3 = sval (4294967296, 4294967296)
  e2 : L 2 = true → s 4 = .pointer (some ⟨g0, 0, none⟩)
  e3 : L 3 = true → s 5 = .pointer (some ⟨g0, (tPlace 1 0) * 2, none⟩)
structure RvU3 (V : World) (b : Nat) (g0 : Nat) (L : Nat → Bool) (s : Nat → Value) (w : World) : Prop where
  mu : Mut [b] V w
  kt_r : L 1 = false → w.heap[b]? = some (cobj 28 zeroM)
  kr_r : L 1 = true → w.heap[b]? = some (cobj 28 (zeroM.set (tPlace 1 0) (4294967296, 4294967296)))
  e0 : L 0 = true → s 6 = mval (zeroM.set (tPlace 1 0) (4294967296, 4294967296))
set_option maxRecDepth 100000 in
set_option maxHeartbeats 4000000 in
theorem rf_U (w : World) : Calls Try.prog 26 #[] w fun e w' => e = .returned (mval xU) ∧ Below w.heap.size w w' := by
  go_enter Try.func26, Try.ntmps26
  refine wp_seq_k fun K0 hK0 => ?_
  have HK0 := Lib.hid hK0
  clear hK0
  go_wp2_with fail
  obtain ⟨b, hb⟩ : ∃ b, w.heap.size = b := ⟨_, rfl⟩
  refine HK0.out _ _ ?_
  refine wp_world (fun V => Mut [] w V ∧ V.heap[b]? = some (cobj 28 zeroM)) ?_
    (by
      rw [← hb]
      exact ⟨((Mut.refl _ _).alloc _), heap_at (cobj 28 zeroM) (by simp)⟩)
  rintro V ⟨hm, hHR⟩
  rw [hb]
  have HM := Lib.hid hm
  have HBW := Lib.hid hb
  have HLT := Lib.hid trivial
  have HR := Lib.hid hHR
  clear hm hHR hb HK0
  refine wp_seq_k fun K1 hK1 => ?_
  have HK1 := Lib.hid hK1
  clear hK1
  go_wp2_with fail
  refine HK1.out _ _ ?_
  obtain ⟨g0, hg⟩ : ∃ g, V.heap.size = g := ⟨_, rfl⟩
  refine wp_world (fun V2 => Mut [] w V2 ∧ b ≤ g0 ∧ V2.heap[b]? = some (cobj 28 zeroM) ∧ V2.heap[g0]? = some (cobj 28 zeroM)) ?_
    (by
      rw [← hg]
      exact ⟨HM.out.alloc _, by have := HM.out.size; have := HBW.out; omega, heap_up _ HR.out, heap_at (cobj 28 zeroM) (by simp)⟩)
  replace HLT := Lib.hid (show b ≤ g0 ∧ b < g0 from by
    have hlt := HLT.out
    have hbw := HM.out.size
    have hbw2 := HBW.out
    have := lt_of_block HR.out
    omega)
  rintro V2 ⟨hm, -, qHR, hnew⟩
  rw [hg]
  replace HM := Lib.hid hm
  replace HR := Lib.hid qHR
  have HA := Lib.hid hnew
  clear hm hnew hg qHR HK1
  clear V
  rename World => V
  refine wp_seq_k fun K2 hK2 => ?_
  have HK2 := Lib.hid hK2
  clear hK2
  refine wp_cut_mergeP [none, none, some 2, some 3, some 4, some 5, none] (fun _ w' => Mut [g0] V w' ∧ w'.heap[g0]? = some (cobj 28 (zeroM.set (tPlace 1 0) (4294967296, 4294967296)))) (fun _ _ => False) ?_ ?_ ?_
  · intro Q2 hQ2 hP2
    refine (wpIn_wide (n := 0)).1 (show Code.wpIn (G none) 0 _ _ _ _ _ from ?_)
    refine wp_region_G (b := false) (Pn := (fun _ _ => False)) (RvU2 V b g0) (by kernel_rfl) (by kernel_rfl) ?_ ?_ ?_ ?_
    · exact ⟨Mut.start _ false _, fun _ => HA.out, fun h => absurd h Bool.false_ne_true, fun h => absurd h Bool.false_ne_true, fun h => absurd h Bool.false_ne_true, fun h => absurd h Bool.false_ne_true, fun h => absurd h Bool.false_ne_true⟩
    · refine AllSP.cons ?_ (AllSP.cons ?_ (AllSP.cons ?_ (AllSP.cons ?_ (AllSP.cons ?_ AllSP.nil))))
      · intro L s w2 h hk hd hn
        refine stepSP rfl fun K hK => ?_
        go_simp
        refine (rf_place 1 0 (by omega) _).mono ?_
        rintro e w3 ⟨rfl, hb⟩
        exact .inl ⟨_, rfl, hK _ _ { h with mu := h.mu.step hb, kt_a := fun a => bk hb (h.kt_a a), kr_a := fun a => bk hb (h.kr_a a), e0 := fun _ => rfl }⟩
      · intro L s w2 h hk hd hn
        refine stepSP rfl fun K hK => ?_
        go_simp
        refine (rf_point 4294967296 _).mono ?_
        rintro e w3 ⟨rfl, hb⟩
        exact .inl ⟨_, rfl, hK _ _ { h with mu := h.mu.step hb, kt_a := fun a => bk hb (h.kt_a a), kr_a := fun a => bk hb (h.kr_a a), e1 := fun _ => rfl }⟩
      · intro L s w2 h hk hd hn
        have s1 : s 1 = _ := hk 1 (by kernel_rfl)
        refine stepSP rfl fun K hK => ?_
        exact rs_field rfl s1 (fl_model0 _ _) (hK _ _ { h with e2 := fun _ => rfl })
      · intro L s w2 h hk hd hn
        have s4 := h.e2 hd.1
        have s2 := h.e0 hd.2.1
        refine stepSP rfl fun K hK => ?_
        exact rs_index rfl s4 s2 (ix_model _ (tPlace 1 0) (by decide)) (hK _ _ { h with e3 := fun _ => rfl })
      · intro L s w2 h hk hd hn
        have s5 := h.e3 hd.1
        have s3 := h.e1 hd.2.1
        have kb := h.kt_a hn
        refine stepSP rfl fun K hK => ?_
        exact rs_store rfl s5 s3 (sp_store (p := tPlace 1 0) kb (by decide) (4294967296, 4294967296)) (hK _ _ { h with mu := h.mu.put (List.Mem.head _) _, kt_a := nF, kr_a := fun _ => pH kb })
    · intro L s w2 h hk hl
      refine (congrArg (fun a => Q2 .normal a w2) (?_ : _ = _)).mpr (hQ2 s w2 (⟨h.mu, h.kr_a (hl 4 (by decide))⟩))
      exact frame_eq hk (by kernel_rfl) (by kernel_rfl)
    · intro c s w2 hc
      exact hc.elim
  rotate_left
  · rintro _ _ _ h
    exact h.elim
  rintro s2 V ⟨h1, c_a⟩
  simp only [mergeL]
  replace HR := Lib.hid ((h1.same _ (lt_of_block HR.out) (notin1 (by have := HLT.out; omega))).trans HR.out)
  replace HA := Lib.hid c_a
  replace HM := Lib.hid (HM.out.stepM h1 (by have := HBW.out; have := HLT.out; intro x hx; simp at hx; right; omega))
  clear h1 c_a
  refine HK2.out _ _ ?_
  refine wp_seq_k fun K3 hK3 => ?_
  have HK3 := Lib.hid hK3
  clear hK3
  refine wp_cut_mergeP [none, none, none, none, none, none, some 6] (fun _ w' => Mut [b] V w' ∧ w'.heap[b]? = some (cobj 28 (zeroM.set (tPlace 1 0) (4294967296, 4294967296)))) (fun _ _ => False) ?_ ?_ ?_
  · intro Q2 hQ2 hP2
    refine (wpIn_wide (n := 0)).1 (show Code.wpIn (G none) 0 _ _ _ _ _ from ?_)
    refine wp_region_G (b := false) (Pn := (fun _ _ => False)) (RvU3 V b g0) (by kernel_rfl) (by kernel_rfl) ?_ ?_ ?_ ?_
    · exact ⟨Mut.start _ false _, fun _ => HR.out, fun h => absurd h Bool.false_ne_true, fun h => absurd h Bool.false_ne_true⟩
    · refine AllSP.cons ?_ (AllSP.cons ?_ AllSP.nil)
      · intro L s w2 h hk hd hn
        have s1 : s 1 = _ := hk 1 (by kernel_rfl)
        have kb := ((h.mu.same _ ((Array.getElem?_eq_some_iff.1 HA.out).1) (notin1 (by have := HLT.out; omega))).trans HA.out)
        refine stepSP rfl fun K hK => ?_
        exact rs_load rfl s1 (md_load kb (rfl : (zeroM.set (tPlace 1 0) (4294967296, 4294967296)).length = 22)) (hK _ _ { h with e0 := fun _ => rfl })
      · intro L s w2 h hk hd hn
        have s0 : s 0 = _ := hk 0 (by kernel_rfl)
        have s6 := h.e0 hd.1
        have kb := h.kt_r hn
        refine stepSP rfl fun K hK => ?_
        exact rs_store rfl s0 s6 (md_store kb rfl _ (rfl : (zeroM.set (tPlace 1 0) (4294967296, 4294967296)).length = 22)) (hK _ _ { h with mu := h.mu.put (List.Mem.head _) _, kt_r := nF, kr_r := fun _ => pH kb })
    · intro L s w2 h hk hl
      refine (congrArg (fun a => Q2 .normal a w2) (?_ : _ = _)).mpr (hQ2 s w2 (⟨h.mu, h.kr_r (hl 1 (by decide))⟩))
      exact frame_eq hk (by kernel_rfl) (by kernel_rfl)
    · intro c s w2 hc
      exact hc.elim
  rotate_left
  · rintro _ _ _ h
    exact h.elim
  rintro s3 V ⟨h1, c_r⟩
  simp only [mergeL]
  replace HR := Lib.hid c_r
  replace HA := Lib.hid ((h1.same _ (lt_of_block HA.out) (notin1 (by have := HLT.out; omega))).trans HA.out)
  replace HM := Lib.hid (HM.out.stepM h1 (by have := HBW.out; have := HLT.out; intro x hx; simp at hx; right; omega))
  clear h1 c_r
  refine HK3.out _ _ ?_
  refine wp_ret ?_
  exact bodyPost_ret (v := mval xU) (res_model Try.results26 rfl (md_loadVar HR.out (show (zeroM.set (tPlace 1 0) (4294967296, 4294967296)).length = 22 from rfl))) rfl ⟨rfl, by rw [← HBW.out]; exact HM.out.to0⟩
structure RvV2 (V : World) (b : Nat) (g0 : Nat) (L : Nat → Bool) (s : Nat → Value) (w : World) : Prop where
  mu : Mut [g0] V w
  kt_a : L 4 = false → w.heap[g0]? = some (cobj 28 zeroM)
  kr_a : L 4 = true → w.heap[g0]? = some (cobj 28 (zeroM.set (tPlace 0 1) (4294967296, 4294967296)))
  e0 : L 0 = true → s 2 = .int .i64 ((tPlace 0 1 : Nat) : Int)
  e1 : L 1 = true → s 3 = sval (4294967296, 4294967296)
  e2 : L 2 = true → s 4 = .pointer (some ⟨g0, 0, none⟩)
  e3 : L 3 = true → s 5 = .pointer (some ⟨g0, (tPlace 0 1) * 2, none⟩)
structure RvV3 (V : World) (b : Nat) (g0 : Nat) (L : Nat → Bool) (s : Nat → Value) (w : World) : Prop where
  mu : Mut [b] V w
  kt_r : L 1 = false → w.heap[b]? = some (cobj 28 zeroM)
  kr_r : L 1 = true → w.heap[b]? = some (cobj 28 (zeroM.set (tPlace 0 1) (4294967296, 4294967296)))
  e0 : L 0 = true → s 6 = mval (zeroM.set (tPlace 0 1) (4294967296, 4294967296))
set_option maxRecDepth 100000 in
set_option maxHeartbeats 4000000 in
theorem rf_V (w : World) : Calls Try.prog 28 #[] w fun e w' => e = .returned (mval xV) ∧ Below w.heap.size w w' := by
  go_enter Try.func28, Try.ntmps28
  refine wp_seq_k fun K0 hK0 => ?_
  have HK0 := Lib.hid hK0
  clear hK0
  go_wp2_with fail
  obtain ⟨b, hb⟩ : ∃ b, w.heap.size = b := ⟨_, rfl⟩
  refine HK0.out _ _ ?_
  refine wp_world (fun V => Mut [] w V ∧ V.heap[b]? = some (cobj 28 zeroM)) ?_
    (by
      rw [← hb]
      exact ⟨((Mut.refl _ _).alloc _), heap_at (cobj 28 zeroM) (by simp)⟩)
  rintro V ⟨hm, hHR⟩
  rw [hb]
  have HM := Lib.hid hm
  have HBW := Lib.hid hb
  have HLT := Lib.hid trivial
  have HR := Lib.hid hHR
  clear hm hHR hb HK0
  refine wp_seq_k fun K1 hK1 => ?_
  have HK1 := Lib.hid hK1
  clear hK1
  go_wp2_with fail
  refine HK1.out _ _ ?_
  obtain ⟨g0, hg⟩ : ∃ g, V.heap.size = g := ⟨_, rfl⟩
  refine wp_world (fun V2 => Mut [] w V2 ∧ b ≤ g0 ∧ V2.heap[b]? = some (cobj 28 zeroM) ∧ V2.heap[g0]? = some (cobj 28 zeroM)) ?_
    (by
      rw [← hg]
      exact ⟨HM.out.alloc _, by have := HM.out.size; have := HBW.out; omega, heap_up _ HR.out, heap_at (cobj 28 zeroM) (by simp)⟩)
  replace HLT := Lib.hid (show b ≤ g0 ∧ b < g0 from by
    have hlt := HLT.out
    have hbw := HM.out.size
    have hbw2 := HBW.out
    have := lt_of_block HR.out
    omega)
  rintro V2 ⟨hm, -, qHR, hnew⟩
  rw [hg]
  replace HM := Lib.hid hm
  replace HR := Lib.hid qHR
  have HA := Lib.hid hnew
  clear hm hnew hg qHR HK1
  clear V
  rename World => V
  refine wp_seq_k fun K2 hK2 => ?_
  have HK2 := Lib.hid hK2
  clear hK2
  refine wp_cut_mergeP [none, none, some 2, some 3, some 4, some 5, none] (fun _ w' => Mut [g0] V w' ∧ w'.heap[g0]? = some (cobj 28 (zeroM.set (tPlace 0 1) (4294967296, 4294967296)))) (fun _ _ => False) ?_ ?_ ?_
  · intro Q2 hQ2 hP2
    refine (wpIn_wide (n := 0)).1 (show Code.wpIn (G none) 0 _ _ _ _ _ from ?_)
    refine wp_region_G (b := false) (Pn := (fun _ _ => False)) (RvV2 V b g0) (by kernel_rfl) (by kernel_rfl) ?_ ?_ ?_ ?_
    · exact ⟨Mut.start _ false _, fun _ => HA.out, fun h => absurd h Bool.false_ne_true, fun h => absurd h Bool.false_ne_true, fun h => absurd h Bool.false_ne_true, fun h => absurd h Bool.false_ne_true, fun h => absurd h Bool.false_ne_true⟩
    · refine AllSP.cons ?_ (AllSP.cons ?_ (AllSP.cons ?_ (AllSP.cons ?_ (AllSP.cons ?_ AllSP.nil))))
      · intro L s w2 h hk hd hn
        refine stepSP rfl fun K hK => ?_
        go_simp
        refine (rf_place 0 1 (by omega) _).mono ?_
        rintro e w3 ⟨rfl, hb⟩
        exact .inl ⟨_, rfl, hK _ _ { h with mu := h.mu.step hb, kt_a := fun a => bk hb (h.kt_a a), kr_a := fun a => bk hb (h.kr_a a), e0 := fun _ => rfl }⟩
      · intro L s w2 h hk hd hn
        refine stepSP rfl fun K hK => ?_
        go_simp
        refine (rf_point 4294967296 _).mono ?_
        rintro e w3 ⟨rfl, hb⟩
        exact .inl ⟨_, rfl, hK _ _ { h with mu := h.mu.step hb, kt_a := fun a => bk hb (h.kt_a a), kr_a := fun a => bk hb (h.kr_a a), e1 := fun _ => rfl }⟩
      · intro L s w2 h hk hd hn
        have s1 : s 1 = _ := hk 1 (by kernel_rfl)
        refine stepSP rfl fun K hK => ?_
        exact rs_field rfl s1 (fl_model0 _ _) (hK _ _ { h with e2 := fun _ => rfl })
      · intro L s w2 h hk hd hn
        have s4 := h.e2 hd.1
        have s2 := h.e0 hd.2.1
        refine stepSP rfl fun K hK => ?_
        exact rs_index rfl s4 s2 (ix_model _ (tPlace 0 1) (by decide)) (hK _ _ { h with e3 := fun _ => rfl })
      · intro L s w2 h hk hd hn
        have s5 := h.e3 hd.1
        have s3 := h.e1 hd.2.1
        have kb := h.kt_a hn
        refine stepSP rfl fun K hK => ?_
        exact rs_store rfl s5 s3 (sp_store (p := tPlace 0 1) kb (by decide) (4294967296, 4294967296)) (hK _ _ { h with mu := h.mu.put (List.Mem.head _) _, kt_a := nF, kr_a := fun _ => pH kb })
    · intro L s w2 h hk hl
      refine (congrArg (fun a => Q2 .normal a w2) (?_ : _ = _)).mpr (hQ2 s w2 (⟨h.mu, h.kr_a (hl 4 (by decide))⟩))
      exact frame_eq hk (by kernel_rfl) (by kernel_rfl)
    · intro c s w2 hc
      exact hc.elim
  rotate_left
  · rintro _ _ _ h
    exact h.elim
  rintro s2 V ⟨h1, c_a⟩
  simp only [mergeL]
  replace HR := Lib.hid ((h1.same _ (lt_of_block HR.out) (notin1 (by have := HLT.out; omega))).trans HR.out)
  replace HA := Lib.hid c_a
  replace HM := Lib.hid (HM.out.stepM h1 (by have := HBW.out; have := HLT.out; intro x hx; simp at hx; right; omega))
  clear h1 c_a
  refine HK2.out _ _ ?_
  refine wp_seq_k fun K3 hK3 => ?_
  have HK3 := Lib.hid hK3
  clear hK3
  refine wp_cut_mergeP [none, none, none, none, none, none, some 6] (fun _ w' => Mut [b] V w' ∧ w'.heap[b]? = some (cobj 28 (zeroM.set (tPlace 0 1) (4294967296, 4294967296)))) (fun _ _ => False) ?_ ?_ ?_
  · intro Q2 hQ2 hP2
    refine (wpIn_wide (n := 0)).1 (show Code.wpIn (G none) 0 _ _ _ _ _ from ?_)
    refine wp_region_G (b := false) (Pn := (fun _ _ => False)) (RvV3 V b g0) (by kernel_rfl) (by kernel_rfl) ?_ ?_ ?_ ?_
    · exact ⟨Mut.start _ false _, fun _ => HR.out, fun h => absurd h Bool.false_ne_true, fun h => absurd h Bool.false_ne_true⟩
    · refine AllSP.cons ?_ (AllSP.cons ?_ AllSP.nil)
      · intro L s w2 h hk hd hn
        have s1 : s 1 = _ := hk 1 (by kernel_rfl)
        have kb := ((h.mu.same _ ((Array.getElem?_eq_some_iff.1 HA.out).1) (notin1 (by have := HLT.out; omega))).trans HA.out)
        refine stepSP rfl fun K hK => ?_
        exact rs_load rfl s1 (md_load kb (rfl : (zeroM.set (tPlace 0 1) (4294967296, 4294967296)).length = 22)) (hK _ _ { h with e0 := fun _ => rfl })
      · intro L s w2 h hk hd hn
        have s0 : s 0 = _ := hk 0 (by kernel_rfl)
        have s6 := h.e0 hd.1
        have kb := h.kt_r hn
        refine stepSP rfl fun K hK => ?_
        exact rs_store rfl s0 s6 (md_store kb rfl _ (rfl : (zeroM.set (tPlace 0 1) (4294967296, 4294967296)).length = 22)) (hK _ _ { h with mu := h.mu.put (List.Mem.head _) _, kt_r := nF, kr_r := fun _ => pH kb })
    · intro L s w2 h hk hl
      refine (congrArg (fun a => Q2 .normal a w2) (?_ : _ = _)).mpr (hQ2 s w2 (⟨h.mu, h.kr_r (hl 1 (by decide))⟩))
      exact frame_eq hk (by kernel_rfl) (by kernel_rfl)
    · intro c s w2 hc
      exact hc.elim
  rotate_left
  · rintro _ _ _ h
    exact h.elim
  rintro s3 V ⟨h1, c_r⟩
  simp only [mergeL]
  replace HR := Lib.hid c_r
  replace HA := Lib.hid ((h1.same _ (lt_of_block HA.out) (notin1 (by have := HLT.out; omega))).trans HA.out)
  replace HM := Lib.hid (HM.out.stepM h1 (by have := HBW.out; have := HLT.out; intro x hx; simp at hx; right; omega))
  clear h1 c_r
  refine HK3.out _ _ ?_
  refine wp_ret ?_
  exact bodyPost_ret (v := mval xV) (res_model Try.results28 rfl (md_loadVar HR.out (show (zeroM.set (tPlace 0 1) (4294967296, 4294967296)).length = 22 from rfl))) rfl ⟨rfl, by rw [← HBW.out]; exact HM.out.to0⟩
structure Rkok2 (V : World) (sp : (Int × Int)) (b : Nat) (g0 : Nat) (L : Nat → Bool) (s : Nat → Value) (w : World) : Prop where
  mu : Mut [] V w
  e0 : L 0 = true → s 6 = sval sp
  e1 : L 1 = true → s 7 = .int .i64 0
  e2 : L 2 = true → s 5 = .int .i64 0
structure Rkok5 (V : World) (sp : (Int × Int)) (b : Nat) (g0 : Nat) (L : Nat → Bool) (s : Nat → Value) (w : World) : Prop where
  mu : Mut [g0] V w
  kt_a : L 3 = false → w.heap[g0]? = some (cobj 28 zeroM)
  kr_a : L 3 = true → w.heap[g0]? = some (cobj 28 (zeroM.set 0 sp))
  e0 : L 0 = true → s 12 = sval sp
  e1 : L 1 = true → s 13 = .pointer (some ⟨g0, 0, none⟩)
  e2 : L 2 = true → s 14 = .pointer (some ⟨g0, 0 * 2, none⟩)
structure Rkok6 (V : World) (sp : (Int × Int)) (b : Nat) (g0 : Nat) (L : Nat → Bool) (s : Nat → Value) (w : World) : Prop where
  mu : Mut [b + 1] V w
  kt_r : L 1 = false → w.heap[b + 1]? = some (cobj 28 zeroM)
  kr_r : L 1 = true → w.heap[b + 1]? = some (cobj 28 (zeroM.set 0 sp))
  e0 : L 0 = true → s 15 = mval (zeroM.set 0 sp)
  e2 : L 2 = true → s 3 = .int .i64 ((0 : Nat) : Int)
set_option maxRecDepth 100000 in
set_option maxHeartbeats 4000000 in
theorem rf_Const_ok (sp : Int × Int) (hs : okS sp) (w : World) : Calls Try.prog 23 #[sval sp] w fun e w' => e = .returned (.tuple #[mval (xConst sp).1, .int .i64 (xConst sp).2]) ∧ Below w.heap.size w w' := by
  have HX := Lib.hid (show xConst sp = _ from if_pos hs)
  have HOK := Lib.hid hs
  clear hs
  rw [show sval sp = .agg #[.int .i64 sp.1, .int .i64 sp.2] from rfl]
  go_enter Try.func23, Try.ntmps23
  refine wp_seq_k fun K0 hK0 => ?_
  have HK0 := Lib.hid hK0
  clear hK0
  go_wp2_with fail
  obtain ⟨b, hb⟩ : ∃ b, w.heap.size = b := ⟨_, rfl⟩
  refine HK0.out _ _ ?_
  refine wp_world (fun V => Mut [] w V ∧ V.heap[b]? = some (cobj 25 [sp]) ∧ V.heap[b + 1]? = some (cobj 28 zeroM)) ?_
    (by
      rw [← hb]
      exact ⟨(((Mut.refl _ _).alloc _).alloc _), heap_up _ (heap_at (cobj 25 [sp]) (by simp)), heap_at (cobj 28 zeroM) (by simp)⟩)
  rintro V ⟨hm, hHS, hHR⟩
  rw [hb]
  have HM := Lib.hid hm
  have HBW := Lib.hid hb
  have HLT := Lib.hid trivial
  have HS := Lib.hid hHS
  have HR := Lib.hid hHR
  clear hm hHS hHR hb HK0
  refine wp_seq_k fun K1 hK1 => ?_
  have HK1 := Lib.hid hK1
  clear hK1
  go_wp2_with fail
  refine HK1.out _ _ ?_
  obtain ⟨g0, hg⟩ : ∃ g, V.heap.size = g := ⟨_, rfl⟩
  refine wp_world (fun V2 => Mut [] w V2 ∧ b ≤ g0 ∧ V2.heap[b]? = some (cobj 25 ([sp])) ∧ V2.heap[b + 1]? = some (cobj 28 zeroM) ∧ V2.heap[g0]? = some (cobj 28 zeroM)) ?_
    (by
      rw [← hg]
      exact ⟨HM.out.alloc _, by have := HM.out.size; have := HBW.out; omega, heap_up _ HS.out, heap_up _ HR.out, heap_at (cobj 28 zeroM) (by simp)⟩)
  replace HLT := Lib.hid (show b ≤ g0 ∧ b < g0 ∧ b + 1 < g0 from by
    have hlt := HLT.out
    have hbw := HM.out.size
    have hbw2 := HBW.out
    have := lt_of_block HS.out
    have := lt_of_block HR.out
    omega)
  rintro V2 ⟨hm, -, qHS, qHR, hnew⟩
  rw [hg]
  replace HM := Lib.hid hm
  replace HS := Lib.hid qHS
  replace HR := Lib.hid qHR
  have HA := Lib.hid hnew
  clear hm hnew hg qHS qHR HK1
  clear V
  rename World => V
  refine wp_seq_k fun KA hKA => ?_
  have HKA := Lib.hid hKA
  clear hKA
  refine wp_seq_k fun K2 hK2 => ?_
  have HK2 := Lib.hid hK2
  clear hK2
  refine wp_cut_mergeP [none, none, none, none, none, some 5, some 6, some 7, none, none, none, none, none, none, none, none] (fun s w' => Mut [] V w' ∧ s 5 = .int .i64 0) (fun _ _ => False) ?_ ?_ ?_
  · intro Q2 hQ2 hP2
    refine (wpIn_wide (n := 0)).1 (show Code.wpIn (G none) 0 _ _ _ _ _ from ?_)
    refine wp_region_G (b := false) (Pn := (fun _ _ => False)) (Rkok2 V sp b g0) (by kernel_rfl) (by kernel_rfl) ?_ ?_ ?_ ?_
    · exact ⟨Mut.start _ false _, fun h => absurd h Bool.false_ne_true, fun h => absurd h Bool.false_ne_true, fun h => absurd h Bool.false_ne_true⟩
    · refine AllSP.cons ?_ (AllSP.cons ?_ (AllSP.cons ?_ AllSP.nil))
      · intro L s w2 h hk hd hn
        have s1 : s 1 = _ := hk 1 (by kernel_rfl)
        have kb := ((h.mu.same _ ((Array.getElem?_eq_some_iff.1 HS.out).1) (by simp)).trans HS.out)
        refine stepSP rfl fun K hK => ?_
        exact rs_load rfl s1 (sp_load (p := 0) kb (by simp)) (hK _ _ { h with e0 := fun _ => rfl })
      · intro L s w2 h hk hd hn
        have s6 := h.e0 hd.1
        refine stepSP rfl fun K hK => ?_
        go_simp
        refine (rfC_ok HOK.out _).mono ?_
        rintro e w3 ⟨rfl, hb⟩
        exact .inl ⟨_, rfl, hK _ _ { h with mu := h.mu.step hb, e1 := fun _ => rfl }⟩
      · intro L s w2 h hk hd hn
        have s7 := h.e1 hd.1
        refine stepSP rfl fun K hK => ?_
        exact rs_assign rfl s7 (hK _ _ { h with e2 := fun _ => rfl })
    · intro L s w2 h hk hl
      refine (congrArg (fun a => Q2 .normal a w2) (?_ : _ = _)).mpr (hQ2 s w2 (⟨h.mu, h.e2 (hl 2 (by decide))⟩))
      exact frame_eq hk (by kernel_rfl) (by kernel_rfl)
    · intro c s w2 hc
      exact hc.elim
  rotate_left
  · rintro _ _ _ h
    exact h.elim
  rintro s2 V ⟨h1, k5⟩
  simp only [mergeL]
  rw [k5]
  replace HS := Lib.hid ((h1.same _ (lt_of_block HS.out) (by simp)).trans HS.out)
  replace HR := Lib.hid ((h1.same _ (lt_of_block HR.out) (by simp)).trans HR.out)
  replace HA := Lib.hid ((h1.same _ (lt_of_block HA.out) (by simp)).trans HA.out)
  replace HM := Lib.hid (HM.out.stepM h1 (by simp))
  clear h1 k5
  refine HK2.out _ _ ?_
  go_wp2_with fail
  refine HKA.out _ _ ?_
  refine wp_seq_k fun K5 hK5 => ?_
  have HK5 := Lib.hid hK5
  clear hK5
  refine wp_cut_mergeP [none, none, none, none, none, none, none, none, none, none, none, none, some 12, some 13, some 14, none] (fun _ w' => Mut [g0] V w' ∧ w'.heap[g0]? = some (cobj 28 (zeroM.set 0 sp))) (fun _ _ => False) ?_ ?_ ?_
  · intro Q2 hQ2 hP2
    refine (wpIn_wide (n := 0)).1 (show Code.wpIn (G none) 0 _ _ _ _ _ from ?_)
    refine wp_region_G (b := false) (Pn := (fun _ _ => False)) (Rkok5 V sp b g0) (by kernel_rfl) (by kernel_rfl) ?_ ?_ ?_ ?_
    · exact ⟨Mut.start _ false _, fun _ => HA.out, fun h => absurd h Bool.false_ne_true, fun h => absurd h Bool.false_ne_true, fun h => absurd h Bool.false_ne_true, fun h => absurd h Bool.false_ne_true⟩
    · refine AllSP.cons ?_ (AllSP.cons ?_ (AllSP.cons ?_ (AllSP.cons ?_ AllSP.nil)))
      · intro L s w2 h hk hd hn
        have s1 : s 1 = _ := hk 1 (by kernel_rfl)
        have kb := ((h.mu.same _ ((Array.getElem?_eq_some_iff.1 HS.out).1) (notin1 (by have := HLT.out; omega))).trans HS.out)
        refine stepSP rfl fun K hK => ?_
        exact rs_load rfl s1 (sp_load (p := 0) kb (by simp)) (hK _ _ { h with e0 := fun _ => rfl })
      · intro L s w2 h hk hd hn
        have s4 : s 4 = _ := hk 4 (by kernel_rfl)
        refine stepSP rfl fun K hK => ?_
        exact rs_field rfl s4 (fl_model0 _ _) (hK _ _ { h with e1 := fun _ => rfl })
      · intro L s w2 h hk hd hn
        have s13 := h.e1 hd.1
        refine stepSP rfl fun K hK => ?_
        exact rs_index rfl s13 rfl (ix_model _ 0 (by decide)) (hK _ _ { h with e2 := fun _ => rfl })
      · intro L s w2 h hk hd hn
        have s14 := h.e2 hd.1
        have s12 := h.e0 hd.2.1
        have kb := h.kt_a hn
        refine stepSP rfl fun K hK => ?_
        exact rs_store rfl s14 s12 (sp_store (p := 0) kb (by decide) sp) (hK _ _ { h with mu := h.mu.put (List.Mem.head _) _, kt_a := nF, kr_a := fun _ => pH kb })
    · intro L s w2 h hk hl
      refine (congrArg (fun a => Q2 .normal a w2) (?_ : _ = _)).mpr (hQ2 s w2 (⟨h.mu, h.kr_a (hl 3 (by decide))⟩))
      exact frame_eq hk (by kernel_rfl) (by kernel_rfl)
    · intro c s w2 hc
      exact hc.elim
  rotate_left
  · rintro _ _ _ h
    exact h.elim
  rintro s5 V ⟨h1, c_a⟩
  simp only [mergeL]
  replace HS := Lib.hid ((h1.same _ (lt_of_block HS.out) (notin1 (by have := HLT.out; omega))).trans HS.out)
  replace HR := Lib.hid ((h1.same _ (lt_of_block HR.out) (notin1 (by have := HLT.out; omega))).trans HR.out)
  replace HA := Lib.hid c_a
  replace HM := Lib.hid (HM.out.stepM h1 (by have := HBW.out; have := HLT.out; intro x hx; simp at hx; right; omega))
  clear h1 c_a
  refine HK5.out _ _ ?_
  refine wp_seq_k fun K6 hK6 => ?_
  have HK6 := Lib.hid hK6
  clear hK6
  refine wp_cut_mergeP [none, none, none, some 3, none, none, none, none, none, none, none, none, none, none, none, some 15] (fun s w' => Mut [b + 1] V w' ∧ w'.heap[b + 1]? = some (cobj 28 (zeroM.set 0 sp)) ∧ s 3 = .int .i64 ((0 : Nat) : Int)) (fun _ _ => False) ?_ ?_ ?_
  · intro Q2 hQ2 hP2
    refine (wpIn_wide (n := 0)).1 (show Code.wpIn (G none) 0 _ _ _ _ _ from ?_)
    refine wp_region_G (b := false) (Pn := (fun _ _ => False)) (Rkok6 V sp b g0) (by kernel_rfl) (by kernel_rfl) ?_ ?_ ?_ ?_
    · exact ⟨Mut.start _ false _, fun _ => HR.out, fun h => absurd h Bool.false_ne_true, fun h => absurd h Bool.false_ne_true, fun h => absurd h Bool.false_ne_true⟩
    · refine AllSP.cons ?_ (AllSP.cons ?_ (AllSP.cons ?_ AllSP.nil))
      · intro L s w2 h hk hd hn
        have s4 : s 4 = _ := hk 4 (by kernel_rfl)
        have kb := ((h.mu.same _ ((Array.getElem?_eq_some_iff.1 HA.out).1) (notin1 (by have := HLT.out; omega))).trans HA.out)
        refine stepSP rfl fun K hK => ?_
        exact rs_load rfl s4 (md_load kb (by simp [zeroM])) (hK _ _ { h with e0 := fun _ => rfl })
      · intro L s w2 h hk hd hn
        have s2 : s 2 = _ := hk 2 (by kernel_rfl)
        have s15 := h.e0 hd.1
        have kb := h.kt_r hn
        refine stepSP rfl fun K hK => ?_
        exact rs_store rfl s2 s15 (md_store kb rfl _ (by simp [zeroM])) (hK _ _ { h with mu := h.mu.put (List.Mem.head _) _, kt_r := nF, kr_r := fun _ => pH kb })
      · intro L s w2 h hk hd hn
        refine stepSP rfl fun K hK => ?_
        exact rs_assign rfl rfl (hK _ _ { h with e2 := fun _ => rfl })
    · intro L s w2 h hk hl
      refine (congrArg (fun a => Q2 .normal a w2) (?_ : _ = _)).mpr (hQ2 s w2 (⟨h.mu, h.kr_r (hl 1 (by decide)), h.e2 (hl 2 (by decide))⟩))
      exact frame_eq hk (by kernel_rfl) (by kernel_rfl)
    · intro c s w2 hc
      exact hc.elim
  rotate_left
  · rintro _ _ _ h
    exact h.elim
  rintro s6 V ⟨h1, c_r, k3⟩
  simp only [mergeL]
  rw [k3]
  replace HS := Lib.hid ((h1.same _ (lt_of_block HS.out) (notin1 (by have := HLT.out; omega))).trans HS.out)
  replace HR := Lib.hid c_r
  replace HA := Lib.hid ((h1.same _ (lt_of_block HA.out) (notin1 (by have := HLT.out; omega))).trans HA.out)
  replace HM := Lib.hid (HM.out.stepM h1 (by have := HBW.out; have := HLT.out; intro x hx; simp at hx; right; omega))
  clear h1 c_r k3
  refine HK6.out _ _ ?_
  rw [HX.out]
  refine wp_ret ?_
  exact bodyPost_ret (v := .tuple #[mval (zeroM.set 0 sp), .int .i64 0]) (res_slot Try.results23 rfl rfl (md_loadVar HR.out (by simp [zeroM]))) rfl ⟨rfl, by rw [← HBW.out]; exact HM.out.to0⟩
structure Rkbad2 (V : World) (sp : (Int × Int)) (b : Nat) (g0 : Nat) (L : Nat → Bool) (s : Nat → Value) (w : World) : Prop where
  mu : Mut [] V w
  e0 : L 0 = true → s 6 = sval sp
  e1 : L 1 = true → s 7 = .int .i64 20
  e2 : L 2 = true → s 5 = .int .i64 20
structure Rkbad4 (V : World) (sp : (Int × Int)) (b : Nat) (g0 : Nat) (L : Nat → Bool) (s : Nat → Value) (w : World) : Prop where
  mu : Mut [b + 1] V w
  kt_r : L 2 = false → w.heap[b + 1]? = some (cobj 28 zeroM)
  kr_r : L 2 = true → w.heap[b + 1]? = some (cobj 28 zeroM)
  e0 : L 0 = true → s 10 = mval zeroM
  e1 : L 1 = true → s 11 = .int .i64 20
  e3 : L 3 = true → s 3 = .int .i64 20
set_option maxRecDepth 100000 in
set_option maxHeartbeats 4000000 in
theorem rf_Const_bad (sp : Int × Int) (hs : ¬ okS sp) (w : World) : Calls Try.prog 23 #[sval sp] w fun e w' => e = .returned (.tuple #[mval (xConst sp).1, .int .i64 (xConst sp).2]) ∧ Below w.heap.size w w' := by
  have HX := Lib.hid (show xConst sp = _ from if_neg hs)
  have HOK := Lib.hid hs
  clear hs
  rw [show sval sp = .agg #[.int .i64 sp.1, .int .i64 sp.2] from rfl]
  go_enter Try.func23, Try.ntmps23
  refine wp_seq_k fun K0 hK0 => ?_
  have HK0 := Lib.hid hK0
  clear hK0
  go_wp2_with fail
  obtain ⟨b, hb⟩ : ∃ b, w.heap.size = b := ⟨_, rfl⟩
  refine HK0.out _ _ ?_
  refine wp_world (fun V => Mut [] w V ∧ V.heap[b]? = some (cobj 25 [sp]) ∧ V.heap[b + 1]? = some (cobj 28 zeroM)) ?_
    (by
      rw [← hb]
      exact ⟨(((Mut.refl _ _).alloc _).alloc _), heap_up _ (heap_at (cobj 25 [sp]) (by simp)), heap_at (cobj 28 zeroM) (by simp)⟩)
  rintro V ⟨hm, hHS, hHR⟩
  rw [hb]
  have HM := Lib.hid hm
  have HBW := Lib.hid hb
  have HLT := Lib.hid trivial
  have HS := Lib.hid hHS
  have HR := Lib.hid hHR
  clear hm hHS hHR hb HK0
  refine wp_seq_k fun K1 hK1 => ?_
  have HK1 := Lib.hid hK1
  clear hK1
  go_wp2_with fail
  refine HK1.out _ _ ?_
  obtain ⟨g0, hg⟩ : ∃ g, V.heap.size = g := ⟨_, rfl⟩
  refine wp_world (fun V2 => Mut [] w V2 ∧ b ≤ g0 ∧ V2.heap[b]? = some (cobj 25 ([sp])) ∧ V2.heap[b + 1]? = some (cobj 28 zeroM) ∧ V2.heap[g0]? = some (cobj 28 zeroM)) ?_
    (by
      rw [← hg]
      exact ⟨HM.out.alloc _, by have := HM.out.size; have := HBW.out; omega, heap_up _ HS.out, heap_up _ HR.out, heap_at (cobj 28 zeroM) (by simp)⟩)
  replace HLT := Lib.hid (show b ≤ g0 ∧ b < g0 ∧ b + 1 < g0 from by
    have hlt := HLT.out
    have hbw := HM.out.size
    have hbw2 := HBW.out
    have := lt_of_block HS.out
    have := lt_of_block HR.out
    omega)
  rintro V2 ⟨hm, -, qHS, qHR, hnew⟩
  rw [hg]
  replace HM := Lib.hid hm
  replace HS := Lib.hid qHS
  replace HR := Lib.hid qHR
  have HA := Lib.hid hnew
  clear hm hnew hg qHS qHR HK1
  clear V
  rename World => V
  refine wp_seq_k fun KA hKA => ?_
  have HKA := Lib.hid hKA
  clear hKA
  refine wp_seq_k fun K2 hK2 => ?_
  have HK2 := Lib.hid hK2
  clear hK2
  refine wp_cut_mergeP [none, none, none, none, none, some 5, some 6, some 7, none, none, none, none, none, none, none, none] (fun s w' => Mut [] V w' ∧ s 5 = .int .i64 20) (fun _ _ => False) ?_ ?_ ?_
  · intro Q2 hQ2 hP2
    refine (wpIn_wide (n := 0)).1 (show Code.wpIn (G none) 0 _ _ _ _ _ from ?_)
    refine wp_region_G (b := false) (Pn := (fun _ _ => False)) (Rkbad2 V sp b g0) (by kernel_rfl) (by kernel_rfl) ?_ ?_ ?_ ?_
    · exact ⟨Mut.start _ false _, fun h => absurd h Bool.false_ne_true, fun h => absurd h Bool.false_ne_true, fun h => absurd h Bool.false_ne_true⟩
    · refine AllSP.cons ?_ (AllSP.cons ?_ (AllSP.cons ?_ AllSP.nil))
      · intro L s w2 h hk hd hn
        have s1 : s 1 = _ := hk 1 (by kernel_rfl)
        have kb := ((h.mu.same _ ((Array.getElem?_eq_some_iff.1 HS.out).1) (by simp)).trans HS.out)
        refine stepSP rfl fun K hK => ?_
        exact rs_load rfl s1 (sp_load (p := 0) kb (by simp)) (hK _ _ { h with e0 := fun _ => rfl })
      · intro L s w2 h hk hd hn
        have s6 := h.e0 hd.1
        refine stepSP rfl fun K hK => ?_
        go_simp
        refine (rfC_bad HOK.out _).mono ?_
        rintro e w3 ⟨rfl, hb⟩
        exact .inl ⟨_, rfl, hK _ _ { h with mu := h.mu.step hb, e1 := fun _ => rfl }⟩
      · intro L s w2 h hk hd hn
        have s7 := h.e1 hd.1
        refine stepSP rfl fun K hK => ?_
        exact rs_assign rfl s7 (hK _ _ { h with e2 := fun _ => rfl })
    · intro L s w2 h hk hl
      refine (congrArg (fun a => Q2 .normal a w2) (?_ : _ = _)).mpr (hQ2 s w2 (⟨h.mu, h.e2 (hl 2 (by decide))⟩))
      exact frame_eq hk (by kernel_rfl) (by kernel_rfl)
    · intro c s w2 hc
      exact hc.elim
  rotate_left
  · rintro _ _ _ h
    exact h.elim
  rintro s2 V ⟨h1, k5⟩
  simp only [mergeL]
  rw [k5]
  replace HS := Lib.hid ((h1.same _ (lt_of_block HS.out) (by simp)).trans HS.out)
  replace HR := Lib.hid ((h1.same _ (lt_of_block HR.out) (by simp)).trans HR.out)
  replace HA := Lib.hid ((h1.same _ (lt_of_block HA.out) (by simp)).trans HA.out)
  replace HM := Lib.hid (HM.out.stepM h1 (by simp))
  clear h1 k5
  refine HK2.out _ _ ?_
  refine wp_seq_k fun K3 hK3 => ?_
  have HK3 := Lib.hid hK3
  clear hK3
  go_wp2_with fail
  refine HK3.out _ _ ?_
  refine wp_cond_true (by rfl) ?_
  refine wp_seq_k fun K4 hK4 => ?_
  have HK4 := Lib.hid hK4
  clear hK4
  refine wp_cut_mergeP [none, none, none, some 3, none, none, none, none, none, none, some 10, some 11, none, none, none, none] (fun s w' => Mut [b + 1] V w' ∧ w'.heap[b + 1]? = some (cobj 28 zeroM) ∧ s 3 = .int .i64 20) (fun _ _ => False) ?_ ?_ ?_
  · intro Q2 hQ2 hP2
    refine (wpIn_wide (n := 0)).1 (show Code.wpIn (G none) 0 _ _ _ _ _ from ?_)
    refine wp_region_G (b := false) (Pn := (fun _ _ => False)) (Rkbad4 V sp b g0) (by kernel_rfl) (by kernel_rfl) ?_ ?_ ?_ ?_
    · exact ⟨Mut.start _ false _, fun _ => HR.out, fun h => absurd h Bool.false_ne_true, fun h => absurd h Bool.false_ne_true, fun h => absurd h Bool.false_ne_true, fun h => absurd h Bool.false_ne_true⟩
    · refine AllSP.cons ?_ (AllSP.cons ?_ (AllSP.cons ?_ (AllSP.cons ?_ AllSP.nil)))
      · intro L s w2 h hk hd hn
        have s4 : s 4 = _ := hk 4 (by kernel_rfl)
        have kb := ((h.mu.same _ ((Array.getElem?_eq_some_iff.1 HA.out).1) (notin1 (by have := HLT.out; omega))).trans HA.out)
        refine stepSP rfl fun K hK => ?_
        exact rs_load rfl s4 (md_load kb rfl) (hK _ _ { h with e0 := fun _ => rfl })
      · intro L s w2 h hk hd hn
        have s5 : s 5 = _ := hk 5 (by kernel_rfl)
        refine stepSP rfl fun K hK => ?_
        exact rs_move rfl s5 (hK _ _ { h with e1 := fun _ => rfl })
      · intro L s w2 h hk hd hn
        have s2 : s 2 = _ := hk 2 (by kernel_rfl)
        have s10 := h.e0 hd.1
        have kb := h.kt_r hn
        refine stepSP rfl fun K hK => ?_
        exact rs_store rfl s2 s10 (md_store kb rfl _ rfl) (hK _ _ { h with mu := h.mu.put (List.Mem.head _) _, kt_r := nF, kr_r := fun _ => pH kb })
      · intro L s w2 h hk hd hn
        have s11 := h.e1 hd.1
        refine stepSP rfl fun K hK => ?_
        exact rs_assign rfl s11 (hK _ _ { h with e3 := fun _ => rfl })
    · intro L s w2 h hk hl
      refine (congrArg (fun a => Q2 .normal a w2) (?_ : _ = _)).mpr (hQ2 s w2 (⟨h.mu, h.kr_r (hl 2 (by decide)), h.e3 (hl 3 (by decide))⟩))
      exact frame_eq hk (by kernel_rfl) (by kernel_rfl)
    · intro c s w2 hc
      exact hc.elim
  rotate_left
  · rintro _ _ _ h
    exact h.elim
  rintro s4 V ⟨h1, c_r, k3⟩
  simp only [mergeL]
  rw [k3]
  replace HS := Lib.hid ((h1.same _ (lt_of_block HS.out) (notin1 (by have := HLT.out; omega))).trans HS.out)
  replace HR := Lib.hid c_r
  replace HA := Lib.hid ((h1.same _ (lt_of_block HA.out) (notin1 (by have := HLT.out; omega))).trans HA.out)
  replace HM := Lib.hid (HM.out.stepM h1 (by have := HBW.out; have := HLT.out; intro x hx; simp at hx; right; omega))
  clear h1 c_r k3
  refine HK4.out _ _ ?_
  rw [HX.out]
  go_wp2_with fail
  exact bodyPost_ret (v := .tuple #[mval (zeroM), .int .i64 20]) (res_slot Try.results23 rfl rfl (md_loadVar HR.out rfl)) rfl ⟨rfl, by rw [← HBW.out]; exact HM.out.to0⟩
theorem rf_Const (sp : Int × Int) (w : World) : Calls Try.prog 23 #[sval sp] w fun e w' => e = .returned (.tuple #[mval (xConst sp).1, .int .i64 (xConst sp).2]) ∧ Below w.heap.size w w' := by
  by_cases h : okS sp
  · exact rf_Const_ok sp h w
  · exact rf_Const_bad sp h w
end Go.Proofs.Ythhkcfpljgdnhaa
