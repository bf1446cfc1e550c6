/- Package taylor: Add, Sub, Scale inside caught. Printed by wip/genTW.py. -/
import Derived.Test.YthhkcfpljgdnhaaTayO
namespace Go.Proofs.Ythhkcfpljgdnhaa
open Go.RowKit Mnc
attribute [local go_sem] RunSP_value RunSP_skip RunSP_enter evS_tmp evS_const evS_global evS_func
theorem tm_sub (x y : Int × Int) (w : World) : Calls Try.prog 69 #[sval x, sval y] w fun e w' => e = .returned (.tuple #[sval (sSub x y).1, .int .i64 (sSub x y).2]) ∧ Below w.heap.size w w' := span_Sub x y w
structure Addw1 (V : World) (A : Nat) (D : Nat) (a : List (Int × Int)) (d : List (Int × Int)) (b : Nat) (L : Nat → Bool) (s : Nat → Value) (w : World) : Prop where
  mu : Mut [] V w
  e0 : L 0 = true → s 3 = mval a
  e1 : L 1 = true → s 4 = mval d
  nb : L 2 = true → ∃ q : Nat, s 5 = .slice (some ⟨q, 0, none⟩) 2 2 ∧ w.heap[q]? = some (cobj 28 (a ++ d))
  z3 : L 3 = true → (tRight (a ++ d)).2 = 0
structure Addw2 (V : World) (A : Nat) (D : Nat) (a : List (Int × Int)) (d : List (Int × Int)) (b : Nat) (L : Nat → Bool) (s : Nat → Value) (w : World) : Prop where
  mu : Mut [b] V w
  kt_r : L 3 = false → w.heap[b]? = some (cobj 28 zeroM)
  kr_r : L 3 = true → w.heap[b]? = some (cobj 28 ((tEach sAdd a d).1))
  e0 : L 0 = true → s 7 = mval a
  e1 : L 1 = true → s 8 = mval d
  z2 : L 2 = true → (tEach sAdd a d).2 = 0
  e2 : L 2 = true → s 9 = mval ((tEach sAdd a d).1)
set_option maxRecDepth 100000 in
set_option maxHeartbeats 4000000 in
theorem tay_add1 (A D : Nat) (a d : List (Int × Int)) (ha : a.length = 22) (hd : d.length = 22) (w : World) (h : w.heap[A]? = some (cobj 28 a)) (k : w.heap[D]? = some (cobj 28 d)) :
    Calls Try.prog 66 #[.pointer (some ⟨A, 0, none⟩), .pointer (some ⟨D, 0, none⟩)] w fun e w' => Ends mval (thenE [] (tRight (a ++ d)) fun _ => tEach sAdd a d) e ∧ Below w.heap.size w w' := by
  have HL := Lib.hid ha
  have HLD := Lib.hid hd
  have HA0 := Lib.hid h
  have HD0 := Lib.hid k
  clear ha hd h k
  go_enter Try.func66, Try.ntmps66
  refine wp_seq_k fun K0 hK0 => ?_
  have HK0 := Lib.hid hK0
  clear hK0
  go_wp2_with fail
  obtain ⟨b, hb⟩ : ∃ b, w.heap.size = b := ⟨_, rfl⟩
  refine HK0.out _ _ ?_
  refine wp_world (fun V => Mut [] w V ∧ V.heap[A]? = some (cobj 28 a) ∧ V.heap[D]? = some (cobj 28 d) ∧ V.heap[b]? = some (cobj 28 zeroM)) ?_
    (by
      rw [← hb]
      exact ⟨((Mut.refl _ _).alloc _), heap_up _ (HA0.out), heap_up _ (HD0.out), heap_at (cobj 28 zeroM) (by simp)⟩)
  rintro V ⟨hm, hHA, hHD, hHR⟩
  rw [hb]
  have HM := Lib.hid hm
  have HBW := Lib.hid hb
  have HLT := Lib.hid (show A < b ∧ D < b from ⟨hb ▸ lt_of_block HA0.out, hb ▸ lt_of_block HD0.out⟩)
  have HP0 := Lib.hid (show (thenE [] (tRight (a ++ d)) fun _ => tEach sAdd a d) = (thenE [] (tRight (a ++ d)) fun _ => tEach sAdd a d) from rfl)
  have HA := Lib.hid hHA
  have HD := Lib.hid hHD
  have HR := Lib.hid hHR
  clear hm hHA hHD hHR hb HK0
  refine wp_seq_k fun K1 hK1 => ?_
  have HK1 := Lib.hid hK1
  clear hK1
  refine wp_cut_mergeP [none, none, none, some 3, some 4, some 5, some 6, none, none, none] (fun _ w' => Mut [] V w' ∧ (tRight (a ++ d)).2 = 0) (fun ch w' => ch = brk (fstE [(tRight (a ++ d)).2]) ∧ ¬ fstE [(tRight (a ++ d)).2] = 0 ∧ Mut [] V w') ?_ ?_ ?_
  · intro Q2 hQ2 hP2
    refine (wpIn_wide (n := 0)).1 (show Code.wpIn (G none) 0 _ _ _ _ _ from ?_)
    refine wp_region_G (b := false) (Pn := (fun ch w' => ch = brk (fstE [(tRight (a ++ d)).2]) ∧ ¬ fstE [(tRight (a ++ d)).2] = 0 ∧ Mut [] V w')) (Addw1 V A D a d b) (by kernel_rfl) (by kernel_rfl) ?_ ?_ ?_ ?_
    · exact ⟨Mut.start _ false _, fun h => absurd h Bool.false_ne_true, fun h => absurd h Bool.false_ne_true, fun h => absurd h Bool.false_ne_true, fun h => absurd h Bool.false_ne_true⟩
    · refine AllSP.cons ?_ (AllSP.cons ?_ (AllSP.cons ?_ (AllSP.cons ?_ AllSP.nil)))
      · intro L s w2 h hk hd hn
        have s0 : s 0 = _ := hk 0 (by kernel_rfl)
        have kb := ((h.mu.same _ ((Array.getElem?_eq_some_iff.1 HA.out).1) (by simp)).trans HA.out)
        refine stepSP rfl fun K hK => ?_
        exact rs_load rfl s0 (md_load kb HL.out) (hK _ _ { h with e0 := fun _ => rfl })
      · intro L s w2 h hk hd hn
        have s1 : s 1 = _ := hk 1 (by kernel_rfl)
        have kb := ((h.mu.same _ ((Array.getElem?_eq_some_iff.1 HD.out).1) (by simp)).trans HD.out)
        refine stepSP rfl fun K hK => ?_
        exact rs_load rfl s1 (md_load kb HLD.out) (hK _ _ { h with e1 := fun _ => rfl })
      · intro L s w2 h hk hd hn
        have s3 := h.e0 hd.1
        have s4 := h.e1 hd.2.1
        refine stepSP rfl fun K hK => ?_
        exact rs_build rfl (by simp [evS_tmp, s3, s4]) (bs_both HL.out HLD.out _) (hK _ _ { h with mu := h.mu.alloc _, nb := fun _ => ⟨_, rfl, heap_at _ rfl⟩ })
      · intro L s w2 h hk hd hn
        obtain ⟨q, s5, hq⟩ := h.nb hd.1
        refine stepSP rfl fun K hK => ?_
        go_simp
        refine (tm_right (a ++ d) 2 (by simp [HL.out, HLD.out]) (by omega) q 2 _ hq).mono ?_
        rintro e w3 ⟨⟨hz, v, rfl⟩ | ⟨hz, rfl⟩, hb⟩
        · exact .inl ⟨_, rfl, hK _ _ { h with mu := h.mu.step hb, nb := fun a => let ⟨q, h1, h2⟩ := h.nb a; ⟨q, h1, (hb.block _ (lt_of_block h2)).trans h2⟩, z3 := fun _ => hz }⟩
        · exact .inr ⟨_, rfl, congrArg brk (show (tRight (a ++ d)).2 = fstE [(tRight (a ++ d)).2] from (by rw [fstE_1 (show ¬ (tRight (a ++ d)).2 = 0 from hz)])), (show ¬ fstE [(tRight (a ++ d)).2] = 0 from (by rw [fstE_1 (show ¬ (tRight (a ++ d)).2 = 0 from hz)]; exact hz)), h.mu.step hb⟩
    · intro L s w2 h hk hl
      refine (congrArg (fun a => Q2 .normal a w2) (?_ : _ = _)).mpr (hQ2 s w2 (⟨h.mu, h.z3 (hl 3 (by decide))⟩))
      exact frame_eq hk (by kernel_rfl) (by kernel_rfl)
    · intro c s w2 hc
      exact hP2 _ _ _ hc
  rotate_left
  · rintro e l'' w' ⟨rfl, hz, h2⟩
    have he : (thenE [] (tRight (a ++ d)) fun _ => tEach sAdd a d).2 = fstE [(tRight (a ++ d)).2] := by
      have h := hz
      rw [HP0.out]
      first | exact thenE_fst1 h | exact fstE_one.symm | exact fstE_one.symm
    rw [← he] at hz ⊢
    exact ⟨rfl, .inr ⟨hz, rfl⟩, (by rw [← HBW.out]; exact (HM.out.stepM h2 (by simp)).to0)⟩
  rintro s1 V ⟨h1, z1⟩
  simp only [mergeL]
  replace HA := Lib.hid ((h1.same _ (lt_of_block HA.out) (by simp)).trans HA.out)
  replace HD := Lib.hid ((h1.same _ (lt_of_block HD.out) (by simp)).trans HD.out)
  replace HR := Lib.hid ((h1.same _ (lt_of_block HR.out) (by simp)).trans HR.out)
  have HP1 := Lib.hid (show (thenE [] (tRight (a ++ d)) fun _ => tEach sAdd a d) = _ from by rw [HP0.out, thenE_ok z1])
  replace HM := Lib.hid (HM.out.stepM h1 (by simp))
  clear h1 z1
  refine HK1.out _ _ ?_
  refine wp_seq_k fun K2 hK2 => ?_
  have HK2 := Lib.hid hK2
  clear hK2
  refine wp_cut_mergeP [none, none, none, none, none, none, none, some 7, some 8, some 9] (fun _ w' => Mut [b] V w' ∧ w'.heap[b]? = some (cobj 28 ((tEach sAdd a d).1)) ∧ (tEach sAdd a d).2 = 0) (fun ch w' => ch = brk (fstE [(tEach sAdd a d).2]) ∧ ¬ fstE [(tEach sAdd a d).2] = 0 ∧ Mut [b] V w') ?_ ?_ ?_
  · intro Q2 hQ2 hP2
    refine (wpIn_wide (n := 0)).1 (show Code.wpIn (G none) 0 _ _ _ _ _ from ?_)
    refine wp_region_G (b := false) (Pn := (fun ch w' => ch = brk (fstE [(tEach sAdd a d).2]) ∧ ¬ fstE [(tEach sAdd a d).2] = 0 ∧ Mut [b] V w')) (Addw2 V A D a d b) (by kernel_rfl) (by kernel_rfl) ?_ ?_ ?_ ?_
    · exact ⟨Mut.start _ false _, fun _ => HR.out, fun h => absurd h Bool.false_ne_true, fun h => absurd h Bool.false_ne_true, fun h => absurd h Bool.false_ne_true, fun h => absurd h Bool.false_ne_true, fun h => absurd h Bool.false_ne_true⟩
    · refine AllSP.cons ?_ (AllSP.cons ?_ (AllSP.cons ?_ (AllSP.cons ?_ AllSP.nil)))
      · intro L s w2 h hk hd hn
        have s0 : s 0 = _ := hk 0 (by kernel_rfl)
        have kb := ((h.mu.same _ ((Array.getElem?_eq_some_iff.1 HA.out).1) (notin1 (by have := HLT.out; omega))).trans HA.out)
        refine stepSP rfl fun K hK => ?_
        exact rs_load rfl s0 (md_load kb HL.out) (hK _ _ { h with e0 := fun _ => rfl })
      · intro L s w2 h hk hd hn
        have s1 : s 1 = _ := hk 1 (by kernel_rfl)
        have kb := ((h.mu.same _ ((Array.getElem?_eq_some_iff.1 HD.out).1) (notin1 (by have := HLT.out; omega))).trans HD.out)
        refine stepSP rfl fun K hK => ?_
        exact rs_load rfl s1 (md_load kb HLD.out) (hK _ _ { h with e1 := fun _ => rfl })
      · intro L s w2 h hk hd hn
        have s7 := h.e0 hd.1
        have s8 := h.e1 hd.2.1
        refine stepSP rfl fun K hK => ?_
        go_simp
        refine (tay_each sAdd 41 #[] a d HL.out HLD.out _ (fun x y W => enters_of Try.func41 (by kernel_rfl) rfl _ W) (fun x y W hB => tm_add x y W)).mono ?_
        rintro e w3 ⟨⟨hz, rfl⟩ | ⟨hz, rfl⟩, hb⟩
        · exact .inl ⟨_, rfl, hK _ _ { h with mu := h.mu.step hb, kt_r := fun a => bk hb (h.kt_r a), kr_r := fun a => bk hb (h.kr_r a), e2 := fun _ => rfl, z2 := fun _ => hz }⟩
        · exact .inr ⟨_, rfl, congrArg brk (show (tEach sAdd a d).2 = fstE [(tEach sAdd a d).2] from (by rw [fstE_1 (show ¬ (tEach sAdd a d).2 = 0 from hz)])), (show ¬ fstE [(tEach sAdd a d).2] = 0 from (by rw [fstE_1 (show ¬ (tEach sAdd a d).2 = 0 from hz)]; exact hz)), h.mu.step hb⟩
      · intro L s w2 h hk hd hn
        have s2 : s 2 = _ := hk 2 (by kernel_rfl)
        have s9 := h.e2 hd.1
        have kb := h.kt_r hn
        refine stepSP rfl fun K hK => ?_
        exact rs_store rfl s2 s9 (md_store kb rfl _ ((tEach_len (HL.out.trans HLD.out.symm) (h.z2 hd.1)).trans HL.out)) (hK _ _ { h with mu := h.mu.put (List.Mem.head _) _, kt_r := nF, kr_r := fun _ => pH kb })
    · intro L s w2 h hk hl
      refine (congrArg (fun a => Q2 .normal a w2) (?_ : _ = _)).mpr (hQ2 s w2 (⟨h.mu, h.kr_r (hl 3 (by decide)), h.z2 (hl 2 (by decide))⟩))
      exact frame_eq hk (by kernel_rfl) (by kernel_rfl)
    · intro c s w2 hc
      exact hP2 _ _ _ hc
  rotate_left
  · rintro e l'' w' ⟨rfl, hz, h2⟩
    have he : (thenE [] (tRight (a ++ d)) fun _ => tEach sAdd a d).2 = fstE [(tEach sAdd a d).2] := by
      have h := hz
      rw [HP1.out]
      first | exact thenE_fst1 h | exact fstE_one.symm | exact fstE_one.symm
    rw [← he] at hz ⊢
    exact ⟨rfl, .inr ⟨hz, rfl⟩, (by rw [← HBW.out]; exact (HM.out.stepM h2 (by have := HBW.out; have := HLT.out; intro x hx; simp at hx; right; omega)).to0)⟩
  rintro s2 V ⟨h1, c_r, z1⟩
  simp only [mergeL]
  replace HA := Lib.hid ((h1.same _ (lt_of_block HA.out) (notin1 (by have := HLT.out; omega))).trans HA.out)
  replace HD := Lib.hid ((h1.same _ (lt_of_block HD.out) (notin1 (by have := HLT.out; omega))).trans HD.out)
  replace HR := Lib.hid c_r
  replace HM := Lib.hid (HM.out.stepM h1 (by have := HBW.out; have := HLT.out; intro x hx; simp at hx; right; omega))
  have HZ := Lib.hid z1
  clear h1 c_r z1
  refine HK2.out _ _ ?_
  refine wp_ret ?_
  exact bodyPost_ret (v := mval (tEach sAdd a d).1) (res_model Try.results66 rfl (md_loadVar HR.out ((tEach_len (HL.out.trans HLD.out.symm) HZ.out).trans HL.out))) rfl ⟨.inl ⟨by rw [HP1.out]; exact HZ.out, by rw [HP1.out]⟩, by rw [← HBW.out]; exact HM.out.to0⟩
structure Subw1 (V : World) (A : Nat) (D : Nat) (a : List (Int × Int)) (d : List (Int × Int)) (b : Nat) (L : Nat → Bool) (s : Nat → Value) (w : World) : Prop where
  mu : Mut [] V w
  e0 : L 0 = true → s 3 = mval a
  e1 : L 1 = true → s 4 = mval d
  nb : L 2 = true → ∃ q : Nat, s 5 = .slice (some ⟨q, 0, none⟩) 2 2 ∧ w.heap[q]? = some (cobj 28 (a ++ d))
  z3 : L 3 = true → (tRight (a ++ d)).2 = 0
structure Subw2 (V : World) (A : Nat) (D : Nat) (a : List (Int × Int)) (d : List (Int × Int)) (b : Nat) (L : Nat → Bool) (s : Nat → Value) (w : World) : Prop where
  mu : Mut [b] V w
  kt_r : L 3 = false → w.heap[b]? = some (cobj 28 zeroM)
  kr_r : L 3 = true → w.heap[b]? = some (cobj 28 ((tEach sSub a d).1))
  e0 : L 0 = true → s 7 = mval a
  e1 : L 1 = true → s 8 = mval d
  z2 : L 2 = true → (tEach sSub a d).2 = 0
  e2 : L 2 = true → s 9 = mval ((tEach sSub a d).1)
set_option maxRecDepth 100000 in
set_option maxHeartbeats 4000000 in
theorem tay_sub1 (A D : Nat) (a d : List (Int × Int)) (ha : a.length = 22) (hd : d.length = 22) (w : World) (h : w.heap[A]? = some (cobj 28 a)) (k : w.heap[D]? = some (cobj 28 d)) :
    Calls Try.prog 68 #[.pointer (some ⟨A, 0, none⟩), .pointer (some ⟨D, 0, none⟩)] w fun e w' => Ends mval (thenE [] (tRight (a ++ d)) fun _ => tEach sSub a d) e ∧ Below w.heap.size w w' := by
  have HL := Lib.hid ha
  have HLD := Lib.hid hd
  have HA0 := Lib.hid h
  have HD0 := Lib.hid k
  clear ha hd h k
  go_enter Try.func68, Try.ntmps68
  refine wp_seq_k fun K0 hK0 => ?_
  have HK0 := Lib.hid hK0
  clear hK0
  go_wp2_with fail
  obtain ⟨b, hb⟩ : ∃ b, w.heap.size = b := ⟨_, rfl⟩
  refine HK0.out _ _ ?_
  refine wp_world (fun V => Mut [] w V ∧ V.heap[A]? = some (cobj 28 a) ∧ V.heap[D]? = some (cobj 28 d) ∧ V.heap[b]? = some (cobj 28 zeroM)) ?_
    (by
      rw [← hb]
      exact ⟨((Mut.refl _ _).alloc _), heap_up _ (HA0.out), heap_up _ (HD0.out), heap_at (cobj 28 zeroM) (by simp)⟩)
  rintro V ⟨hm, hHA, hHD, hHR⟩
  rw [hb]
  have HM := Lib.hid hm
  have HBW := Lib.hid hb
  have HLT := Lib.hid (show A < b ∧ D < b from ⟨hb ▸ lt_of_block HA0.out, hb ▸ lt_of_block HD0.out⟩)
  have HP0 := Lib.hid (show (thenE [] (tRight (a ++ d)) fun _ => tEach sSub a d) = (thenE [] (tRight (a ++ d)) fun _ => tEach sSub a d) from rfl)
  have HA := Lib.hid hHA
  have HD := Lib.hid hHD
  have HR := Lib.hid hHR
  clear hm hHA hHD hHR hb HK0
  refine wp_seq_k fun K1 hK1 => ?_
  have HK1 := Lib.hid hK1
  clear hK1
  refine wp_cut_mergeP [none, none, none, some 3, some 4, some 5, some 6, none, none, none] (fun _ w' => Mut [] V w' ∧ (tRight (a ++ d)).2 = 0) (fun ch w' => ch = brk (fstE [(tRight (a ++ d)).2]) ∧ ¬ fstE [(tRight (a ++ d)).2] = 0 ∧ Mut [] V w') ?_ ?_ ?_
  · intro Q2 hQ2 hP2
    refine (wpIn_wide (n := 0)).1 (show Code.wpIn (G none) 0 _ _ _ _ _ from ?_)
    refine wp_region_G (b := false) (Pn := (fun ch w' => ch = brk (fstE [(tRight (a ++ d)).2]) ∧ ¬ fstE [(tRight (a ++ d)).2] = 0 ∧ Mut [] V w')) (Subw1 V A D a d b) (by kernel_rfl) (by kernel_rfl) ?_ ?_ ?_ ?_
    · exact ⟨Mut.start _ false _, fun h => absurd h Bool.false_ne_true, fun h => absurd h Bool.false_ne_true, fun h => absurd h Bool.false_ne_true, fun h => absurd h Bool.false_ne_true⟩
    · refine AllSP.cons ?_ (AllSP.cons ?_ (AllSP.cons ?_ (AllSP.cons ?_ AllSP.nil)))
      · intro L s w2 h hk hd hn
        have s0 : s 0 = _ := hk 0 (by kernel_rfl)
        have kb := ((h.mu.same _ ((Array.getElem?_eq_some_iff.1 HA.out).1) (by simp)).trans HA.out)
        refine stepSP rfl fun K hK => ?_
        exact rs_load rfl s0 (md_load kb HL.out) (hK _ _ { h with e0 := fun _ => rfl })
      · intro L s w2 h hk hd hn
        have s1 : s 1 = _ := hk 1 (by kernel_rfl)
        have kb := ((h.mu.same _ ((Array.getElem?_eq_some_iff.1 HD.out).1) (by simp)).trans HD.out)
        refine stepSP rfl fun K hK => ?_
        exact rs_load rfl s1 (md_load kb HLD.out) (hK _ _ { h with e1 := fun _ => rfl })
      · intro L s w2 h hk hd hn
        have s3 := h.e0 hd.1
        have s4 := h.e1 hd.2.1
        refine stepSP rfl fun K hK => ?_
        exact rs_build rfl (by simp [evS_tmp, s3, s4]) (bs_both HL.out HLD.out _) (hK _ _ { h with mu := h.mu.alloc _, nb := fun _ => ⟨_, rfl, heap_at _ rfl⟩ })
      · intro L s w2 h hk hd hn
        obtain ⟨q, s5, hq⟩ := h.nb hd.1
        refine stepSP rfl fun K hK => ?_
        go_simp
        refine (tm_right (a ++ d) 2 (by simp [HL.out, HLD.out]) (by omega) q 2 _ hq).mono ?_
        rintro e w3 ⟨⟨hz, v, rfl⟩ | ⟨hz, rfl⟩, hb⟩
        · exact .inl ⟨_, rfl, hK _ _ { h with mu := h.mu.step hb, nb := fun a => let ⟨q, h1, h2⟩ := h.nb a; ⟨q, h1, (hb.block _ (lt_of_block h2)).trans h2⟩, z3 := fun _ => hz }⟩
        · exact .inr ⟨_, rfl, congrArg brk (show (tRight (a ++ d)).2 = fstE [(tRight (a ++ d)).2] from (by rw [fstE_1 (show ¬ (tRight (a ++ d)).2 = 0 from hz)])), (show ¬ fstE [(tRight (a ++ d)).2] = 0 from (by rw [fstE_1 (show ¬ (tRight (a ++ d)).2 = 0 from hz)]; exact hz)), h.mu.step hb⟩
    · intro L s w2 h hk hl
      refine (congrArg (fun a => Q2 .normal a w2) (?_ : _ = _)).mpr (hQ2 s w2 (⟨h.mu, h.z3 (hl 3 (by decide))⟩))
      exact frame_eq hk (by kernel_rfl) (by kernel_rfl)
    · intro c s w2 hc
      exact hP2 _ _ _ hc
  rotate_left
  · rintro e l'' w' ⟨rfl, hz, h2⟩
    have he : (thenE [] (tRight (a ++ d)) fun _ => tEach sSub a d).2 = fstE [(tRight (a ++ d)).2] := by
      have h := hz
      rw [HP0.out]
      first | exact thenE_fst1 h | exact fstE_one.symm | exact fstE_one.symm
    rw [← he] at hz ⊢
    exact ⟨rfl, .inr ⟨hz, rfl⟩, (by rw [← HBW.out]; exact (HM.out.stepM h2 (by simp)).to0)⟩
  rintro s1 V ⟨h1, z1⟩
  simp only [mergeL]
  replace HA := Lib.hid ((h1.same _ (lt_of_block HA.out) (by simp)).trans HA.out)
  replace HD := Lib.hid ((h1.same _ (lt_of_block HD.out) (by simp)).trans HD.out)
  replace HR := Lib.hid ((h1.same _ (lt_of_block HR.out) (by simp)).trans HR.out)
  have HP1 := Lib.hid (show (thenE [] (tRight (a ++ d)) fun _ => tEach sSub a d) = _ from by rw [HP0.out, thenE_ok z1])
  replace HM := Lib.hid (HM.out.stepM h1 (by simp))
  clear h1 z1
  refine HK1.out _ _ ?_
  refine wp_seq_k fun K2 hK2 => ?_
  have HK2 := Lib.hid hK2
  clear hK2
  refine wp_cut_mergeP [none, none, none, none, none, none, none, some 7, some 8, some 9] (fun _ w' => Mut [b] V w' ∧ w'.heap[b]? = some (cobj 28 ((tEach sSub a d).1)) ∧ (tEach sSub a d).2 = 0) (fun ch w' => ch = brk (fstE [(tEach sSub a d).2]) ∧ ¬ fstE [(tEach sSub a d).2] = 0 ∧ Mut [b] V w') ?_ ?_ ?_
  · intro Q2 hQ2 hP2
    refine (wpIn_wide (n := 0)).1 (show Code.wpIn (G none) 0 _ _ _ _ _ from ?_)
    refine wp_region_G (b := false) (Pn := (fun ch w' => ch = brk (fstE [(tEach sSub a d).2]) ∧ ¬ fstE [(tEach sSub a d).2] = 0 ∧ Mut [b] V w')) (Subw2 V A D a d b) (by kernel_rfl) (by kernel_rfl) ?_ ?_ ?_ ?_
    · exact ⟨Mut.start _ false _, fun _ => HR.out, fun h => absurd h Bool.false_ne_true, fun h => absurd h Bool.false_ne_true, fun h => absurd h Bool.false_ne_true, fun h => absurd h Bool.false_ne_true, fun h => absurd h Bool.false_ne_true⟩
    · refine AllSP.cons ?_ (AllSP.cons ?_ (AllSP.cons ?_ (AllSP.cons ?_ AllSP.nil)))
      · intro L s w2 h hk hd hn
        have s0 : s 0 = _ := hk 0 (by kernel_rfl)
        have kb := ((h.mu.same _ ((Array.getElem?_eq_some_iff.1 HA.out).1) (notin1 (by have := HLT.out; omega))).trans HA.out)
        refine stepSP rfl fun K hK => ?_
        exact rs_load rfl s0 (md_load kb HL.out) (hK _ _ { h with e0 := fun _ => rfl })
      · intro L s w2 h hk hd hn
        have s1 : s 1 = _ := hk 1 (by kernel_rfl)
        have kb := ((h.mu.same _ ((Array.getElem?_eq_some_iff.1 HD.out).1) (notin1 (by have := HLT.out; omega))).trans HD.out)
        refine stepSP rfl fun K hK => ?_
        exact rs_load rfl s1 (md_load kb HLD.out) (hK _ _ { h with e1 := fun _ => rfl })
      · intro L s w2 h hk hd hn
        have s7 := h.e0 hd.1
        have s8 := h.e1 hd.2.1
        refine stepSP rfl fun K hK => ?_
        go_simp
        refine (tay_each sSub 69 #[] a d HL.out HLD.out _ (fun x y W => enters_of Try.func69 (by kernel_rfl) rfl _ W) (fun x y W hB => tm_sub x y W)).mono ?_
        rintro e w3 ⟨⟨hz, rfl⟩ | ⟨hz, rfl⟩, hb⟩
        · exact .inl ⟨_, rfl, hK _ _ { h with mu := h.mu.step hb, kt_r := fun a => bk hb (h.kt_r a), kr_r := fun a => bk hb (h.kr_r a), e2 := fun _ => rfl, z2 := fun _ => hz }⟩
        · exact .inr ⟨_, rfl, congrArg brk (show (tEach sSub a d).2 = fstE [(tEach sSub a d).2] from (by rw [fstE_1 (show ¬ (tEach sSub a d).2 = 0 from hz)])), (show ¬ fstE [(tEach sSub a d).2] = 0 from (by rw [fstE_1 (show ¬ (tEach sSub a d).2 = 0 from hz)]; exact hz)), h.mu.step hb⟩
      · intro L s w2 h hk hd hn
        have s2 : s 2 = _ := hk 2 (by kernel_rfl)
        have s9 := h.e2 hd.1
        have kb := h.kt_r hn
        refine stepSP rfl fun K hK => ?_
        exact rs_store rfl s2 s9 (md_store kb rfl _ ((tEach_len (HL.out.trans HLD.out.symm) (h.z2 hd.1)).trans HL.out)) (hK _ _ { h with mu := h.mu.put (List.Mem.head _) _, kt_r := nF, kr_r := fun _ => pH kb })
    · intro L s w2 h hk hl
      refine (congrArg (fun a => Q2 .normal a w2) (?_ : _ = _)).mpr (hQ2 s w2 (⟨h.mu, h.kr_r (hl 3 (by decide)), h.z2 (hl 2 (by decide))⟩))
      exact frame_eq hk (by kernel_rfl) (by kernel_rfl)
    · intro c s w2 hc
      exact hP2 _ _ _ hc
  rotate_left
  · rintro e l'' w' ⟨rfl, hz, h2⟩
    have he : (thenE [] (tRight (a ++ d)) fun _ => tEach sSub a d).2 = fstE [(tEach sSub a d).2] := by
      have h := hz
      rw [HP1.out]
      first | exact thenE_fst1 h | exact fstE_one.symm | exact fstE_one.symm
    rw [← he] at hz ⊢
    exact ⟨rfl, .inr ⟨hz, rfl⟩, (by rw [← HBW.out]; exact (HM.out.stepM h2 (by have := HBW.out; have := HLT.out; intro x hx; simp at hx; right; omega)).to0)⟩
  rintro s2 V ⟨h1, c_r, z1⟩
  simp only [mergeL]
  replace HA := Lib.hid ((h1.same _ (lt_of_block HA.out) (notin1 (by have := HLT.out; omega))).trans HA.out)
  replace HD := Lib.hid ((h1.same _ (lt_of_block HD.out) (notin1 (by have := HLT.out; omega))).trans HD.out)
  replace HR := Lib.hid c_r
  replace HM := Lib.hid (HM.out.stepM h1 (by have := HBW.out; have := HLT.out; intro x hx; simp at hx; right; omega))
  have HZ := Lib.hid z1
  clear h1 c_r z1
  refine HK2.out _ _ ?_
  refine wp_ret ?_
  exact bodyPost_ret (v := mval (tEach sSub a d).1) (res_model Try.results68 rfl (md_loadVar HR.out ((tEach_len (HL.out.trans HLD.out.symm) HZ.out).trans HL.out))) rfl ⟨.inl ⟨by rw [HP1.out]; exact HZ.out, by rw [HP1.out]⟩, by rw [← HBW.out]; exact HM.out.to0⟩
structure Scw1 (V : World) (A : Nat) (D : Nat) (a : List (Int × Int)) (sp : (Int × Int)) (b : Nat) (L : Nat → Bool) (s : Nat → Value) (w : World) : Prop where
  mu : Mut [] V w
  e0 : L 0 = true → s 4 = mval a
  nb : L 1 = true → ∃ q : Nat, s 5 = .slice (some ⟨q, 0, none⟩) 1 1 ∧ w.heap[q]? = some (cobj 28 (a))
  z2 : L 2 = true → (tRight (a)).2 = 0
structure Scw2 (V : World) (A : Nat) (D : Nat) (a : List (Int × Int)) (sp : (Int × Int)) (b : Nat) (L : Nat → Bool) (s : Nat → Value) (w : World) : Prop where
  mu : Mut [] V w
  e0 : L 0 = true → s 7 = sval sp
  e1 : L 1 = true → s 8 = .int .i64 0
  e2 : L 2 = true → s 3 = .int .i64 0
structure Scw5 (V : World) (A : Nat) (D : Nat) (a : List (Int × Int)) (sp : (Int × Int)) (b : Nat) (L : Nat → Bool) (s : Nat → Value) (w : World) : Prop where
  mu : Mut [b] V w
  kt_r : L 3 = false → w.heap[b]? = some (cobj 28 zeroM)
  kr_r : L 3 = true → w.heap[b]? = some (cobj 28 ((tBy sMul a sp).1))
  e0 : L 0 = true → s 14 = mval a
  e1 : L 1 = true → s 15 = sval sp
  z2 : L 2 = true → (tBy sMul a (sp)).2 = 0
  e2 : L 2 = true → s 16 = mval ((tBy sMul a (sp)).1)
set_option maxRecDepth 100000 in
set_option maxHeartbeats 4000000 in
theorem tay_scale1 (A D : Nat) (a : List (Int × Int)) (sp : Int × Int) (ha : a.length = 22) (hs : okS sp) (w : World) (h : w.heap[A]? = some (cobj 28 a)) (k : w.heap[D]? = some (cobj 25 [sp])) :
    Calls Try.prog 63 #[.pointer (some ⟨A, 0, none⟩), .pointer (some ⟨D, 0, none⟩)] w fun e w' => Ends mval (thenE [] (tRight a) fun _ => tBy sMul a sp) e ∧ Below w.heap.size w w' := by
  have HL := Lib.hid ha
  have HOK := Lib.hid hs
  have HA0 := Lib.hid h
  have HD0 := Lib.hid k
  clear ha hs h k
  go_enter Try.func63, Try.ntmps63
  refine wp_seq_k fun K0 hK0 => ?_
  have HK0 := Lib.hid hK0
  clear hK0
  go_wp2_with fail
  obtain ⟨b, hb⟩ : ∃ b, w.heap.size = b := ⟨_, rfl⟩
  refine HK0.out _ _ ?_
  refine wp_world (fun V => Mut [] w V ∧ V.heap[A]? = some (cobj 28 a) ∧ V.heap[D]? = some (cobj 25 [sp]) ∧ V.heap[b]? = some (cobj 28 zeroM)) ?_
    (by
      rw [← hb]
      exact ⟨((Mut.refl _ _).alloc _), heap_up _ (HA0.out), heap_up _ (HD0.out), heap_at (cobj 28 zeroM) (by simp)⟩)
  rintro V ⟨hm, hHA, hHD, hHR⟩
  rw [hb]
  have HM := Lib.hid hm
  have HBW := Lib.hid hb
  have HLT := Lib.hid (show A < b ∧ D < b from ⟨hb ▸ lt_of_block HA0.out, hb ▸ lt_of_block HD0.out⟩)
  have HP0 := Lib.hid (show (thenE [] (tRight a) fun _ => tBy sMul a sp) = (thenE [] (tRight a) fun _ => tBy sMul a sp) from rfl)
  have HA := Lib.hid hHA
  have HD := Lib.hid hHD
  have HR := Lib.hid hHR
  clear hm hHA hHD hHR hb HK0
  refine wp_seq_k fun K1 hK1 => ?_
  have HK1 := Lib.hid hK1
  clear hK1
  refine wp_cut_mergeP [none, none, none, none, some 4, some 5, some 6, none, none, none, none, none, none, none, none, none, none] (fun _ w' => Mut [] V w' ∧ (tRight (a)).2 = 0) (fun ch w' => ch = brk (fstE [(tRight (a)).2]) ∧ ¬ fstE [(tRight (a)).2] = 0 ∧ Mut [] V w') ?_ ?_ ?_
  · intro Q2 hQ2 hP2
    refine (wpIn_wide (n := 0)).1 (show Code.wpIn (G none) 0 _ _ _ _ _ from ?_)
    refine wp_region_G (b := false) (Pn := (fun ch w' => ch = brk (fstE [(tRight (a)).2]) ∧ ¬ fstE [(tRight (a)).2] = 0 ∧ Mut [] V w')) (Scw1 V A D a sp b) (by kernel_rfl) (by kernel_rfl) ?_ ?_ ?_ ?_
    · exact ⟨Mut.start _ false _, fun h => absurd h Bool.false_ne_true, fun h => absurd h Bool.false_ne_true, fun h => absurd h Bool.false_ne_true⟩
    · refine AllSP.cons ?_ (AllSP.cons ?_ (AllSP.cons ?_ AllSP.nil))
      · intro L s w2 h hk hd hn
        have s0 : s 0 = _ := hk 0 (by kernel_rfl)
        have kb := ((h.mu.same _ ((Array.getElem?_eq_some_iff.1 HA.out).1) (by simp)).trans HA.out)
        refine stepSP rfl fun K hK => ?_
        exact rs_load rfl s0 (md_load kb HL.out) (hK _ _ { h with e0 := fun _ => rfl })
      · intro L s w2 h hk hd hn
        have s4 := h.e0 hd.1
        refine stepSP rfl fun K hK => ?_
        exact rs_build rfl (by simp [evS_tmp, s4]) (bs_one HL.out _) (hK _ _ { h with mu := h.mu.alloc _, nb := fun _ => ⟨_, rfl, heap_at _ rfl⟩ })
      · intro L s w2 h hk hd hn
        obtain ⟨q, s5, hq⟩ := h.nb hd.1
        refine stepSP rfl fun K hK => ?_
        go_simp
        refine (tm_right (a) 1 (by simp [HL.out]) (by omega) q 1 _ hq).mono ?_
        rintro e w3 ⟨⟨hz, v, rfl⟩ | ⟨hz, rfl⟩, hb⟩
        · exact .inl ⟨_, rfl, hK _ _ { h with mu := h.mu.step hb, nb := fun a => let ⟨q, h1, h2⟩ := h.nb a; ⟨q, h1, (hb.block _ (lt_of_block h2)).trans h2⟩, z2 := fun _ => hz }⟩
        · exact .inr ⟨_, rfl, congrArg brk (show (tRight (a)).2 = fstE [(tRight (a)).2] from (by rw [fstE_1 (show ¬ (tRight (a)).2 = 0 from hz)])), (show ¬ fstE [(tRight (a)).2] = 0 from (by rw [fstE_1 (show ¬ (tRight (a)).2 = 0 from hz)]; exact hz)), h.mu.step hb⟩
    · intro L s w2 h hk hl
      refine (congrArg (fun a => Q2 .normal a w2) (?_ : _ = _)).mpr (hQ2 s w2 (⟨h.mu, h.z2 (hl 2 (by decide))⟩))
      exact frame_eq hk (by kernel_rfl) (by kernel_rfl)
    · intro c s w2 hc
      exact hP2 _ _ _ hc
  rotate_left
  · rintro e l'' w' ⟨rfl, hz, h2⟩
    have he : (thenE [] (tRight a) fun _ => tBy sMul a sp).2 = fstE [(tRight (a)).2] := by
      have h := hz
      rw [HP0.out]
      first | exact thenE_fst1 h | exact fstE_one.symm | exact fstE_one.symm
    rw [← he] at hz ⊢
    exact ⟨rfl, .inr ⟨hz, rfl⟩, (by rw [← HBW.out]; exact (HM.out.stepM h2 (by simp)).to0)⟩
  rintro s1 V ⟨h1, z1⟩
  simp only [mergeL]
  replace HA := Lib.hid ((h1.same _ (lt_of_block HA.out) (by simp)).trans HA.out)
  replace HD := Lib.hid ((h1.same _ (lt_of_block HD.out) (by simp)).trans HD.out)
  replace HR := Lib.hid ((h1.same _ (lt_of_block HR.out) (by simp)).trans HR.out)
  have HP1 := Lib.hid (show (thenE [] (tRight a) fun _ => tBy sMul a sp) = _ from by rw [HP0.out, thenE_ok z1])
  replace HM := Lib.hid (HM.out.stepM h1 (by simp))
  clear h1 z1
  refine HK1.out _ _ ?_
  refine wp_seq_k fun KA hKA => ?_
  have HKA := Lib.hid hKA
  clear hKA
  refine wp_seq_k fun K2 hK2 => ?_
  have HK2 := Lib.hid hK2
  clear hK2
  refine wp_cut_mergeP [none, none, none, some 3, none, none, none, some 7, some 8, none, none, none, none, none, none, none, none] (fun s w' => Mut [] V w' ∧ s 3 = .int .i64 0) (fun _ _ => False) ?_ ?_ ?_
  · intro Q2 hQ2 hP2
    refine (wpIn_wide (n := 0)).1 (show Code.wpIn (G none) 0 _ _ _ _ _ from ?_)
    refine wp_region_G (b := false) (Pn := (fun _ _ => False)) (Scw2 V A D a sp b) (by kernel_rfl) (by kernel_rfl) ?_ ?_ ?_ ?_
    · exact ⟨Mut.start _ false _, fun h => absurd h Bool.false_ne_true, fun h => absurd h Bool.false_ne_true, fun h => absurd h Bool.false_ne_true⟩
    · refine AllSP.cons ?_ (AllSP.cons ?_ (AllSP.cons ?_ AllSP.nil))
      · intro L s w2 h hk hd hn
        have s1 : s 1 = _ := hk 1 (by kernel_rfl)
        have kb := ((h.mu.same _ ((Array.getElem?_eq_some_iff.1 HD.out).1) (by simp)).trans HD.out)
        refine stepSP rfl fun K hK => ?_
        exact rs_load rfl s1 (sp_load (p := 0) kb (by simp)) (hK _ _ { h with e0 := fun _ => rfl })
      · intro L s w2 h hk hd hn
        have s7 := h.e0 hd.1
        refine stepSP rfl fun K hK => ?_
        go_simp
        refine (span_Check_ok HOK.out _).mono ?_
        rintro e w3 ⟨rfl, hb⟩
        exact .inl ⟨_, rfl, hK _ _ { h with mu := h.mu.step hb, e1 := fun _ => rfl }⟩
      · intro L s w2 h hk hd hn
        have s8 := h.e1 hd.1
        refine stepSP rfl fun K hK => ?_
        exact rs_assign rfl s8 (hK _ _ { h with e2 := fun _ => rfl })
    · intro L s w2 h hk hl
      refine (congrArg (fun a => Q2 .normal a w2) (?_ : _ = _)).mpr (hQ2 s w2 (⟨h.mu, h.e2 (hl 2 (by decide))⟩))
      exact frame_eq hk (by kernel_rfl) (by kernel_rfl)
    · intro c s w2 hc
      exact hc.elim
  rotate_left
  · rintro _ _ _ h
    exact h.elim
  rintro s2 V ⟨h1, k3⟩
  simp only [mergeL]
  rw [k3]
  replace HA := Lib.hid ((h1.same _ (lt_of_block HA.out) (by simp)).trans HA.out)
  replace HD := Lib.hid ((h1.same _ (lt_of_block HD.out) (by simp)).trans HD.out)
  replace HR := Lib.hid ((h1.same _ (lt_of_block HR.out) (by simp)).trans HR.out)
  replace HM := Lib.hid (HM.out.stepM h1 (by simp))
  clear h1 k3
  refine HK2.out _ _ ?_
  go_wp2_with fail
  refine HKA.out _ _ ?_
  refine wp_seq_k fun K5 hK5 => ?_
  have HK5 := Lib.hid hK5
  clear hK5
  refine wp_cut_mergeP [none, none, none, none, none, none, none, none, none, none, none, none, none, none, some 14, some 15, some 16] (fun _ w' => Mut [b] V w' ∧ w'.heap[b]? = some (cobj 28 ((tBy sMul a sp).1)) ∧ (tBy sMul a (sp)).2 = 0) (fun ch w' => ch = brk (fstE [(tBy sMul a (sp)).2]) ∧ ¬ fstE [(tBy sMul a (sp)).2] = 0 ∧ Mut [b] V w') ?_ ?_ ?_
  · intro Q2 hQ2 hP2
    refine (wpIn_wide (n := 0)).1 (show Code.wpIn (G none) 0 _ _ _ _ _ from ?_)
    refine wp_region_G (b := false) (Pn := (fun ch w' => ch = brk (fstE [(tBy sMul a (sp)).2]) ∧ ¬ fstE [(tBy sMul a (sp)).2] = 0 ∧ Mut [b] V w')) (Scw5 V A D a sp b) (by kernel_rfl) (by kernel_rfl) ?_ ?_ ?_ ?_
    · exact ⟨Mut.start _ false _, fun _ => HR.out, fun h => absurd h Bool.false_ne_true, fun h => absurd h Bool.false_ne_true, fun h => absurd h Bool.false_ne_true, fun h => absurd h Bool.false_ne_true, fun h => absurd h Bool.false_ne_true⟩
    · refine AllSP.cons ?_ (AllSP.cons ?_ (AllSP.cons ?_ (AllSP.cons ?_ AllSP.nil)))
      · intro L s w2 h hk hd hn
        have s0 : s 0 = _ := hk 0 (by kernel_rfl)
        have kb := ((h.mu.same _ ((Array.getElem?_eq_some_iff.1 HA.out).1) (notin1 (by have := HLT.out; omega))).trans HA.out)
        refine stepSP rfl fun K hK => ?_
        exact rs_load rfl s0 (md_load kb HL.out) (hK _ _ { h with e0 := fun _ => rfl })
      · intro L s w2 h hk hd hn
        have s1 : s 1 = _ := hk 1 (by kernel_rfl)
        have kb := ((h.mu.same _ ((Array.getElem?_eq_some_iff.1 HD.out).1) (notin1 (by have := HLT.out; omega))).trans HD.out)
        refine stepSP rfl fun K hK => ?_
        exact rs_load rfl s1 (sp_load (p := 0) kb (by simp)) (hK _ _ { h with e1 := fun _ => rfl })
      · intro L s w2 h hk hd hn
        have s14 := h.e0 hd.1
        have s15 := h.e1 hd.2.1
        refine stepSP rfl fun K hK => ?_
        go_simp
        refine (tay_by_Mul a HL.out (sp) _).mono ?_
        rintro e w3 ⟨⟨hz, rfl⟩ | ⟨hz, rfl⟩, hb⟩
        · exact .inl ⟨_, rfl, hK _ _ { h with mu := h.mu.step hb, kt_r := fun a => bk hb (h.kt_r a), kr_r := fun a => bk hb (h.kr_r a), e2 := fun _ => rfl, z2 := fun _ => hz }⟩
        · exact .inr ⟨_, rfl, congrArg brk (show (tBy sMul a (sp)).2 = fstE [(tBy sMul a (sp)).2] from (by rw [fstE_1 (show ¬ (tBy sMul a (sp)).2 = 0 from hz)])), (show ¬ fstE [(tBy sMul a (sp)).2] = 0 from (by rw [fstE_1 (show ¬ (tBy sMul a (sp)).2 = 0 from hz)]; exact hz)), h.mu.step hb⟩
      · intro L s w2 h hk hd hn
        have s2 : s 2 = _ := hk 2 (by kernel_rfl)
        have s16 := h.e2 hd.1
        have kb := h.kt_r hn
        refine stepSP rfl fun K hK => ?_
        exact rs_store rfl s2 s16 (md_store kb rfl _ ((tEach_len rfl (h.z2 hd.1)).trans HL.out)) (hK _ _ { h with mu := h.mu.put (List.Mem.head _) _, kt_r := nF, kr_r := fun _ => pH kb })
    · intro L s w2 h hk hl
      refine (congrArg (fun a => Q2 .normal a w2) (?_ : _ = _)).mpr (hQ2 s w2 (⟨h.mu, h.kr_r (hl 3 (by decide)), h.z2 (hl 2 (by decide))⟩))
      exact frame_eq hk (by kernel_rfl) (by kernel_rfl)
    · intro c s w2 hc
      exact hP2 _ _ _ hc
  rotate_left
  · rintro e l'' w' ⟨rfl, hz, h2⟩
    have he : (thenE [] (tRight a) fun _ => tBy sMul a sp).2 = fstE [(tBy sMul a (sp)).2] := by
      have h := hz
      rw [HP1.out]
      first | exact thenE_fst1 h | exact fstE_one.symm | exact fstE_one.symm
    rw [← he] at hz ⊢
    exact ⟨rfl, .inr ⟨hz, rfl⟩, (by rw [← HBW.out]; exact (HM.out.stepM h2 (by have := HBW.out; have := HLT.out; intro x hx; simp at hx; right; omega)).to0)⟩
  rintro s5 V ⟨h1, c_r, z1⟩
  simp only [mergeL]
  replace HA := Lib.hid ((h1.same _ (lt_of_block HA.out) (notin1 (by have := HLT.out; omega))).trans HA.out)
  replace HD := Lib.hid ((h1.same _ (lt_of_block HD.out) (notin1 (by have := HLT.out; omega))).trans HD.out)
  replace HR := Lib.hid c_r
  replace HM := Lib.hid (HM.out.stepM h1 (by have := HBW.out; have := HLT.out; intro x hx; simp at hx; right; omega))
  have HZ := Lib.hid z1
  clear h1 c_r z1
  refine HK5.out _ _ ?_
  refine wp_ret ?_
  exact bodyPost_ret (v := mval (tBy sMul a sp).1) (res_model Try.results63 rfl (md_loadVar HR.out ((tEach_len rfl HZ.out).trans HL.out))) rfl ⟨.inl ⟨by rw [HP1.out]; exact HZ.out, by rw [HP1.out]⟩, by rw [← HBW.out]; exact HM.out.to0⟩
end Go.Proofs.Ythhkcfpljgdnhaa
