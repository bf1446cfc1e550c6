/- Package taylor: Add, Sub, Scale. Printed by wip/genTW.py. -/
import Derived.Test.YthhkcfpljgdnhaaTayU
import Derived.Test.YthhkcfpljgdnhaaTayW
namespace Go.Proofs.Ythhkcfpljgdnhaa
open Go.RowKit Mnc
attribute [local go_sem] RunSP_value RunSP_skip RunSP_enter evS_tmp evS_const evS_global evS_func
/-- The sum of two models, or the first error. -/
def xAdd (a : List (Int × Int)) (d : List (Int × Int)) : List (Int × Int) × Int := (orZ zeroM (thenE [] (tRight (a ++ d)) fun _ => tEach sAdd a d), (thenE [] (tRight (a ++ d)) fun _ => tEach sAdd a d).2)
theorem xAddLen (a : List (Int × Int)) (d : List (Int × Int)) (ha : a.length = 22) (hd : d.length = 22) : (xAdd a d).1.length = 22 := by
  have _ := ha
  have _ := hd
  show (orZ zeroM (thenE [] (tRight (a ++ d)) fun _ => tEach sAdd a d)).length = 22
  unfold orZ
  by_cases h : (thenE [] (tRight (a ++ d)) fun _ => tEach sAdd a d).2 = 0
  · rw [if_pos h]
    exact (show (thenE [] (tRight (a ++ d)) fun _ => tEach sAdd a d).2 = 0 → _ from fun h => thenE_ind (fun x => x.length = 22) h fun _ _ h => (tEach_len (ha.trans hd.symm) h).trans ha) h
  · rw [if_neg h]
    rfl
structure EAdd1 (V : World) (b : Nat) (a : List (Int × Int)) (d : List (Int × Int)) (L : Nat → Bool) (s : Nat → Value) (w : World) : Prop where
  mu : Mut [b + 1 + 1] V w
  kt_r : L 4 = false → w.heap[b + 1 + 1]? = some (cobj 28 zeroM)
  kr_r : L 4 = true → w.heap[b + 1 + 1]? = some (cobj 28 ((xAdd a d).1))
  e0 : L 0 = true → s 6 = .func (.func 66) #[] #[.pointer (some ⟨b, 0, none⟩), .pointer (some ⟨b + 1, 0, none⟩)]
  e1 : L 1 = true → s 7 = .tuple #[mval (xAdd a d).1, .int .i64 (xAdd a d).2]
  e2 : L 2 = true → s 8 = mval ((xAdd a d).1)
  e3 : L 3 = true → s 9 = .int .i64 ((xAdd a d).2)
  e5 : L 5 = true → s 5 = .int .i64 ((xAdd a d).2)
set_option maxRecDepth 100000 in
set_option maxHeartbeats 4000000 in
theorem taw_Add (a : List (Int × Int)) (d : List (Int × Int)) (ha : a.length = 22) (hd : d.length = 22) (w : World) :
    Calls Try.prog 31 #[mval a, mval d] w fun e w' => e = .returned (.tuple #[mval (xAdd a d).1, .int .i64 (xAdd a d).2]) ∧ Below w.heap.size w w' := by
  have HLa := Lib.hid ha
  have HLd := Lib.hid hd
  clear ha hd
  go_enter Try.func31, Try.ntmps31
  refine wp_seq_k fun K0 hK0 => ?_
  have HK0 := Lib.hid hK0
  clear hK0
  go_wp2_with fail
  rename_i xa csa hca xd csd hcd
  obtain rfl : (mc a).toArray = csa := Value.agg.inj hca
  obtain rfl : (mc d).toArray = csd := Value.agg.inj hcd
  clear hca hcd
  obtain ⟨b, hb⟩ : ∃ b, w.heap.size = b := ⟨_, rfl⟩
  refine HK0.out _ _ ?_
  refine wp_world (fun V => Mut [] w V ∧ V.heap[b]? = some (cobj 28 a) ∧ V.heap[b + 1]? = some (cobj 28 d) ∧ V.heap[b + 1 + 1]? = some (cobj 28 zeroM)) ?_
    (by
      rw [← hb]
      exact ⟨((((Mut.refl _ _).alloc _).alloc _).alloc _), heap_up _ (heap_up _ (heap_at (cobj 28 a) (by simp))), heap_up _ (heap_at (cobj 28 d) (by simp)), heap_at (cobj 28 zeroM) (by simp)⟩)
  rintro V ⟨hm, hHBa, hHBd, hHR⟩
  rw [hb]
  have HM := Lib.hid hm
  have HBW := Lib.hid hb
  have HLT := Lib.hid trivial
  have HBa := Lib.hid hHBa
  have HBd := Lib.hid hHBd
  have HR := Lib.hid hHR
  clear hm hHBa hHBd hHR hb HK0
  refine wp_seq_k fun K1 hK1 => ?_
  have HK1 := Lib.hid hK1
  clear hK1
  refine wp_cut_mergeP [none, none, none, none, none, some 5, some 6, some 7, some 8, some 9] (fun s w' => Mut [b + 1 + 1] V w' ∧ w'.heap[b + 1 + 1]? = some (cobj 28 ((xAdd a d).1)) ∧ s 5 = .int .i64 ((xAdd a d).2)) (fun _ _ => False) ?_ ?_ ?_
  · intro Q2 hQ2 hP2
    refine (wpIn_wide (n := 0)).1 (show Code.wpIn (G none) 0 _ _ _ _ _ from ?_)
    refine wp_region_G (b := false) (Pn := (fun _ _ => False)) (EAdd1 V b a d) (by kernel_rfl) (by kernel_rfl) ?_ ?_ ?_ ?_
    · exact ⟨Mut.start _ false _, fun _ => HR.out, fun h => absurd h Bool.false_ne_true, fun h => absurd h Bool.false_ne_true, fun h => absurd h Bool.false_ne_true, fun h => absurd h Bool.false_ne_true, fun h => absurd h Bool.false_ne_true, fun h => absurd h Bool.false_ne_true⟩
    · refine AllSP.cons ?_ (AllSP.cons ?_ (AllSP.cons ?_ (AllSP.cons ?_ (AllSP.cons ?_ (AllSP.cons ?_ AllSP.nil)))))
      · intro L s w2 h hk hd hn
        have s2 : s 2 = _ := hk 2 (by kernel_rfl)
        have s3 : s 3 = _ := hk 3 (by kernel_rfl)
        refine stepSP rfl fun K hK => ?_
        exact rs_makeFunc rfl (cs := #[.pointer (some ⟨b, 0, none⟩), .pointer (some ⟨b + 1, 0, none⟩)]) (by simp [evS_tmp, s2, s3]) (hK _ _ { h with e0 := fun _ => rfl })
      · intro L s w2 h hk hd hn
        have s6 := h.e0 hd.1
        refine stepSP rfl fun K hK => ?_
        go_simp
        have kb0 := (h.mu.same _ (lt_of_block HBa.out) (notin1 (by omega))).trans HBa.out
        have kb1 := (h.mu.same _ (lt_of_block HBd.out) (notin1 (by omega))).trans HBd.out
        refine (tay_caught_m 66 #[.pointer (some ⟨b, 0, none⟩), .pointer (some ⟨b + 1, 0, none⟩)] (thenE [] (tRight (a ++ d)) fun _ => tEach sAdd a d) (fun h => thenE_ind (fun x => x.length = 22) h fun _ _ h => (tEach_len (HLa.out.trans HLd.out.symm) h).trans HLa.out) _ (fun W => enters_of Try.func66 (by kernel_rfl) rfl _ W) (fun W hB => tay_add1 (b) (b + 1) a d HLa.out HLd.out W ((hB.block _ (lt_of_block kb0)).trans kb0) ((hB.block _ (lt_of_block kb1)).trans kb1))).mono ?_
        rintro e w3 ⟨rfl, hb⟩
        exact .inl ⟨_, rfl, hK _ _ { h with mu := h.mu.step hb, kt_r := fun a => bk hb (h.kt_r a), kr_r := fun a => bk hb (h.kr_r a), e1 := fun _ => rfl }⟩
      · intro L s w2 h hk hd hn
        have s7 := h.e1 hd.1
        refine stepSP rfl fun K hK => ?_
        exact rs_extract rfl s7 rfl (hK _ _ { h with e2 := fun _ => rfl })
      · intro L s w2 h hk hd hn
        have s7 := h.e1 hd.1
        refine stepSP rfl fun K hK => ?_
        exact rs_extract rfl s7 rfl (hK _ _ { h with e3 := fun _ => rfl })
      · intro L s w2 h hk hd hn
        have s4 : s 4 = _ := hk 4 (by kernel_rfl)
        have s8 := h.e2 hd.1
        have kb := h.kt_r hn
        refine stepSP rfl fun K hK => ?_
        exact rs_store rfl s4 s8 (md_store kb rfl _ (xAddLen a d HLa.out HLd.out)) (hK _ _ { h with mu := h.mu.put (List.Mem.head _) _, kt_r := nF, kr_r := fun _ => pH kb })
      · intro L s w2 h hk hd hn
        have s9 := h.e3 hd.1
        refine stepSP rfl fun K hK => ?_
        exact rs_assign rfl s9 (hK _ _ { h with e5 := fun _ => rfl })
    · intro L s w2 h hk hl
      refine (congrArg (fun a => Q2 .normal a w2) (?_ : _ = _)).mpr (hQ2 s w2 (⟨h.mu, h.kr_r (hl 4 (by decide)), h.e5 (hl 5 (by decide))⟩))
      exact frame_eq hk (by kernel_rfl) (by kernel_rfl)
    · intro c s w2 hc
      exact hc.elim
  rotate_left
  · rintro _ _ _ h
    exact h.elim
  rintro s1 V ⟨h1, c_r, k5⟩
  simp only [mergeL]
  rw [k5]
  replace HBa := Lib.hid ((h1.same _ (lt_of_block HBa.out) (notin1 (by have := HLT.out; omega))).trans HBa.out)
  replace HBd := Lib.hid ((h1.same _ (lt_of_block HBd.out) (notin1 (by have := HLT.out; omega))).trans HBd.out)
  replace HR := Lib.hid c_r
  replace HM := Lib.hid (HM.out.stepM h1 (by have := HBW.out; have := HLT.out; intro x hx; simp at hx; right; omega))
  clear h1 c_r k5
  refine HK1.out _ _ ?_
  have HLX := Lib.hid (xAddLen a d HLa.out HLd.out)
  refine wp_ret ?_
  exact bodyPost_ret (v := .tuple #[mval (xAdd a d).1, .int .i64 (xAdd a d).2]) (res_slot Try.results31 rfl rfl (md_loadVar HR.out HLX.out)) rfl ⟨rfl, by rw [← HBW.out]; exact HM.out.to0⟩
/-- The difference of two models, or the first error. -/
def xSub (a : List (Int × Int)) (d : List (Int × Int)) : List (Int × Int) × Int := (orZ zeroM (thenE [] (tRight (a ++ d)) fun _ => tEach sSub a d), (thenE [] (tRight (a ++ d)) fun _ => tEach sSub a d).2)
theorem xSubLen (a : List (Int × Int)) (d : List (Int × Int)) (ha : a.length = 22) (hd : d.length = 22) : (xSub a d).1.length = 22 := by
  have _ := ha
  have _ := hd
  show (orZ zeroM (thenE [] (tRight (a ++ d)) fun _ => tEach sSub a d)).length = 22
  unfold orZ
  by_cases h : (thenE [] (tRight (a ++ d)) fun _ => tEach sSub a d).2 = 0
  · rw [if_pos h]
    exact (show (thenE [] (tRight (a ++ d)) fun _ => tEach sSub a d).2 = 0 → _ from fun h => thenE_ind (fun x => x.length = 22) h fun _ _ h => (tEach_len (ha.trans hd.symm) h).trans ha) h
  · rw [if_neg h]
    rfl
structure ESub1 (V : World) (b : Nat) (a : List (Int × Int)) (d : List (Int × Int)) (L : Nat → Bool) (s : Nat → Value) (w : World) : Prop where
  mu : Mut [b + 1 + 1] V w
  kt_r : L 4 = false → w.heap[b + 1 + 1]? = some (cobj 28 zeroM)
  kr_r : L 4 = true → w.heap[b + 1 + 1]? = some (cobj 28 ((xSub a d).1))
  e0 : L 0 = true → s 6 = .func (.func 68) #[] #[.pointer (some ⟨b, 0, none⟩), .pointer (some ⟨b + 1, 0, none⟩)]
  e1 : L 1 = true → s 7 = .tuple #[mval (xSub a d).1, .int .i64 (xSub a d).2]
  e2 : L 2 = true → s 8 = mval ((xSub a d).1)
  e3 : L 3 = true → s 9 = .int .i64 ((xSub a d).2)
  e5 : L 5 = true → s 5 = .int .i64 ((xSub a d).2)
set_option maxRecDepth 100000 in
set_option maxHeartbeats 4000000 in
theorem taw_Sub (a : List (Int × Int)) (d : List (Int × Int)) (ha : a.length = 22) (hd : d.length = 22) (w : World) :
    Calls Try.prog 32 #[mval a, mval d] w fun e w' => e = .returned (.tuple #[mval (xSub a d).1, .int .i64 (xSub a d).2]) ∧ Below w.heap.size w w' := by
  have HLa := Lib.hid ha
  have HLd := Lib.hid hd
  clear ha hd
  go_enter Try.func32, Try.ntmps32
  refine wp_seq_k fun K0 hK0 => ?_
  have HK0 := Lib.hid hK0
  clear hK0
  go_wp2_with fail
  rename_i xa csa hca xd csd hcd
  obtain rfl : (mc a).toArray = csa := Value.agg.inj hca
  obtain rfl : (mc d).toArray = csd := Value.agg.inj hcd
  clear hca hcd
  obtain ⟨b, hb⟩ : ∃ b, w.heap.size = b := ⟨_, rfl⟩
  refine HK0.out _ _ ?_
  refine wp_world (fun V => Mut [] w V ∧ V.heap[b]? = some (cobj 28 a) ∧ V.heap[b + 1]? = some (cobj 28 d) ∧ V.heap[b + 1 + 1]? = some (cobj 28 zeroM)) ?_
    (by
      rw [← hb]
      exact ⟨((((Mut.refl _ _).alloc _).alloc _).alloc _), heap_up _ (heap_up _ (heap_at (cobj 28 a) (by simp))), heap_up _ (heap_at (cobj 28 d) (by simp)), heap_at (cobj 28 zeroM) (by simp)⟩)
  rintro V ⟨hm, hHBa, hHBd, hHR⟩
  rw [hb]
  have HM := Lib.hid hm
  have HBW := Lib.hid hb
  have HLT := Lib.hid trivial
  have HBa := Lib.hid hHBa
  have HBd := Lib.hid hHBd
  have HR := Lib.hid hHR
  clear hm hHBa hHBd hHR hb HK0
  refine wp_seq_k fun K1 hK1 => ?_
  have HK1 := Lib.hid hK1
  clear hK1
  refine wp_cut_mergeP [none, none, none, none, none, some 5, some 6, some 7, some 8, some 9] (fun s w' => Mut [b + 1 + 1] V w' ∧ w'.heap[b + 1 + 1]? = some (cobj 28 ((xSub a d).1)) ∧ s 5 = .int .i64 ((xSub a d).2)) (fun _ _ => False) ?_ ?_ ?_
  · intro Q2 hQ2 hP2
    refine (wpIn_wide (n := 0)).1 (show Code.wpIn (G none) 0 _ _ _ _ _ from ?_)
    refine wp_region_G (b := false) (Pn := (fun _ _ => False)) (ESub1 V b a d) (by kernel_rfl) (by kernel_rfl) ?_ ?_ ?_ ?_
    · exact ⟨Mut.start _ false _, fun _ => HR.out, fun h => absurd h Bool.false_ne_true, fun h => absurd h Bool.false_ne_true, fun h => absurd h Bool.false_ne_true, fun h => absurd h Bool.false_ne_true, fun h => absurd h Bool.false_ne_true, fun h => absurd h Bool.false_ne_true⟩
    · refine AllSP.cons ?_ (AllSP.cons ?_ (AllSP.cons ?_ (AllSP.cons ?_ (AllSP.cons ?_ (AllSP.cons ?_ AllSP.nil)))))
      · intro L s w2 h hk hd hn
        have s2 : s 2 = _ := hk 2 (by kernel_rfl)
        have s3 : s 3 = _ := hk 3 (by kernel_rfl)
        refine stepSP rfl fun K hK => ?_
        exact rs_makeFunc rfl (cs := #[.pointer (some ⟨b, 0, none⟩), .pointer (some ⟨b + 1, 0, none⟩)]) (by simp [evS_tmp, s2, s3]) (hK _ _ { h with e0 := fun _ => rfl })
      · intro L s w2 h hk hd hn
        have s6 := h.e0 hd.1
        refine stepSP rfl fun K hK => ?_
        go_simp
        have kb0 := (h.mu.same _ (lt_of_block HBa.out) (notin1 (by omega))).trans HBa.out
        have kb1 := (h.mu.same _ (lt_of_block HBd.out) (notin1 (by omega))).trans HBd.out
        refine (tay_caught_m 68 #[.pointer (some ⟨b, 0, none⟩), .pointer (some ⟨b + 1, 0, none⟩)] (thenE [] (tRight (a ++ d)) fun _ => tEach sSub a d) (fun h => thenE_ind (fun x => x.length = 22) h fun _ _ h => (tEach_len (HLa.out.trans HLd.out.symm) h).trans HLa.out) _ (fun W => enters_of Try.func68 (by kernel_rfl) rfl _ W) (fun W hB => tay_sub1 (b) (b + 1) a d HLa.out HLd.out W ((hB.block _ (lt_of_block kb0)).trans kb0) ((hB.block _ (lt_of_block kb1)).trans kb1))).mono ?_
        rintro e w3 ⟨rfl, hb⟩
        exact .inl ⟨_, rfl, hK _ _ { h with mu := h.mu.step hb, kt_r := fun a => bk hb (h.kt_r a), kr_r := fun a => bk hb (h.kr_r a), e1 := fun _ => rfl }⟩
      · intro L s w2 h hk hd hn
        have s7 := h.e1 hd.1
        refine stepSP rfl fun K hK => ?_
        exact rs_extract rfl s7 rfl (hK _ _ { h with e2 := fun _ => rfl })
      · intro L s w2 h hk hd hn
        have s7 := h.e1 hd.1
        refine stepSP rfl fun K hK => ?_
        exact rs_extract rfl s7 rfl (hK _ _ { h with e3 := fun _ => rfl })
      · intro L s w2 h hk hd hn
        have s4 : s 4 = _ := hk 4 (by kernel_rfl)
        have s8 := h.e2 hd.1
        have kb := h.kt_r hn
        refine stepSP rfl fun K hK => ?_
        exact rs_store rfl s4 s8 (md_store kb rfl _ (xSubLen a d HLa.out HLd.out)) (hK _ _ { h with mu := h.mu.put (List.Mem.head _) _, kt_r := nF, kr_r := fun _ => pH kb })
      · intro L s w2 h hk hd hn
        have s9 := h.e3 hd.1
        refine stepSP rfl fun K hK => ?_
        exact rs_assign rfl s9 (hK _ _ { h with e5 := fun _ => rfl })
    · intro L s w2 h hk hl
      refine (congrArg (fun a => Q2 .normal a w2) (?_ : _ = _)).mpr (hQ2 s w2 (⟨h.mu, h.kr_r (hl 4 (by decide)), h.e5 (hl 5 (by decide))⟩))
      exact frame_eq hk (by kernel_rfl) (by kernel_rfl)
    · intro c s w2 hc
      exact hc.elim
  rotate_left
  · rintro _ _ _ h
    exact h.elim
  rintro s1 V ⟨h1, c_r, k5⟩
  simp only [mergeL]
  rw [k5]
  replace HBa := Lib.hid ((h1.same _ (lt_of_block HBa.out) (notin1 (by have := HLT.out; omega))).trans HBa.out)
  replace HBd := Lib.hid ((h1.same _ (lt_of_block HBd.out) (notin1 (by have := HLT.out; omega))).trans HBd.out)
  replace HR := Lib.hid c_r
  replace HM := Lib.hid (HM.out.stepM h1 (by have := HBW.out; have := HLT.out; intro x hx; simp at hx; right; omega))
  clear h1 c_r k5
  refine HK1.out _ _ ?_
  have HLX := Lib.hid (xSubLen a d HLa.out HLd.out)
  refine wp_ret ?_
  exact bodyPost_ret (v := .tuple #[mval (xSub a d).1, .int .i64 (xSub a d).2]) (res_slot Try.results32 rfl rfl (md_loadVar HR.out HLX.out)) rfl ⟨rfl, by rw [← HBW.out]; exact HM.out.to0⟩
/-- A model times an interval that is right, or the first error. -/
def xScale (a : List (Int × Int)) (sp : (Int × Int)) : List (Int × Int) × Int := (orZ zeroM (thenE [] (tRight a) fun _ => tBy sMul a sp), (thenE [] (tRight a) fun _ => tBy sMul a sp).2)
theorem xScaleLen (a : List (Int × Int)) (sp : (Int × Int)) (ha : a.length = 22) : (xScale a sp).1.length = 22 := by
  have _ := ha
  show (orZ zeroM (thenE [] (tRight a) fun _ => tBy sMul a sp)).length = 22
  unfold orZ
  by_cases h : (thenE [] (tRight a) fun _ => tBy sMul a sp).2 = 0
  · rw [if_pos h]
    exact (show (thenE [] (tRight a) fun _ => tBy sMul a sp).2 = 0 → _ from fun h => thenE_ind (fun x => x.length = 22) h fun _ _ h => (tEach_len rfl h).trans ha) h
  · rw [if_neg h]
    rfl
structure EScale1 (V : World) (b : Nat) (a : List (Int × Int)) (sp : (Int × Int)) (L : Nat → Bool) (s : Nat → Value) (w : World) : Prop where
  mu : Mut [b + 1 + 1] V w
  kt_r : L 4 = false → w.heap[b + 1 + 1]? = some (cobj 28 zeroM)
  kr_r : L 4 = true → w.heap[b + 1 + 1]? = some (cobj 28 ((xScale a sp).1))
  e0 : L 0 = true → s 6 = .func (.func 63) #[] #[.pointer (some ⟨b, 0, none⟩), .pointer (some ⟨b + 1, 0, none⟩)]
  e1 : L 1 = true → s 7 = .tuple #[mval (xScale a sp).1, .int .i64 (xScale a sp).2]
  e2 : L 2 = true → s 8 = mval ((xScale a sp).1)
  e3 : L 3 = true → s 9 = .int .i64 ((xScale a sp).2)
  e5 : L 5 = true → s 5 = .int .i64 ((xScale a sp).2)
set_option maxRecDepth 100000 in
set_option maxHeartbeats 4000000 in
theorem taw_Scale (a : List (Int × Int)) (sp : (Int × Int)) (ha : a.length = 22) (hok : okS sp) (w : World) :
    Calls Try.prog 29 #[mval a, sval sp] w fun e w' => e = .returned (.tuple #[mval (xScale a sp).1, .int .i64 (xScale a sp).2]) ∧ Below w.heap.size w w' := by
  have HLa := Lib.hid ha
  have HOK := Lib.hid hok
  clear ha hok
  rw [show sval sp = .agg #[.int .i64 sp.1, .int .i64 sp.2] from rfl]
  go_enter Try.func29, Try.ntmps29
  refine wp_seq_k fun K0 hK0 => ?_
  have HK0 := Lib.hid hK0
  clear hK0
  go_wp2_with fail
  rename_i xa csa hca
  obtain rfl : (mc a).toArray = csa := Value.agg.inj hca
  clear hca
  obtain ⟨b, hb⟩ : ∃ b, w.heap.size = b := ⟨_, rfl⟩
  refine HK0.out _ _ ?_
  refine wp_world (fun V => Mut [] w V ∧ V.heap[b]? = some (cobj 28 a) ∧ V.heap[b + 1]? = some (cobj 25 [sp]) ∧ V.heap[b + 1 + 1]? = some (cobj 28 zeroM)) ?_
    (by
      rw [← hb]
      exact ⟨((((Mut.refl _ _).alloc _).alloc _).alloc _), heap_up _ (heap_up _ (heap_at (cobj 28 a) (by simp))), heap_up _ (heap_at (cobj 25 [sp]) (by simp)), heap_at (cobj 28 zeroM) (by simp)⟩)
  rintro V ⟨hm, hHBa, hHBsp, hHR⟩
  rw [hb]
  have HM := Lib.hid hm
  have HBW := Lib.hid hb
  have HLT := Lib.hid trivial
  have HBa := Lib.hid hHBa
  have HBsp := Lib.hid hHBsp
  have HR := Lib.hid hHR
  clear hm hHBa hHBsp hHR hb HK0
  refine wp_seq_k fun K1 hK1 => ?_
  have HK1 := Lib.hid hK1
  clear hK1
  refine wp_cut_mergeP [none, none, none, none, none, some 5, some 6, some 7, some 8, some 9] (fun s w' => Mut [b + 1 + 1] V w' ∧ w'.heap[b + 1 + 1]? = some (cobj 28 ((xScale a sp).1)) ∧ s 5 = .int .i64 ((xScale a sp).2)) (fun _ _ => False) ?_ ?_ ?_
  · intro Q2 hQ2 hP2
    refine (wpIn_wide (n := 0)).1 (show Code.wpIn (G none) 0 _ _ _ _ _ from ?_)
    refine wp_region_G (b := false) (Pn := (fun _ _ => False)) (EScale1 V b a sp) (by kernel_rfl) (by kernel_rfl) ?_ ?_ ?_ ?_
    · exact ⟨Mut.start _ false _, fun _ => HR.out, fun h => absurd h Bool.false_ne_true, fun h => absurd h Bool.false_ne_true, fun h => absurd h Bool.false_ne_true, fun h => absurd h Bool.false_ne_true, fun h => absurd h Bool.false_ne_true, fun h => absurd h Bool.false_ne_true⟩
    · refine AllSP.cons ?_ (AllSP.cons ?_ (AllSP.cons ?_ (AllSP.cons ?_ (AllSP.cons ?_ (AllSP.cons ?_ AllSP.nil)))))
      · intro L s w2 h hk hd hn
        have s2 : s 2 = _ := hk 2 (by kernel_rfl)
        have s3 : s 3 = _ := hk 3 (by kernel_rfl)
        refine stepSP rfl fun K hK => ?_
        exact rs_makeFunc rfl (cs := #[.pointer (some ⟨b, 0, none⟩), .pointer (some ⟨b + 1, 0, none⟩)]) (by simp [evS_tmp, s2, s3]) (hK _ _ { h with e0 := fun _ => rfl })
      · intro L s w2 h hk hd hn
        have s6 := h.e0 hd.1
        refine stepSP rfl fun K hK => ?_
        go_simp
        have kb0 := (h.mu.same _ (lt_of_block HBa.out) (notin1 (by omega))).trans HBa.out
        have kb1 := (h.mu.same _ (lt_of_block HBsp.out) (notin1 (by omega))).trans HBsp.out
        refine (tay_caught_m 63 #[.pointer (some ⟨b, 0, none⟩), .pointer (some ⟨b + 1, 0, none⟩)] (thenE [] (tRight a) fun _ => tBy sMul a sp) (fun h => thenE_ind (fun x => x.length = 22) h fun _ _ h => (tEach_len rfl h).trans HLa.out) _ (fun W => enters_of Try.func63 (by kernel_rfl) rfl _ W) (fun W hB => tay_scale1 (b) (b + 1) a sp HLa.out HOK.out W ((hB.block _ (lt_of_block kb0)).trans kb0) ((hB.block _ (lt_of_block kb1)).trans kb1))).mono ?_
        rintro e w3 ⟨rfl, hb⟩
        exact .inl ⟨_, rfl, hK _ _ { h with mu := h.mu.step hb, kt_r := fun a => bk hb (h.kt_r a), kr_r := fun a => bk hb (h.kr_r a), e1 := fun _ => rfl }⟩
      · intro L s w2 h hk hd hn
        have s7 := h.e1 hd.1
        refine stepSP rfl fun K hK => ?_
        exact rs_extract rfl s7 rfl (hK _ _ { h with e2 := fun _ => rfl })
      · intro L s w2 h hk hd hn
        have s7 := h.e1 hd.1
        refine stepSP rfl fun K hK => ?_
        exact rs_extract rfl s7 rfl (hK _ _ { h with e3 := fun _ => rfl })
      · intro L s w2 h hk hd hn
        have s4 : s 4 = _ := hk 4 (by kernel_rfl)
        have s8 := h.e2 hd.1
        have kb := h.kt_r hn
        refine stepSP rfl fun K hK => ?_
        exact rs_store rfl s4 s8 (md_store kb rfl _ (xScaleLen a sp HLa.out)) (hK _ _ { h with mu := h.mu.put (List.Mem.head _) _, kt_r := nF, kr_r := fun _ => pH kb })
      · intro L s w2 h hk hd hn
        have s9 := h.e3 hd.1
        refine stepSP rfl fun K hK => ?_
        exact rs_assign rfl s9 (hK _ _ { h with e5 := fun _ => rfl })
    · intro L s w2 h hk hl
      refine (congrArg (fun a => Q2 .normal a w2) (?_ : _ = _)).mpr (hQ2 s w2 (⟨h.mu, h.kr_r (hl 4 (by decide)), h.e5 (hl 5 (by decide))⟩))
      exact frame_eq hk (by kernel_rfl) (by kernel_rfl)
    · intro c s w2 hc
      exact hc.elim
  rotate_left
  · rintro _ _ _ h
    exact h.elim
  rintro s1 V ⟨h1, c_r, k5⟩
  simp only [mergeL]
  rw [k5]
  replace HBa := Lib.hid ((h1.same _ (lt_of_block HBa.out) (notin1 (by have := HLT.out; omega))).trans HBa.out)
  replace HBsp := Lib.hid ((h1.same _ (lt_of_block HBsp.out) (notin1 (by have := HLT.out; omega))).trans HBsp.out)
  replace HR := Lib.hid c_r
  replace HM := Lib.hid (HM.out.stepM h1 (by have := HBW.out; have := HLT.out; intro x hx; simp at hx; right; omega))
  clear h1 c_r k5
  refine HK1.out _ _ ?_
  have HLX := Lib.hid (xScaleLen a sp HLa.out)
  refine wp_ret ?_
  exact bodyPost_ret (v := .tuple #[mval (xScale a sp).1, .int .i64 (xScale a sp).2]) (res_slot Try.results29 rfl rfl (md_loadVar HR.out HLX.out)) rfl ⟨rfl, by rw [← HBW.out]; exact HM.out.to0⟩
end Go.Proofs.Ythhkcfpljgdnhaa
