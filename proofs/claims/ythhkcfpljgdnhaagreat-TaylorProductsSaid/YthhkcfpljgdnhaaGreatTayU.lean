/- Package taylor: Mul, Bound, Inverse. Printed by wip/genTU.py. -/
import Derived.Test.YthhkcfpljgdnhaaGreatTayQ
namespace Go.Proofs.YthhkcfpljgdnhaaGreat
open Go.RowKit Mnc
attribute [local go_sem] RunSP_value RunSP_skip RunSP_enter evS_tmp evS_const evS_global evS_func
/-- The product of two models, or its first error. -/
def xMul (a : List (Int × Int)) (d : List (Int × Int)) : List (Int × Int) × Int := (orZ zeroM (thenE [] (tRight (a ++ d)) fun _ => tProduct a d), (thenE [] (tRight (a ++ d)) fun _ => tProduct a d).2)
theorem xMulLen (a : List (Int × Int)) (d : List (Int × Int)) (ha : a.length = 22) (hd : d.length = 22) : (xMul a d).1.length = 22 := by
 have _ := ha
 have _ := hd
 show (orZ zeroM (thenE [] (tRight (a ++ d)) fun _ => tProduct a d)).length = 22
 unfold orZ
 by_cases h : (thenE [] (tRight (a ++ d)) fun _ => tProduct a d).2 = 0
 ·rw [if_pos h]
  exact (show (thenE [] (tRight (a ++ d)) fun _ => tProduct a d).2 = 0 → _ from fun h => thenE_ind (fun x => x.length = 22) h fun _ _ h => tProduct_len h) h
 ·rw [if_neg h]
  rfl
structure EMul1 (V : World) (b : Nat) (a : List (Int × Int)) (d : List (Int × Int)) (L : Nat → Bool) (s : Nat → Value) (w : World) : Prop where
 mu : Mut [b + 1 + 1] V w
 kt_r : L 4 = false → w.heap[b + 1 + 1]? = some (cobj 34 zeroM)
 kr_r : L 4 = true → w.heap[b + 1 + 1]? = some (cobj 34 ((xMul a d).1))
 e0 : L 0 = true → s 6 = .func (.func 26) #[] #[.pointer (some ⟨b, 0, none⟩), .pointer (some ⟨b + 1, 0, none⟩)]
 e1 : L 1 = true → s 7 = .tuple #[mval (xMul a d).1, .int .i64 (xMul a d).2]
 e2 : L 2 = true → s 8 = mval ((xMul a d).1)
 e3 : L 3 = true → s 9 = .int .i64 ((xMul a d).2)
 e5 : L 5 = true → s 5 = .int .i64 ((xMul a d).2)
set_option maxRecDepth 100000 in
set_option maxHeartbeats 4000000 in
theorem taw_Mul (a : List (Int × Int)) (d : List (Int × Int)) (ha : a.length = 22) (hd : d.length = 22) (w : World) :
  Calls Tryz.prog 8 #[mval a, mval d] w fun e w' => e = .returned (.tuple #[mval (xMul a d).1, .int .i64 (xMul a d).2]) ∧ Below w.heap.size w w' := by
 have HLa := lh ha
 have HLd := lh hd
 clear ha hd
 go_enter Tryz.func8, Tryz.ntmps8
 refine wsk fun K0 HK0 => ?_
 go_wp2_with fail
 rename_i xa csa hca xd csd hcd
 obtain rfl : (mc a).toArray = csa := Value.agg.inj hca
 obtain rfl : (mc d).toArray = csd := Value.agg.inj hcd
 clear hca hcd
 obtain ⟨b, hb⟩ : ∃ b, w.heap.size = b := ⟨_, rfl⟩
 refine HK0.out _ _ ?_
 refine wp_world (fun V => Mut [] w V ∧ V.heap[b]? = some (cobj 34 a) ∧ V.heap[b + 1]? = some (cobj 34 d) ∧ V.heap[b + 1 + 1]? = some (cobj 34 zeroM)) ?_
  (by
   rw [← hb]
   exact ⟨((((Mut.refl _ _).alloc _).alloc _).alloc _), heap_up _ (heap_up _ (heap_at (cobj 34 a) (by simp))), heap_up _ (heap_at (cobj 34 d) (by simp)), heap_at (cobj 34 zeroM) (by simp)⟩)
 rintro V ⟨hm, hHBa, hHBd, hHR⟩
 rw [hb]
 have HM := lh hm
 have HBW := lh hb
 have HLT := lh trivial
 have HBa := lh hHBa
 have HBd := lh hHBd
 have HR := lh hHR
 clear hm hHBa hHBd hHR hb HK0
 refine wsk fun K1 HK1 => ?_
 refine wp_cut_mergeP (nn :: nn :: nn :: nn :: nn :: some 5 :: some 6 :: some 7 :: some 8 :: some 9 :: []) (fun s w' => Mut [b + 1 + 1] V w' ∧ w'.heap[b + 1 + 1]? = some (cobj 34 ((xMul a d).1)) ∧ s 5 = .int .i64 ((xMul a d).2)) (fun _ _ => False) ?_ ?_ ?_
 ·intro Q2 hQ2 hP2
  refine wpG ?_
  refine wp_region_G (b := false) (Pn := (fun _ _ => False)) (EMul1 V b a d) (by kernel_rfl) (by kernel_rfl) ?_ ?_ ?_ ?_
  ·exact ⟨Mut.start _ false _, fun _ => HR.out, nB, nB, nB, nB, nB, nB⟩
  ·refine AllSP.cons ?_ (AllSP.cons ?_ (AllSP.cons ?_ (AllSP.cons ?_ (AllSP.cons ?_ (AllSP.cons ?_ AllSP.nil)))))
   ·intro L s w2 h hk hd hn
    have s2 : s 2 = _ := hk 2 (by kernel_rfl)
    have s3 : s 3 = _ := hk 3 (by kernel_rfl)
    refine sP fun K hK => ?_
    exact rs_makeFunc rfl (cs := #[.pointer (some ⟨b, 0, none⟩), .pointer (some ⟨b + 1, 0, none⟩)]) (by simp [evS_tmp, s2, s3]) (hK _ _ { h with e0 := fun _ => rfl })
   ·intro L s w2 h hk hd hn
    have s6 := h.e0 hd.1
    refine sP fun K hK => ?_
    go_simp
    have kb0 := (h.mu.same _ (lt_of_block HBa.out) (notin1 (by omega))).trans HBa.out
    have kb1 := (h.mu.same _ (lt_of_block HBd.out) (notin1 (by omega))).trans HBd.out
    refine (tay_caught_m 26 #[.pointer (some ⟨b, 0, none⟩), .pointer (some ⟨b + 1, 0, none⟩)] (thenE [] (tRight (a ++ d)) fun _ => tProduct a d) (fun h => thenE_ind (fun x => x.length = 22) h fun _ _ h => tProduct_len h) _ (fun W => enters_of Tryz.func26 (by kernel_rfl) rfl _ W) (fun W hB => tay_mul1 (b) (b + 1) a d HLa.out HLd.out W ((hB.block _ (lt_of_block kb0)).trans kb0) ((hB.block _ (lt_of_block kb1)).trans kb1))).mono ?_
    rintro e w3 ⟨rfl, hb⟩
    exact .inl ⟨_, rfl, hK _ _ { h with mu := h.mu.step hb, kt_r := fun a => bk hb (h.kt_r a), kr_r := fun a => bk hb (h.kr_r a), e1 := fun _ => rfl }⟩
   ·intro L s w2 h hk hd hn
    have s7 := h.e1 hd.1
    refine sP fun K hK => ?_
    exact rs_extract rfl s7 rfl (hK _ _ { h with e2 := fun _ => rfl })
   ·intro L s w2 h hk hd hn
    have s7 := h.e1 hd.1
    refine sP fun K hK => ?_
    exact rs_extract rfl s7 rfl (hK _ _ { h with e3 := fun _ => rfl })
   ·intro L s w2 h hk hd hn
    have s4 : s 4 = _ := hk 4 (by kernel_rfl)
    have s8 := h.e2 hd.1
    have kb := h.kt_r hn
    refine sP fun K hK => ?_
    exact rs_store rfl s4 s8 (md_store kb rfl _ (xMulLen a d HLa.out HLd.out)) (hK _ _ { h with mu := h.mu.put (List.Mem.head _) _, kt_r := nF, kr_r := fun _ => pH kb })
   ·intro L s w2 h hk hd hn
    have s9 := h.e3 hd.1
    refine sP fun K hK => ?_
    exact rs_assign rfl s9 (hK _ _ { h with e5 := fun _ => rfl })
  ·intro L s w2 h hk hl
   refine cA ?_ (hQ2 s w2 (⟨h.mu, h.kr_r (hl 4 (by decide)), h.e5 (hl 5 (by decide))⟩))
   exact frame_eq hk (by kernel_rfl) (by kernel_rfl)
  ·intro c s w2 hc
   exact hc.elim
 rotate_left
 ·rintro _ _ _ h
  exact h.elim
 rintro s1 V ⟨h1, c_r, k5⟩
 simp only [mergeL]
 rw [k5]
 replace HBa := lh ((h1.same _ (lt_of_block HBa.out) (notin1 (by have := HLT.out; omega))).trans HBa.out)
 replace HBd := lh ((h1.same _ (lt_of_block HBd.out) (notin1 (by have := HLT.out; omega))).trans HBd.out)
 replace HR := lh c_r
 replace HM := lh (HM.out.stepM h1 (by have := HBW.out; have := HLT.out; intro x hx; simp at hx; right; omega))
 clear h1 c_r k5
 refine HK1.out _ _ ?_
 have HLX := lh (xMulLen a d HLa.out HLd.out)
 refine wp_ret ?_
 exact bodyPost_ret (v := .tuple #[mval (xMul a d).1, .int .i64 (xMul a d).2]) (res_slot Tryz.results8 rfl rfl (md_loadVar HR.out HLX.out)) rfl ⟨rfl, by rw [← HBW.out]; exact HM.out.to0⟩
/-- The bound of a model, or the first error. -/
def xBound (a : List (Int × Int)) : (Int × Int) × Int := (orZ ((0, 0) : Int × Int) (thenE (0, 0) (tRight a) fun _ => tBound a), (thenE (0, 0) (tRight a) fun _ => tBound a).2)
structure EBound1 (V : World) (b : Nat) (a : List (Int × Int)) (L : Nat → Bool) (s : Nat → Value) (w : World) : Prop where
 mu : Mut [b + 1] V w
 kt_r : L 4 = false → w.heap[b + 1]? = some (cobj 31 ([(0, 0)]))
 kr_r : L 4 = true → w.heap[b + 1]? = some (cobj 31 ([(xBound a).1]))
 e0 : L 0 = true → s 4 = .func (.func 33) #[] #[.pointer (some ⟨b, 0, none⟩)]
 e1 : L 1 = true → s 5 = .tuple #[sval (xBound a).1, .int .i64 (xBound a).2]
 e2 : L 2 = true → s 6 = sval ((xBound a).1)
 e3 : L 3 = true → s 7 = .int .i64 ((xBound a).2)
 e5 : L 5 = true → s 3 = .int .i64 ((xBound a).2)
set_option maxRecDepth 100000 in
set_option maxHeartbeats 4000000 in
theorem taw_Bound (a : List (Int × Int)) (ha : a.length = 22) (w : World) :
  Calls Tryz.prog 10 #[mval a] w fun e w' => e = .returned (.tuple #[sval (xBound a).1, .int .i64 (xBound a).2]) ∧ Below w.heap.size w w' := by
 have HLa := lh ha
 clear ha
 go_enter Tryz.func10, Tryz.ntmps10
 refine wsk fun K0 HK0 => ?_
 go_wp2_with fail
 rename_i xa csa hca
 obtain rfl : (mc a).toArray = csa := Value.agg.inj hca
 clear hca
 obtain ⟨b, hb⟩ : ∃ b, w.heap.size = b := ⟨_, rfl⟩
 refine HK0.out _ _ ?_
 refine wp_world (fun V => Mut [] w V ∧ V.heap[b]? = some (cobj 34 a) ∧ V.heap[b + 1]? = some (cobj 31 [(0, 0)])) ?_
  (by
   rw [← hb]
   exact ⟨(((Mut.refl _ _).alloc _).alloc _), heap_up _ (heap_at (cobj 34 a) (by simp)), heap_at (cobj 31 [(0, 0)]) (by simp)⟩)
 rintro V ⟨hm, hHBa, hHR⟩
 rw [hb]
 have HM := lh hm
 have HBW := lh hb
 have HLT := lh trivial
 have HBa := lh hHBa
 have HR := lh hHR
 clear hm hHBa hHR hb HK0
 refine wsk fun K1 HK1 => ?_
 refine wp_cut_mergeP (nn :: nn :: nn :: some 3 :: some 4 :: some 5 :: some 6 :: some 7 :: []) (fun s w' => Mut [b + 1] V w' ∧ w'.heap[b + 1]? = some (cobj 31 ([(xBound a).1])) ∧ s 3 = .int .i64 ((xBound a).2)) (fun _ _ => False) ?_ ?_ ?_
 ·intro Q2 hQ2 hP2
  refine wpG ?_
  refine wp_region_G (b := false) (Pn := (fun _ _ => False)) (EBound1 V b a) (by kernel_rfl) (by kernel_rfl) ?_ ?_ ?_ ?_
  ·exact ⟨Mut.start _ false _, fun _ => HR.out, nB, nB, nB, nB, nB, nB⟩
  ·refine AllSP.cons ?_ (AllSP.cons ?_ (AllSP.cons ?_ (AllSP.cons ?_ (AllSP.cons ?_ (AllSP.cons ?_ AllSP.nil)))))
   ·intro L s w2 h hk hd hn
    have s1 : s 1 = _ := hk 1 (by kernel_rfl)
    refine sP fun K hK => ?_
    exact rs_makeFunc rfl (cs := #[.pointer (some ⟨b, 0, none⟩)]) (by simp [evS_tmp, s1]) (hK _ _ { h with e0 := fun _ => rfl })
   ·intro L s w2 h hk hd hn
    have s4 := h.e0 hd.1
    refine sP fun K hK => ?_
    go_simp
    have kb0 := (h.mu.same _ (lt_of_block HBa.out) (notin1 (by omega))).trans HBa.out
    refine (tay_caught_s 33 #[.pointer (some ⟨b, 0, none⟩)] (thenE (0, 0) (tRight a) fun _ => tBound a) _ (fun W => enters_of Tryz.func33 (by kernel_rfl) rfl _ W) (fun W hB => tay_bound1 (b) a HLa.out W ((hB.block _ (lt_of_block kb0)).trans kb0))).mono ?_
    rintro e w3 ⟨rfl, hb⟩
    exact .inl ⟨_, rfl, hK _ _ { h with mu := h.mu.step hb, kt_r := fun a => bk hb (h.kt_r a), kr_r := fun a => bk hb (h.kr_r a), e1 := fun _ => rfl }⟩
   ·intro L s w2 h hk hd hn
    have s5 := h.e1 hd.1
    refine sP fun K hK => ?_
    exact rs_extract rfl s5 rfl (hK _ _ { h with e2 := fun _ => rfl })
   ·intro L s w2 h hk hd hn
    have s5 := h.e1 hd.1
    refine sP fun K hK => ?_
    exact rs_extract rfl s5 rfl (hK _ _ { h with e3 := fun _ => rfl })
   ·intro L s w2 h hk hd hn
    have s2 : s 2 = _ := hk 2 (by kernel_rfl)
    have s6 := h.e2 hd.1
    have kb := h.kt_r hn
    refine sP fun K hK => ?_
    exact rs_store rfl s2 s6 (sp_store (p := 0) kb (by simp) ((xBound a).1)) (hK _ _ { h with mu := h.mu.put (List.Mem.head _) _, kt_r := nF, kr_r := fun _ => pH kb })
   ·intro L s w2 h hk hd hn
    have s7 := h.e3 hd.1
    refine sP fun K hK => ?_
    exact rs_assign rfl s7 (hK _ _ { h with e5 := fun _ => rfl })
  ·intro L s w2 h hk hl
   refine cA ?_ (hQ2 s w2 (⟨h.mu, h.kr_r (hl 4 (by decide)), h.e5 (hl 5 (by decide))⟩))
   exact frame_eq hk (by kernel_rfl) (by kernel_rfl)
  ·intro c s w2 hc
   exact hc.elim
 rotate_left
 ·rintro _ _ _ h
  exact h.elim
 rintro s1 V ⟨h1, c_r, k3⟩
 simp only [mergeL]
 rw [k3]
 replace HBa := lh ((h1.same _ (lt_of_block HBa.out) (notin1 (by have := HLT.out; omega))).trans HBa.out)
 replace HR := lh c_r
 replace HM := lh (HM.out.stepM h1 (by have := HBW.out; have := HLT.out; intro x hx; simp at hx; right; omega))
 clear h1 c_r k3
 refine HK1.out _ _ ?_
 refine wp_ret ?_
 exact bodyPost_ret (v := .tuple #[sval (xBound a).1, .int .i64 (xBound a).2]) (res_slot Tryz.results10 rfl rfl (sp_loadVar HR.out)) rfl ⟨rfl, by rw [← HBW.out]; exact HM.out.to0⟩
theorem tBy_len {f : Int × Int → Int × Int → (Int × Int) × Int} {a : List (Int × Int)} {s : Int × Int} (h : (tBy f a s).2 = 0) : (tBy f a s).1.length = a.length := tEach_len rfl h
theorem tInverse_len {a : List (Int × Int)} (_ : a.length = 22) (h : (tInverse a).2 = 0) : (tInverse a).1.length = 22 := by
 unfold tInverse at h ⊢
 by_cases h0 : (tAt a 0).1 ≤ 0 ∧ 0 ≤ (tAt a 0).2
 ·simp [h0] at h
 rw [if_neg h0] at h ⊢
 refine thenE_ind (fun x => x.length = 22) h fun r _ h => ?_
 by_cases h1 : r.2.2.1 ≤ 0
 ·simp [h1] at h
 rw [if_neg h1] at h ⊢
 refine thenE_ind (fun x => x.length = 22) h fun m hm h => ?_
 have hl : m.length = 22 := by
  have := tSeries_len (h := r.1) (l := [4294967296, -4294967296, 4294967296, -4294967296, 4294967296]) (m := zeroM.set 0 (-4294967296, -4294967296)) (by simp [zeroM]) (by rw [hm])
  rw [hm] at this
  exact this
 iterate 4 refine thenE_ind (fun x => x.length = 22) h fun _ _ h => ?_
 refine (tBy_len h).trans ?_
 simpa using hl
/-- The reciprocal of a model, or the first error. -/
def xInverse (a : List (Int × Int)) : List (Int × Int) × Int := (orZ zeroM (thenE [] (tRight a) fun _ => tInverse a), (thenE [] (tRight a) fun _ => tInverse a).2)
theorem xInverseLen (a : List (Int × Int)) (ha : a.length = 22) : (xInverse a).1.length = 22 := by
 have _ := ha
 show (orZ zeroM (thenE [] (tRight a) fun _ => tInverse a)).length = 22
 unfold orZ
 by_cases h : (thenE [] (tRight a) fun _ => tInverse a).2 = 0
 ·rw [if_pos h]
  exact (show (thenE [] (tRight a) fun _ => tInverse a).2 = 0 → _ from fun h => thenE_ind (fun x => x.length = 22) h fun _ _ h => tInverse_len ha h) h
 ·rw [if_neg h]
  rfl
structure EInverse1 (V : World) (b : Nat) (a : List (Int × Int)) (L : Nat → Bool) (s : Nat → Value) (w : World) : Prop where
 mu : Mut [b + 1] V w
 kt_r : L 4 = false → w.heap[b + 1]? = some (cobj 34 zeroM)
 kr_r : L 4 = true → w.heap[b + 1]? = some (cobj 34 ((xInverse a).1))
 e0 : L 0 = true → s 4 = .func (.func 38) #[] #[.pointer (some ⟨b, 0, none⟩)]
 e1 : L 1 = true → s 5 = .tuple #[mval (xInverse a).1, .int .i64 (xInverse a).2]
 e2 : L 2 = true → s 6 = mval ((xInverse a).1)
 e3 : L 3 = true → s 7 = .int .i64 ((xInverse a).2)
 e5 : L 5 = true → s 3 = .int .i64 ((xInverse a).2)
set_option maxRecDepth 100000 in
set_option maxHeartbeats 4000000 in
theorem taw_Inverse (a : List (Int × Int)) (ha : a.length = 22) (w : World) :
  Calls Tryz.prog 16 #[mval a] w fun e w' => e = .returned (.tuple #[mval (xInverse a).1, .int .i64 (xInverse a).2]) ∧ Below w.heap.size w w' := by
 have HLa := lh ha
 clear ha
 go_enter Tryz.func16, Tryz.ntmps16
 refine wsk fun K0 HK0 => ?_
 go_wp2_with fail
 rename_i xa csa hca
 obtain rfl : (mc a).toArray = csa := Value.agg.inj hca
 clear hca
 obtain ⟨b, hb⟩ : ∃ b, w.heap.size = b := ⟨_, rfl⟩
 refine HK0.out _ _ ?_
 refine wp_world (fun V => Mut [] w V ∧ V.heap[b]? = some (cobj 34 a) ∧ V.heap[b + 1]? = some (cobj 34 zeroM)) ?_
  (by
   rw [← hb]
   exact ⟨(((Mut.refl _ _).alloc _).alloc _), heap_up _ (heap_at (cobj 34 a) (by simp)), heap_at (cobj 34 zeroM) (by simp)⟩)
 rintro V ⟨hm, hHBa, hHR⟩
 rw [hb]
 have HM := lh hm
 have HBW := lh hb
 have HLT := lh trivial
 have HBa := lh hHBa
 have HR := lh hHR
 clear hm hHBa hHR hb HK0
 refine wsk fun K1 HK1 => ?_
 refine wp_cut_mergeP (nn :: nn :: nn :: some 3 :: some 4 :: some 5 :: some 6 :: some 7 :: []) (fun s w' => Mut [b + 1] V w' ∧ w'.heap[b + 1]? = some (cobj 34 ((xInverse a).1)) ∧ s 3 = .int .i64 ((xInverse a).2)) (fun _ _ => False) ?_ ?_ ?_
 ·intro Q2 hQ2 hP2
  refine wpG ?_
  refine wp_region_G (b := false) (Pn := (fun _ _ => False)) (EInverse1 V b a) (by kernel_rfl) (by kernel_rfl) ?_ ?_ ?_ ?_
  ·exact ⟨Mut.start _ false _, fun _ => HR.out, nB, nB, nB, nB, nB, nB⟩
  ·refine AllSP.cons ?_ (AllSP.cons ?_ (AllSP.cons ?_ (AllSP.cons ?_ (AllSP.cons ?_ (AllSP.cons ?_ AllSP.nil)))))
   ·intro L s w2 h hk hd hn
    have s1 : s 1 = _ := hk 1 (by kernel_rfl)
    refine sP fun K hK => ?_
    exact rs_makeFunc rfl (cs := #[.pointer (some ⟨b, 0, none⟩)]) (by simp [evS_tmp, s1]) (hK _ _ { h with e0 := fun _ => rfl })
   ·intro L s w2 h hk hd hn
    have s4 := h.e0 hd.1
    refine sP fun K hK => ?_
    go_simp
    have kb0 := (h.mu.same _ (lt_of_block HBa.out) (notin1 (by omega))).trans HBa.out
    refine (tay_caught_m 38 #[.pointer (some ⟨b, 0, none⟩)] (thenE [] (tRight a) fun _ => tInverse a) (fun h => thenE_ind (fun x => x.length = 22) h fun _ _ h => tInverse_len HLa.out h) _ (fun W => enters_of Tryz.func38 (by kernel_rfl) rfl _ W) (fun W hB => tay_inverse1 (b) a HLa.out W ((hB.block _ (lt_of_block kb0)).trans kb0))).mono ?_
    rintro e w3 ⟨rfl, hb⟩
    exact .inl ⟨_, rfl, hK _ _ { h with mu := h.mu.step hb, kt_r := fun a => bk hb (h.kt_r a), kr_r := fun a => bk hb (h.kr_r a), e1 := fun _ => rfl }⟩
   ·intro L s w2 h hk hd hn
    have s5 := h.e1 hd.1
    refine sP fun K hK => ?_
    exact rs_extract rfl s5 rfl (hK _ _ { h with e2 := fun _ => rfl })
   ·intro L s w2 h hk hd hn
    have s5 := h.e1 hd.1
    refine sP fun K hK => ?_
    exact rs_extract rfl s5 rfl (hK _ _ { h with e3 := fun _ => rfl })
   ·intro L s w2 h hk hd hn
    have s2 : s 2 = _ := hk 2 (by kernel_rfl)
    have s6 := h.e2 hd.1
    have kb := h.kt_r hn
    refine sP fun K hK => ?_
    exact rs_store rfl s2 s6 (md_store kb rfl _ (xInverseLen a HLa.out)) (hK _ _ { h with mu := h.mu.put (List.Mem.head _) _, kt_r := nF, kr_r := fun _ => pH kb })
   ·intro L s w2 h hk hd hn
    have s7 := h.e3 hd.1
    refine sP fun K hK => ?_
    exact rs_assign rfl s7 (hK _ _ { h with e5 := fun _ => rfl })
  ·intro L s w2 h hk hl
   refine cA ?_ (hQ2 s w2 (⟨h.mu, h.kr_r (hl 4 (by decide)), h.e5 (hl 5 (by decide))⟩))
   exact frame_eq hk (by kernel_rfl) (by kernel_rfl)
  ·intro c s w2 hc
   exact hc.elim
 rotate_left
 ·rintro _ _ _ h
  exact h.elim
 rintro s1 V ⟨h1, c_r, k3⟩
 simp only [mergeL]
 rw [k3]
 replace HBa := lh ((h1.same _ (lt_of_block HBa.out) (notin1 (by have := HLT.out; omega))).trans HBa.out)
 replace HR := lh c_r
 replace HM := lh (HM.out.stepM h1 (by have := HBW.out; have := HLT.out; intro x hx; simp at hx; right; omega))
 clear h1 c_r k3
 refine HK1.out _ _ ?_
 have HLX := lh (xInverseLen a HLa.out)
 refine wp_ret ?_
 exact bodyPost_ret (v := .tuple #[mval (xInverse a).1, .int .i64 (xInverse a).2]) (res_slot Tryz.results16 rfl rfl (md_loadVar HR.out HLX.out)) rfl ⟨rfl, by rw [← HBW.out]; exact HM.out.to0⟩
end Go.Proofs.YthhkcfpljgdnhaaGreat
