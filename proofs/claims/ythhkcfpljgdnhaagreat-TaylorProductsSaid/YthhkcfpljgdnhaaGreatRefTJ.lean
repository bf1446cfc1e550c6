/- The reference of layer 21: Mul, Bound. Printed by wip/genSU.py. -/
import Derived.Test.YthhkcfpljgdnhaaGreatRefTH
import Derived.Test.YthhkcfpljgdnhaaGreatRefTI
import Derived.Test.YthhkcfpljgdnhaaGreatTayU
namespace Go.Proofs.YthhkcfpljgdnhaaGreat
open Go.RowKit Mnc
attribute [local go_sem] RunSP_value RunSP_skip RunSP_enter evS_tmp evS_const evS_global evS_func
theorem su_store {W : World} {B : Nat} {n m : Int} (h : W.heap[B]? = some (iobj 62 n)) : (Instr.storeAt 62 (.pointer (some ⟨B, 0, none⟩)) (.agg #[.int .i64 m])).run Tryz.prog W = .ok () (W.putObj B (iobj 62 m)) := by
 have c := cell_of_one h
 have f : W.frozen? ⟨B, 0, none⟩ = false := by simp [World.frozen?, h, iobj]
 have e := setCell_put (W := W) (cs := #[.int .i64 n]) (fr := (0, 0)) (t := 62) h 0 (.int .i64 m)
 have hs : (Instr.storeAt 62 (.pointer (some ⟨B, 0, none⟩)) (.agg #[.int .i64 m])).run Tryz.prog W = .ok () (W.setCell ⟨B, 0, none⟩ (.int .i64 m)) := by
  simp [go_sem, c, f]
 rw [hs, e]
 rfl
theorem su_build (n : Int) (W : World) : (Instr.build 62 #[(0, .int .i64 n)]).run Tryz.prog W = .ok (.agg #[.int .i64 n]) W := by kernel_rfl
theorem rTold_len {r : RS} (h : r.1.length = 22) : (rTold r).1.length = 22 := by
 unfold rTold
 split
 ·exact h
 ·rfl
theorem gt_or (u : Unit × Int) (x : (Int × Int) × Int) : gt u.2 x = (orZ ((0, 0) : Int × Int) (thenE (0, 0) u fun _ => x), (thenE (0, 0) u fun _ => x).2) := by
 unfold orZ
 by_cases h : u.2 = 0
 ·rw [thenE_ok h, h]
  by_cases k : x.2 = 0
  ·rw [gt_ok k, if_pos k, k]
  ·rw [gt_bad k, if_neg k]
 ·rw [thenE_bad h, gt_err h, if_neg h]
theorem rTold_pair (r : RS) : rTold (r.1, r.2) = rTold r := rfl
theorem xMul_told (a d : List (Int × Int)) : xMul a d = rTold ((rProduct a d (tRight (a ++ d)).2).1, (rProduct a d (tRight (a ++ d)).2).2) := by
 rw [rTold_pair, rTold_eq (rProduct_rl a d) (tRight (a ++ d))]
 unfold xMul orZ
 rfl
theorem xBound_gt (a : List (Int × Int)) : xBound a = gt (tRight a).2 (tBound a) := by
 rw [gt_or]
 unfold xBound
 rfl
theorem rf_productP {a d : List (Int × Int)} {P : RS} {e : Int} (hP : rProduct a d e = P) (A : Nat) (ha : a.length = 22) (hd : d.length = 22) (w : World) (h : w.heap[A]? = some (iobj 62 e)) :
  Calls Tryz.prog 31 #[.pointer (some ⟨A, 0, none⟩), mval a, mval d] w fun r w' => r = .returned (mval P.1) ∧ w'.heap[A]? = some (iobj 62 P.2) ∧ Mut [A] w w' := by
 subst hP
 exact rf_product A e a d ha hd w h
theorem rf_toldP {a : List (Int × Int)} {e : Int} {T : List (Int × Int) × Int} (hT : rTold (a, e) = T) (A : Nat) (ha : a.length = 22) (w : World) (h : w.heap[A]? = some (iobj 62 e)) :
  Calls Tryz.prog 30 #[.pointer (some ⟨A, 0, none⟩), mval a] w fun r w' => r = .returned (.tuple #[mval T.1, .int .i64 T.2]) ∧ w'.heap[A]? = some (iobj 62 e) ∧ Mut [A] w w' := by
 subst hT
 exact rf_told A e a ha w h
structure Zm1 (V : World) (a : List (Int × Int)) (d : List (Int × Int)) (L : Nat → Bool) (s : Nat → Value) (w : World) : Prop where
 mu : Mut [] V w
 e0 : L 0 = true → s 7 = mval a
 e1 : L 1 = true → s 8 = mval d
 e2 : L 2 = true → s 9 = .int .i64 ((tRight (a ++ d)).2)
 e3 : L 3 = true → s 10 = .agg #[.int .i64 ((tRight (a ++ d)).2)]
 al_c : L 4 = true → ∃ g : Nat, s 6 = .pointer (some ⟨g, 0, none⟩) ∧ V.heap.size ≤ g ∧ g < w.heap.size ∧ (L 5 = false → w.heap[g]? = some (iobj 62 0)) ∧ (L 5 = true → w.heap[g]? = some (iobj 62 ((tRight (a ++ d)).2)))
 b5_4 : L 5 = true → L 4 = true
structure Zm2 (V : World) (a : List (Int × Int)) (d : List (Int × Int)) (P : RS) (T : List (Int × Int) × Int) (b : Nat) (A : Nat) (L : Nat → Bool) (s : Nat → Value) (w : World) : Prop where
 mu : Mut [b + 1 + 1, A] V w
 kt_r : L 6 = false → w.heap[b + 1 + 1]? = some (cobj 34 zeroM)
 kr_r : L 6 = true → w.heap[b + 1 + 1]? = some (cobj 34 T.1)
 kg_c_0 : L 2 = false → w.heap[A]? = some (iobj 62 ((tRight (a ++ d)).2))
 kg_c_1 : L 2 = true → L 3 = false → w.heap[A]? = some (iobj 62 P.2)
 kg_c_2 : L 3 = true → w.heap[A]? = some (iobj 62 P.2)
 e0 : L 0 = true → s 11 = mval a
 e1 : L 1 = true → s 12 = mval d
 e2 : L 2 = true → s 13 = mval P.1
 e3 : L 3 = true → s 14 = .tuple #[mval T.1, .int .i64 T.2]
 e4 : L 4 = true → s 15 = mval T.1
 e5 : L 5 = true → s 16 = .int .i64 T.2
 e7 : L 7 = true → s 5 = .int .i64 T.2
 b3_2 : L 3 = true → L 2 = true
set_option maxRecDepth 100000 in
set_option maxHeartbeats 900000 in
theorem rf_Mul (a d : List (Int × Int)) (ha : a.length = 22) (hd : d.length = 22) (w : World) : Calls Tryz.prog 9 #[mval a, mval d] w fun e w' => e = .returned (.tuple #[mval (xMul a d).1, .int .i64 (xMul a d).2]) ∧ Below w.heap.size w w' := by
 rw [xMul_told]
 obtain ⟨P, hP⟩ : ∃ P, rProduct a d (tRight (a ++ d)).2 = P := ⟨_, rfl⟩
 have HLP := lh (show P.1.length = 22 by rw [← hP]; exact rProduct_len _ _ _)
 rw [hP]
 obtain ⟨T, hT⟩ : ∃ T, rTold (P.1, P.2) = T := ⟨_, rfl⟩
 have HLT2 := lh (show T.1.length = 22 by rw [← hT]; exact rTold_len HLP.out)
 rw [hT]
 have HEP := lh hP
 have HET := lh hT
 clear hP hT
 have HL := lh ha
 have HLD := lh hd
 clear ha hd
 go_enter Tryz.func9, Tryz.ntmps9
 refine wsk fun K0 HK0 => ?_
 go_wp2_with fail
 rename_i x1 cs1 hc1 x2 cs2 hc2
 obtain rfl : (mc a).toArray = cs1 := Value.agg.inj hc1
 obtain rfl : (mc d).toArray = cs2 := Value.agg.inj hc2
 clear hc1 hc2
 obtain ⟨b, hb⟩ : ∃ b, w.heap.size = b := ⟨_, rfl⟩
 refine HK0.out _ _ ?_
 refine wp_world (fun V => Mut [] w V ∧ V.heap[b]? = some (cobj 34 a) ∧ V.heap[b + 1]? = some (cobj 34 d) ∧ V.heap[b + 1 + 1]? = some (cobj 34 zeroM)) ?_
  (by
   rw [← hb]
   exact ⟨((((Mut.refl _ _).alloc _).alloc _).alloc _), heap_up _ (heap_up _ (heap_at (cobj 34 a) (by simp))), heap_up _ (heap_at (cobj 34 d) (by simp)), heap_at (cobj 34 zeroM) (by simp)⟩)
 rintro V ⟨hm, hHA, hHD, hHR⟩
 rw [hb]
 have HM := lh hm
 have HBW := lh hb
 have HLT := lh trivial
 have HA := lh hHA
 have HD := lh hHD
 have HR := lh hHR
 clear hm hHA hHD hHR hb HK0
 refine wsk fun K1 HK1 => ?_
 refine wp_cut_mergeP (nn :: nn :: nn :: nn :: nn :: nn :: some 6 :: some 7 :: some 8 :: some 9 :: some 10 :: nn :: nn :: nn :: nn :: nn :: nn :: []) (fun s w' => Mut [] V w' ∧ (∃ g : Nat, s 6 = .pointer (some ⟨g, 0, none⟩) ∧ V.heap.size ≤ g ∧ w'.heap[g]? = some (iobj 62 ((tRight (a ++ d)).2)))) (fun _ _ => False) ?_ ?_ ?_
 ·intro Q2 hQ2 hP2
  refine wpG ?_
  refine wp_region_G (b := false) (Pn := (fun _ _ => False)) (Zm1 V a d) (by kernel_rfl) (by kernel_rfl) ?_ ?_ ?_ ?_
  ·exact ⟨Mut.start _ false _, nB, nB, nB, nB, nB, nB⟩
  ·refine AllSP.cons ?_ (AllSP.cons ?_ (AllSP.cons ?_ (AllSP.cons ?_ (AllSP.cons ?_ (AllSP.cons ?_ AllSP.nil)))))
   ·intro L s w2 h hk hd hn
    have s2 : s 2 = _ := hk 2 (by kernel_rfl)
    have kb := ((h.mu.same _ ((Array.getElem?_eq_some_iff.1 HA.out).1) (by simp)).trans HA.out)
    refine sP fun K hK => ?_
    exact rs_load rfl s2 (md_load kb HL.out) (hK _ _ { h with e0 := fun _ => rfl })
   ·intro L s w2 h hk hd hn
    have s3 : s 3 = _ := hk 3 (by kernel_rfl)
    have kb := ((h.mu.same _ ((Array.getElem?_eq_some_iff.1 HD.out).1) (by simp)).trans HD.out)
    refine sP fun K hK => ?_
    exact rs_load rfl s3 (md_load kb HLD.out) (hK _ _ { h with e1 := fun _ => rfl })
   ·intro L s w2 h hk hd hn
    have s7 := h.e0 hd.1
    have s8 := h.e1 hd.2.1
    refine sP fun K hK => ?_
    go_simp
    refine (rf_both a d HL.out HLD.out _).mono ?_
    rintro e w3 ⟨rfl, hb⟩
    exact .inl ⟨_, rfl, hK _ _ { h with mu := h.mu.step hb, al_c := fun a => let ⟨g, h0, h1, hl, h2, h3⟩ := h.al_c a; ⟨g, h0, h1, Nat.lt_of_lt_of_le hl hb.size, fun c => (hb.block _ (lt_of_block (h2 c))).trans (h2 c), fun c => (hb.block _ (lt_of_block (h3 c))).trans (h3 c)⟩, e2 := fun _ => rfl }⟩
   ·intro L s w2 h hk hd hn
    have s9 := h.e2 hd.1
    refine sP fun K hK => ?_
    exact rs_bld rfl (by simp [evS_tmp, s9]) (su_build _ _) (hK _ _ { h with e3 := fun _ => rfl })
   ·intro L s w2 h hk hd hn
    refine sP fun K hK => ?_
    go_simp
    exact hK _ _ { h with mu := h.mu.alloc _, al_c := fun _ => ⟨_, rfl, h.mu.size, by simp, fun _ => heap_at _ rfl, fun a => absurd (h.b5_4 a) (by rw [hn]; exact bft)⟩, b5_4 := fun _ => rfl }
   ·intro L s w2 h hk hd hn
    have s10 := h.e3 hd.2.1
    obtain ⟨g, hg0, hg1, hgl, hg2, hg3⟩ := h.al_c hd.1
    have kb := hg2 hn
    refine sP fun K hK => ?_
    exact rs_store rfl hg0 s10 (su_store kb) (hK _ _ { h with mu := h.mu.putNew hg1 _, al_c := fun a => ⟨g, hg0, hg1, by simpa using hgl, nF, fun _ => pH kb⟩, b5_4 := fun _ => hd.1 })
  ·intro L s w2 h hk hl
   refine cA ?_ (hQ2 s w2 (⟨h.mu, (let ⟨g, h0, h1, _, _, h3⟩ := h.al_c (hl 4 (by decide)); ⟨g, h0, h1, h3 (hl 5 (by decide))⟩)⟩))
   exact frame_eq hk (by kernel_rfl) (by kernel_rfl)
  ·intro c s w2 hc
   exact hc.elim
 rotate_left
 ·rintro _ _ _ h
  exact h.elim
 rintro s1 V ⟨h1, ⟨A, k_c, g_c, c_c⟩⟩
 simp only [mergeL]
 rw [k_c]
 replace HLT := lh (show b ≤ A ∧ b < A ∧ b + 1 < A ∧ b + 1 + 1 < A from by
  have hlt := HLT.out
  have hbw := HM.out.size
  have hbw2 := HBW.out
  have := lt_of_block HA.out
  have := lt_of_block HD.out
  have := lt_of_block HR.out
  omega)
 replace HA := sm h1 HA
 replace HD := sm h1 HD
 replace HR := sm h1 HR
 have HE := lh c_c
 replace HM := lh (HM.out.stepM h1 (by simp))
 clear h1 k_c g_c c_c
 refine HK1.out _ _ ?_
 refine wsk fun K2 HK2 => ?_
 refine wp_cut_mergeP (nn :: nn :: nn :: nn :: nn :: some 5 :: nn :: nn :: nn :: nn :: nn :: some 11 :: some 12 :: some 13 :: some 14 :: some 15 :: some 16 :: []) (fun s w' => Mut [b + 1 + 1, A] V w' ∧ w'.heap[b + 1 + 1]? = some (cobj 34 T.1) ∧ w'.heap[A]? = some (iobj 62 P.2) ∧ s 5 = .int .i64 T.2) (fun _ _ => False) ?_ ?_ ?_
 ·intro Q2 hQ2 hP2
  refine wpG ?_
  refine wp_region_G (b := false) (Pn := (fun _ _ => False)) (Zm2 V a d P T b A) (by kernel_rfl) (by kernel_rfl) ?_ ?_ ?_ ?_
  ·exact ⟨Mut.start _ false _, fun _ => HR.out, nB, fun _ => HE.out, nB, nB, nB, nB, nB, nB, nB, nB, nB, nB⟩
  ·refine AllSP.cons ?_ (AllSP.cons ?_ (AllSP.cons ?_ (AllSP.cons ?_ (AllSP.cons ?_ (AllSP.cons ?_ (AllSP.cons ?_ (AllSP.cons ?_ AllSP.nil)))))))
   ·intro L s w2 h hk hd hn
    have s2 : s 2 = _ := hk 2 (by kernel_rfl)
    have kb := ((h.mu.same _ ((Array.getElem?_eq_some_iff.1 HA.out).1) (notin2 (by have := HLT.out; have := lt_of_block HE.out; omega) (by have := HLT.out; have := lt_of_block HE.out; omega))).trans HA.out)
    refine sP fun K hK => ?_
    exact rs_load rfl s2 (md_load kb HL.out) (hK _ _ { h with e0 := fun _ => rfl })
   ·intro L s w2 h hk hd hn
    have s3 : s 3 = _ := hk 3 (by kernel_rfl)
    have kb := ((h.mu.same _ ((Array.getElem?_eq_some_iff.1 HD.out).1) (notin2 (by have := HLT.out; have := lt_of_block HE.out; omega) (by have := HLT.out; have := lt_of_block HE.out; omega))).trans HD.out)
    refine sP fun K hK => ?_
    exact rs_load rfl s3 (md_load kb HLD.out) (hK _ _ { h with e1 := fun _ => rfl })
   ·intro L s w2 h hk hd hn
    have s6 : s 6 = _ := hk 6 (by kernel_rfl)
    have s11 := h.e0 hd.1
    have s12 := h.e1 hd.2.1
    have kb := h.kg_c_0 hn
    refine sP fun K hK => ?_
    go_simp
    refine (rf_productP HEP.out _ HL.out HLD.out _ kb).mono ?_
    rintro e w3 ⟨rfl, hkr, hb⟩
    exact .inl ⟨_, rfl, hK _ _ { h with mu := h.mu.stepM hb (by intro x hx; rw [List.mem_singleton.1 hx]; exact .inl (List.Mem.tail _ (List.Mem.head _))), kt_r := fun a => (hb.same _ (lt_of_block (h.kt_r a)) (notin1 (by have := HLT.out; have := lt_of_block HE.out; omega))).trans (h.kt_r a), kr_r := fun a => (hb.same _ (lt_of_block (h.kr_r a)) (notin1 (by have := HLT.out; have := lt_of_block HE.out; omega))).trans (h.kr_r a), kg_c_0 := nF, kg_c_1 := fun _ _ => hkr, kg_c_2 := fun a => absurd (h.b3_2 a) (by rw [hn]; exact bft), e2 := fun _ => rfl, b3_2 := fun _ => rfl }⟩
   ·intro L s w2 h hk hd hn
    have s6 : s 6 = _ := hk 6 (by kernel_rfl)
    have s13 := h.e2 hd.1
    have kb := h.kg_c_1 hd.1 hn
    refine sP fun K hK => ?_
    go_simp
    refine (rf_toldP HET.out _ HLP.out _ kb).mono ?_
    rintro e w3 ⟨rfl, hkr, hb⟩
    exact .inl ⟨_, rfl, hK _ _ { h with mu := h.mu.stepM hb (by intro x hx; rw [List.mem_singleton.1 hx]; exact .inl (List.Mem.tail _ (List.Mem.head _))), kt_r := fun a => (hb.same _ (lt_of_block (h.kt_r a)) (notin1 (by have := HLT.out; have := lt_of_block HE.out; omega))).trans (h.kt_r a), kr_r := fun a => (hb.same _ (lt_of_block (h.kr_r a)) (notin1 (by have := HLT.out; have := lt_of_block HE.out; omega))).trans (h.kr_r a), kg_c_0 := fun a => absurd (a.symm.trans hd.1) bft, kg_c_1 := fun a c => absurd c.symm bft, kg_c_2 := fun _ => hkr, e3 := fun _ => rfl, b3_2 := fun _ => hd.1 }⟩
   ·intro L s w2 h hk hd hn
    have s14 := h.e3 hd.1
    refine sP fun K hK => ?_
    exact rs_extract rfl s14 rfl (hK _ _ { h with e4 := fun _ => rfl })
   ·intro L s w2 h hk hd hn
    have s14 := h.e3 hd.1
    refine sP fun K hK => ?_
    exact rs_extract rfl s14 rfl (hK _ _ { h with e5 := fun _ => rfl })
   ·intro L s w2 h hk hd hn
    have s4 : s 4 = _ := hk 4 (by kernel_rfl)
    have s15 := h.e4 hd.1
    have kb := h.kt_r hn
    refine sP fun K hK => ?_
    exact rs_store rfl s4 s15 (md_store kb rfl _ HLT2.out) (hK _ _ { h with mu := h.mu.put (List.Mem.head _) _, kg_c_0 := fun a => (World.putObj_heap_other (by have := HLT.out; have := lt_of_block HE.out; omega)).trans (h.kg_c_0 a), kg_c_1 := fun a c => (World.putObj_heap_other (by have := HLT.out; have := lt_of_block HE.out; omega)).trans (h.kg_c_1 a c), kg_c_2 := fun a => (World.putObj_heap_other (by have := HLT.out; have := lt_of_block HE.out; omega)).trans (h.kg_c_2 a), kt_r := nF, kr_r := fun _ => pH kb })
   ·intro L s w2 h hk hd hn
    have s16 := h.e5 hd.1
    refine sP fun K hK => ?_
    exact rs_assign rfl s16 (hK _ _ { h with e7 := fun _ => rfl })
  ·intro L s w2 h hk hl
   refine cA ?_ (hQ2 s w2 (⟨h.mu, h.kr_r (hl 6 (by decide)), h.kg_c_2 (hl 3 (by decide)), h.e7 (hl 7 (by decide))⟩))
   exact frame_eq hk (by kernel_rfl) (by kernel_rfl)
  ·intro c s w2 hc
   exact hc.elim
 rotate_left
 ·rintro _ _ _ h
  exact h.elim
 rintro s2 V ⟨h1, c_r, c_c, k5⟩
 simp only [mergeL]
 rw [k5]
 replace HA := lh ((h1.same _ (lt_of_block HA.out) (notin2 (by have := HLT.out; omega) (by have := HLT.out; omega))).trans HA.out)
 replace HD := lh ((h1.same _ (lt_of_block HD.out) (notin2 (by have := HLT.out; omega) (by have := HLT.out; omega))).trans HD.out)
 replace HR := lh c_r
 replace HE := lh c_c
 replace HM := lh (HM.out.stepM h1 (by have := HBW.out; have := HLT.out; intro x hx; simp at hx; right; omega))
 clear h1 c_r c_c k5
 refine HK2.out _ _ ?_
 refine wp_ret ?_
 exact bodyPost_ret (v := .tuple #[mval T.1, .int .i64 T.2]) (res_slot Tryz.results9 rfl rfl (md_loadVar HR.out HLT2.out)) rfl ⟨rfl, by rw [← HBW.out]; exact HM.out.to0⟩
structure Zn1 (V : World) (a : List (Int × Int)) (L : Nat → Bool) (s : Nat → Value) (w : World) : Prop where
 mu : Mut [] V w
 e0 : L 0 = true → s 6 = mval a
 e1 : L 1 = true → s 7 = .int .i64 ((tRight a).2)
 e2 : L 2 = true → s 8 = .agg #[.int .i64 ((tRight a).2)]
 al_c : L 3 = true → ∃ g : Nat, s 4 = .pointer (some ⟨g, 0, none⟩) ∧ V.heap.size ≤ g ∧ g < w.heap.size ∧ (L 4 = false → w.heap[g]? = some (iobj 62 0)) ∧ (L 4 = true → w.heap[g]? = some (iobj 62 ((tRight a).2)))
 b4_3 : L 4 = true → L 3 = true
structure Zn2 (V : World) (a : List (Int × Int)) (A : Nat) (L : Nat → Bool) (s : Nat → Value) (w : World) : Prop where
 mu : Mut [A] V w
 kg_c_0 : L 1 = false → w.heap[A]? = some (iobj 62 ((tRight a).2))
 kg_c_1 : L 1 = true → w.heap[A]? = some (iobj 62 ((gt (tRight a).2 (tBound a)).2))
 e0 : L 0 = true → s 9 = mval a
 e1 : L 1 = true → s 10 = sval ((gt (tRight a).2 (tBound a)).1)
 al_s : L 2 = true → ∃ g : Nat, s 5 = .pointer (some ⟨g, 0, none⟩) ∧ V.heap.size ≤ g ∧ g < w.heap.size ∧ (L 3 = false → w.heap[g]? = some (cobj 31 [(0, 0)])) ∧ (L 3 = true → w.heap[g]? = some (cobj 31 [(gt (tRight a).2 (tBound a)).1]))
 b3_2 : L 3 = true → L 2 = true
structure Zn3 (V : World) (a : List (Int × Int)) (b : Nat) (A : Nat) (L : Nat → Bool) (s : Nat → Value) (w : World) : Prop where
 mu : Mut [b + 1] V w
 kt_r : L 3 = false → w.heap[b + 1]? = some (cobj 31 ([(0, 0)]))
 kr_r : L 3 = true → w.heap[b + 1]? = some (cobj 31 ([(gt (tRight a).2 (tBound a)).1]))
 e0 : L 0 = true → s 11 = sval ((gt (tRight a).2 (tBound a)).1)
 e1 : L 1 = true → s 12 = .pointer (some ⟨A, 0, none⟩)
 e2 : L 2 = true → s 13 = .int .i64 ((gt (tRight a).2 (tBound a)).2)
 e4 : L 4 = true → s 3 = .int .i64 ((gt (tRight a).2 (tBound a)).2)
set_option maxRecDepth 100000 in
set_option maxHeartbeats 900000 in
theorem rf_Bound (a : List (Int × Int)) (ha : a.length = 22) (w : World) : Calls Tryz.prog 11 #[mval a] w fun e w' => e = .returned (.tuple #[sval (xBound a).1, .int .i64 (xBound a).2]) ∧ Below w.heap.size w w' := by
 rw [xBound_gt]
 have HL := lh ha
 clear ha
 go_enter Tryz.func11, Tryz.ntmps11
 refine wsk fun K0 HK0 => ?_
 go_wp2_with fail
 rename_i x1 cs1 hc1
 obtain rfl : (mc a).toArray = cs1 := Value.agg.inj hc1
 clear hc1
 obtain ⟨b, hb⟩ : ∃ b, w.heap.size = b := ⟨_, rfl⟩
 refine HK0.out _ _ ?_
 refine wp_world (fun V => Mut [] w V ∧ V.heap[b]? = some (cobj 34 a) ∧ V.heap[b + 1]? = some (cobj 31 [(0, 0)])) ?_
  (by
   rw [← hb]
   exact ⟨(((Mut.refl _ _).alloc _).alloc _), heap_up _ (heap_at (cobj 34 a) (by simp)), heap_at (cobj 31 [(0, 0)]) (by simp)⟩)
 rintro V ⟨hm, hHA, hHR⟩
 rw [hb]
 have HM := lh hm
 have HBW := lh hb
 have HLT := lh trivial
 have HA := lh hHA
 have HR := lh hHR
 clear hm hHA hHR hb HK0
 refine wsk fun K1 HK1 => ?_
 refine wp_cut_mergeP (nn :: nn :: nn :: nn :: some 4 :: nn :: some 6 :: some 7 :: some 8 :: nn :: nn :: nn :: nn :: nn :: []) (fun s w' => Mut [] V w' ∧ (∃ g : Nat, s 4 = .pointer (some ⟨g, 0, none⟩) ∧ V.heap.size ≤ g ∧ w'.heap[g]? = some (iobj 62 ((tRight a).2)))) (fun _ _ => False) ?_ ?_ ?_
 ·intro Q2 hQ2 hP2
  refine wpG ?_
  refine wp_region_G (b := false) (Pn := (fun _ _ => False)) (Zn1 V a) (by kernel_rfl) (by kernel_rfl) ?_ ?_ ?_ ?_
  ·exact ⟨Mut.start _ false _, nB, nB, nB, nB, nB⟩
  ·refine AllSP.cons ?_ (AllSP.cons ?_ (AllSP.cons ?_ (AllSP.cons ?_ (AllSP.cons ?_ AllSP.nil))))
   ·intro L s w2 h hk hd hn
    have s1 : s 1 = _ := hk 1 (by kernel_rfl)
    have kb := ((h.mu.same _ ((Array.getElem?_eq_some_iff.1 HA.out).1) (by simp)).trans HA.out)
    refine sP fun K hK => ?_
    exact rs_load rfl s1 (md_load kb HL.out) (hK _ _ { h with e0 := fun _ => rfl })
   ·intro L s w2 h hk hd hn
    have s6 := h.e0 hd.1
    refine sP fun K hK => ?_
    go_simp
    refine (rf_Check a HL.out _).mono ?_
    rintro e w3 ⟨rfl, hb⟩
    exact .inl ⟨_, rfl, hK _ _ { h with mu := h.mu.step hb, al_c := fun a => let ⟨g, h0, h1, hl, h2, h3⟩ := h.al_c a; ⟨g, h0, h1, Nat.lt_of_lt_of_le hl hb.size, fun c => (hb.block _ (lt_of_block (h2 c))).trans (h2 c), fun c => (hb.block _ (lt_of_block (h3 c))).trans (h3 c)⟩, e1 := fun _ => rfl }⟩
   ·intro L s w2 h hk hd hn
    have s7 := h.e1 hd.1
    refine sP fun K hK => ?_
    exact rs_bld rfl (by simp [evS_tmp, s7]) (su_build _ _) (hK _ _ { h with e2 := fun _ => rfl })
   ·intro L s w2 h hk hd hn
    refine sP fun K hK => ?_
    go_simp
    exact hK _ _ { h with mu := h.mu.alloc _, al_c := fun _ => ⟨_, rfl, h.mu.size, by simp, fun _ => heap_at _ rfl, fun a => absurd (h.b4_3 a) (by rw [hn]; exact bft)⟩, b4_3 := fun _ => rfl }
   ·intro L s w2 h hk hd hn
    have s8 := h.e2 hd.2.1
    obtain ⟨g, hg0, hg1, hgl, hg2, hg3⟩ := h.al_c hd.1
    have kb := hg2 hn
    refine sP fun K hK => ?_
    exact rs_store rfl hg0 s8 (su_store kb) (hK _ _ { h with mu := h.mu.putNew hg1 _, al_c := fun a => ⟨g, hg0, hg1, by simpa using hgl, nF, fun _ => pH kb⟩, b4_3 := fun _ => hd.1 })
  ·intro L s w2 h hk hl
   refine cA ?_ (hQ2 s w2 (⟨h.mu, (let ⟨g, h0, h1, _, _, h3⟩ := h.al_c (hl 3 (by decide)); ⟨g, h0, h1, h3 (hl 4 (by decide))⟩)⟩))
   exact frame_eq hk (by kernel_rfl) (by kernel_rfl)
  ·intro c s w2 hc
   exact hc.elim
 rotate_left
 ·rintro _ _ _ h
  exact h.elim
 rintro s1 V ⟨h1, ⟨A, k_c, g_c, c_c⟩⟩
 simp only [mergeL]
 rw [k_c]
 replace HLT := lh (show b ≤ A ∧ b < A ∧ b + 1 < A from by
  have hlt := HLT.out
  have hbw := HM.out.size
  have hbw2 := HBW.out
  have := lt_of_block HA.out
  have := lt_of_block HR.out
  omega)
 replace HA := sm h1 HA
 replace HR := sm h1 HR
 have HE := lh c_c
 replace HM := lh (HM.out.stepM h1 (by simp))
 clear h1 k_c g_c c_c
 refine HK1.out _ _ ?_
 refine wsk fun K2 HK2 => ?_
 refine wp_cut_mergeP (nn :: nn :: nn :: nn :: nn :: some 5 :: nn :: nn :: nn :: some 9 :: some 10 :: nn :: nn :: nn :: []) (fun s w' => Mut [A] V w' ∧ w'.heap[A]? = some (iobj 62 ((gt (tRight a).2 (tBound a)).2)) ∧ (∃ g : Nat, s 5 = .pointer (some ⟨g, 0, none⟩) ∧ V.heap.size ≤ g ∧ w'.heap[g]? = some (cobj 31 [(gt (tRight a).2 (tBound a)).1]))) (fun _ _ => False) ?_ ?_ ?_
 ·intro Q2 hQ2 hP2
  refine wpG ?_
  refine wp_region_G (b := false) (Pn := (fun _ _ => False)) (Zn2 V a A) (by kernel_rfl) (by kernel_rfl) ?_ ?_ ?_ ?_
  ·exact ⟨Mut.start _ false _, fun _ => HE.out, nB, nB, nB, nB, nB⟩
  ·refine AllSP.cons ?_ (AllSP.cons ?_ (AllSP.cons ?_ (AllSP.cons ?_ AllSP.nil)))
   ·intro L s w2 h hk hd hn
    have s1 : s 1 = _ := hk 1 (by kernel_rfl)
    have kb := ((h.mu.same _ ((Array.getElem?_eq_some_iff.1 HA.out).1) (notin1 (by have := HLT.out; have := lt_of_block HE.out; omega))).trans HA.out)
    refine sP fun K hK => ?_
    exact rs_load rfl s1 (md_load kb HL.out) (hK _ _ { h with e0 := fun _ => rfl })
   ·intro L s w2 h hk hd hn
    have s4 : s 4 = _ := hk 4 (by kernel_rfl)
    have s9 := h.e0 hd.1
    have kb := h.kg_c_0 hn
    refine sP fun K hK => ?_
    go_simp
    refine (rf_bound _ ((tRight a).2) a HL.out _ kb).mono ?_
    rintro e w3 ⟨rfl, hkr, hb⟩
    exact .inl ⟨_, rfl, hK _ _ { h with mu := h.mu.stepM hb (by intro x hx; rw [List.mem_singleton.1 hx]; exact .inl (List.Mem.head _)), al_s := fun a => let ⟨g, h0, h1, hl, h2, h3⟩ := h.al_s a; ⟨g, h0, h1, Nat.lt_of_lt_of_le hl hb.size, fun c => (hb.same _ (lt_of_block (h2 c)) (notin1 (by have := h1; have := lt_of_block (HE.out); omega))).trans (h2 c), fun c => (hb.same _ (lt_of_block (h3 c)) (notin1 (by have := h1; have := lt_of_block (HE.out); omega))).trans (h3 c)⟩, kg_c_0 := nF, kg_c_1 := fun _ => hkr, e1 := fun _ => rfl }⟩
   ·intro L s w2 h hk hd hn
    refine sP fun K hK => ?_
    go_simp
    exact hK _ _ { h with mu := h.mu.alloc _, kg_c_0 := fun a => (heap_up _ (h.kg_c_0 a)), kg_c_1 := fun a => (heap_up _ (h.kg_c_1 a)), al_s := fun _ => ⟨_, rfl, h.mu.size, by simp, fun _ => heap_at _ rfl, fun a => absurd (h.b3_2 a) (by rw [hn]; exact bft)⟩, b3_2 := fun _ => rfl }
   ·intro L s w2 h hk hd hn
    have s10 := h.e1 hd.2.1
    obtain ⟨g, hg0, hg1, hgl, hg2, hg3⟩ := h.al_s hd.1
    have kb := hg2 hn
    refine sP fun K hK => ?_
    exact rs_store rfl hg0 s10 (sp_store (p := 0) kb (by simp) ((gt (tRight a).2 (tBound a)).1)) (hK _ _ { h with mu := h.mu.putNew hg1 _, kg_c_0 := fun a => (World.putObj_heap_other (by have := h.mu.size; have := hg1; have := HLT.out; have := lt_of_block HE.out; omega)).trans (h.kg_c_0 a), kg_c_1 := fun a => (World.putObj_heap_other (by have := h.mu.size; have := hg1; have := HLT.out; have := lt_of_block HE.out; omega)).trans (h.kg_c_1 a), al_s := fun a => ⟨g, hg0, hg1, by simpa using hgl, nF, fun _ => pH kb⟩, b3_2 := fun _ => hd.1 })
  ·intro L s w2 h hk hl
   refine cA ?_ (hQ2 s w2 (⟨h.mu, h.kg_c_1 (hl 1 (by decide)), (let ⟨g, h0, h1, _, _, h3⟩ := h.al_s (hl 2 (by decide)); ⟨g, h0, h1, h3 (hl 3 (by decide))⟩)⟩))
   exact frame_eq hk (by kernel_rfl) (by kernel_rfl)
  ·intro c s w2 hc
   exact hc.elim
 rotate_left
 ·rintro _ _ _ h
  exact h.elim
 rintro s2 V ⟨h1, c_c, ⟨g1, k_s, g_s, c_s⟩⟩
 simp only [mergeL]
 rw [k_s]
 replace HLT := lh (show b ≤ g1 ∧ b < g1 ∧ b + 1 < g1 ∧ A < g1 ∧ b ≤ A ∧ b < A ∧ b + 1 < A from by
  have hlt := HLT.out
  have hbw := HM.out.size
  have hbw2 := HBW.out
  have := lt_of_block HA.out
  have := lt_of_block HR.out
  have := lt_of_block HE.out
  omega)
 replace HA := lh ((h1.same _ (lt_of_block HA.out) (notin1 (by have := HLT.out; omega))).trans HA.out)
 replace HR := lh ((h1.same _ (lt_of_block HR.out) (notin1 (by have := HLT.out; omega))).trans HR.out)
 replace HE := lh c_c
 have HS := lh c_s
 replace HM := lh (HM.out.stepM h1 (by have := HBW.out; have := HLT.out; intro x hx; simp at hx; right; omega))
 clear h1 c_c k_s g_s c_s
 refine HK2.out _ _ ?_
 refine wsk fun K3 HK3 => ?_
 refine wp_cut_mergeP (nn :: nn :: nn :: some 3 :: nn :: nn :: nn :: nn :: nn :: nn :: nn :: some 11 :: some 12 :: some 13 :: []) (fun s w' => Mut [b + 1] V w' ∧ w'.heap[b + 1]? = some (cobj 31 ([(gt (tRight a).2 (tBound a)).1])) ∧ s 3 = .int .i64 ((gt (tRight a).2 (tBound a)).2)) (fun _ _ => False) ?_ ?_ ?_
 ·intro Q2 hQ2 hP2
  refine wpG ?_
  refine wp_region_G (b := true) (Pn := (fun _ _ => False)) (Zn3 V a b A) (by kernel_rfl) (by kernel_rfl) ?_ ?_ ?_ ?_
  ·exact ⟨Mut.start _ true _, fun _ => HR.out, nB, nB, nB, nB, nB⟩
  ·refine AllSP.cons ?_ (AllSP.cons ?_ (AllSP.cons ?_ (AllSP.cons ?_ (AllSP.cons ?_ AllSP.nil))))
   ·intro L s w2 h hk hd hn
    have s5 : s 5 = _ := hk 5 (by kernel_rfl)
    have kb := ((h.mu.same _ ((Array.getElem?_eq_some_iff.1 HS.out).1) (notin1 (by have := HLT.out; have := lt_of_block HE.out; omega))).trans HS.out)
    refine sP fun K hK => ?_
    exact rs_load rfl s5 (sp_load (p := 0) kb (by simp)) (hK _ _ { h with e0 := fun _ => rfl })
   ·intro L s w2 h hk hd hn
    have s4 : s 4 = _ := hk 4 (by kernel_rfl)
    refine sP fun K hK => ?_
    exact rs_field rfl s4 (fl_sums _ _) (hK _ _ { h with e1 := fun _ => rfl })
   ·intro L s w2 h hk hd hn
    have s12 := h.e1 hd.1
    have kb := ((h.mu.same _ ((Array.getElem?_eq_some_iff.1 HE.out).1) (notin1 (by have := HLT.out; have := lt_of_block HE.out; omega))).trans HE.out)
    refine sP fun K hK => ?_
    exact rs_load rfl s12 (e_load kb) (hK _ _ { h with e2 := fun _ => rfl })
   ·intro L s w2 h hk hd hn
    have s2 : s 2 = _ := hk 2 (by kernel_rfl)
    have s11 := h.e0 hd.1
    have kb := h.kt_r hn
    refine sP fun K hK => ?_
    exact rs_store rfl s2 s11 (sp_store (p := 0) kb (by simp) ((gt (tRight a).2 (tBound a)).1)) (hK _ _ { h with mu := h.mu.put (List.Mem.head _) _, kt_r := nF, kr_r := fun _ => pH kb })
   ·intro L s w2 h hk hd hn
    have s13 := h.e2 hd.1
    refine sP fun K hK => ?_
    exact rs_assign rfl s13 (hK _ _ { h with e4 := fun _ => rfl })
  ·intro L s w2 h hk hl
   refine cA ?_ (hQ2 s w2 (⟨h.mu, h.kr_r (hl 3 (by decide)), h.e4 (hl 4 (by decide))⟩))
   exact frame_eq hk (by kernel_rfl) (by kernel_rfl)
  ·intro c s w2 hc
   exact hc.elim
 rotate_left
 ·rintro _ _ _ h
  exact h.elim
 rintro s3 V ⟨h1, c_r, k3⟩
 simp only [mergeL]
 rw [k3]
 replace HA := lh ((h1.same _ (lt_of_block HA.out) (notin1 (by have := HLT.out; omega))).trans HA.out)
 replace HR := lh c_r
 replace HE := lh ((h1.same _ (lt_of_block HE.out) (notin1 (by have := HLT.out; omega))).trans HE.out)
 replace HS := lh ((h1.same _ (lt_of_block HS.out) (notin1 (by have := HLT.out; omega))).trans HS.out)
 replace HM := lh (HM.out.stepM h1 (by have := HBW.out; have := HLT.out; intro x hx; simp at hx; right; omega))
 clear h1 c_r k3
 refine HK3.out _ _ ?_
 refine wp_ret ?_
 exact bodyPost_ret (v := .tuple #[sval (gt (tRight a).2 (tBound a)).1, .int .i64 (gt (tRight a).2 (tBound a)).2]) (res_slot Tryz.results11 rfl rfl (sp_loadVar HR.out)) rfl ⟨rfl, by rw [← HBW.out]; exact HM.out.to0⟩
end Go.Proofs.YthhkcfpljgdnhaaGreat
