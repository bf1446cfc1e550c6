/- The drafts of law 21: Draft.Near, Bend.Of. Printed by wip/genDr.py. -/
import Derived.Test.YthhkcfpljgdnhaaGreatDrT
namespace Go.Proofs.YthhkcfpljgdnhaaGreat
open Go.RowKit Mnc
attribute [local go_sem] RunSP_value RunSP_skip RunSP_enter evS_tmp evS_const evS_global evS_func
structure Borest1 (V : World) (p : Int) (lo : Int) (hi : Int) (kk : Nat) (a : List (Int × Int)) (b : Nat) (L : Nat → Bool) (s : Nat → Value) (w : World) : Prop where
 mu : Mut [] V w
 e0 : L 0 = true → s 6 = .pointer (some ⟨b, 1, none⟩)
 e1 : L 1 = true → s 7 = .int .i64 lo
 e2 : L 2 = true → s 8 = .pointer (some ⟨b, 2, none⟩)
 e3 : L 3 = true → s 9 = .int .i64 hi
 e4 : L 4 = true → s 10 = sval (lo, hi)
 al_s : L 5 = true → ∃ g : Nat, s 5 = .pointer (some ⟨g, 0, none⟩) ∧ V.heap.size ≤ g ∧ g < w.heap.size ∧ (L 6 = false → w.heap[g]? = some (cobj 31 [(0, 0)])) ∧ (L 6 = true → w.heap[g]? = some (cobj 31 [(lo, hi)]))
 b6_5 : L 6 = true → L 5 = true
structure Borest3 (V : World) (p : Int) (lo : Int) (hi : Int) (kk : Nat) (a : List (Int × Int)) (b : Nat) (g0 : Nat) (L : Nat → Bool) (s : Nat → Value) (w : World) : Prop where
 mu : Mut [b + 1] V w
 kt_a : L 2 = false → w.heap[b + 1]? = some (cobj 34 a)
 kr_a : L 2 = true → w.heap[b + 1]? = some (cobj 34 (a.set 21 (lo, hi)))
 e0 : L 0 = true → s 15 = sval (lo, hi)
 e1 : L 1 = true → s 16 = .pointer (some ⟨b + 1, 21 * 2, none⟩)
structure Borest5 (V : World) (p : Int) (lo : Int) (hi : Int) (kk : Nat) (a : List (Int × Int)) (b : Nat) (g0 : Nat) (L : Nat → Bool) (s : Nat → Value) (w : World) : Prop where
 mu : Mut [b + 1 + 1] V w
 kt_r : L 1 = false → w.heap[b + 1 + 1]? = some (cobj 34 zeroM)
 kr_r : L 1 = true → w.heap[b + 1 + 1]? = some (cobj 34 (a.set 21 (lo, hi)))
 e0 : L 0 = true → s 23 = mval (a.set 21 (lo, hi))
set_option maxRecDepth 100000 in
set_option maxHeartbeats 4000000 in
theorem dr_Of_rest (p lo hi : Int) (a : List (Int × Int)) (hp : 0 ≤ p ∧ p ≤ 255) (hq : p % 22 = 21) (ha : a.length = 22) (w : World) :
  Calls Tryz.prog 15 #[.agg #[.int .u8 p, .int .i64 lo, .int .i64 hi], mval a] w fun e w' => e = .returned (mval (bendOf p (lo, hi) a)) ∧ Below w.heap.size w w' := by
 have HL := lh ha
 obtain ⟨kk, hkk⟩ : ∃ kk, (p % 22).toNat = kk := ⟨_, rfl⟩
 have HKE := lh (show bendOf p (lo, hi) a = a.set kk (lo, hi) by unfold bendOf; rw [hkk])
 have HKM := lh (show p % 22 = (kk : Int) ∧ p.tmod 22 = (kk : Int) ∧ kk = 21 from ⟨by omega, by rw [Int.tmod_eq_emod_of_nonneg hp.1]; omega, by omega⟩)
 have HLX := lh (show (a.set kk (lo, hi)).length = 22 by rw [List.length_set]; exact ha)
 clear hp hq ha hkk
 go_enter Tryz.func15, Tryz.ntmps15
 refine wsk fun K0 HK0 => ?_
 go_wp2_with fail
 rename_i x1 cs1 hc1
 obtain rfl : (mc a).toArray = cs1 := Value.agg.inj hc1
 clear hc1
 obtain ⟨b, hb⟩ : ∃ b, w.heap.size = b := ⟨_, rfl⟩
 refine HK0.out _ _ ?_
 refine wp_world (fun V => Mut [] w V ∧ V.heap[b]? = some (.cells #[.int .u8 p, .int .i64 lo, .int .i64 hi] 28 (0, 0)) ∧ V.heap[b + 1]? = some (cobj 34 a) ∧ V.heap[b + 1 + 1]? = some (cobj 34 zeroM)) ?_
  (by
   rw [← hb]
   exact ⟨((((Mut.refl _ _).alloc _).alloc _).alloc _), heap_up _ (heap_up _ (heap_at (.cells #[.int .u8 p, .int .i64 lo, .int .i64 hi] 28 (0, 0)) (by simp))), heap_up _ (heap_at (cobj 34 a) (by simp)), heap_at (cobj 34 zeroM) (by simp)⟩)
 rintro V ⟨hm, hHB, hHA, hHR⟩
 rw [hb]
 have HM := lh hm
 have HBW := lh hb
 have HLT := lh trivial
 have HB := lh hHB
 have HA := lh hHA
 have HR := lh hHR
 clear hm hHB hHA hHR hb HK0
 refine wsk fun K1 HK1 => ?_
 refine wp_cut_mergeP (nn :: nn :: nn :: nn :: nn :: some 5 :: some 6 :: some 7 :: some 8 :: some 9 :: some 10 :: n8 (nn :: nn :: nn :: nn :: nn :: [])) (fun s w' => Mut [] V w' ∧ (∃ g : Nat, s 5 = .pointer (some ⟨g, 0, none⟩) ∧ V.heap.size ≤ g ∧ w'.heap[g]? = some (cobj 31 [(lo, hi)]))) (fun _ _ => False) ?_ ?_ ?_
 ·intro Q2 hQ2 hP2
  refine wpG ?_
  refine wp_region_G (b := false) (Pn := (fun _ _ => False)) (Borest1 V p lo hi kk a b) (by kernel_rfl) (by kernel_rfl) ?_ ?_ ?_ ?_
  ·exact ⟨Mut.start _ false _, nB, nB, nB, nB, nB, nB, nB⟩
  ·refine AllSP.cons ?_ (AllSP.cons ?_ (AllSP.cons ?_ (AllSP.cons ?_ (AllSP.cons ?_ (AllSP.cons ?_ (AllSP.cons ?_ AllSP.nil))))))
   ·intro L s w2 h hk hd hn
    have s2 : s 2 = _ := hk 2 (by kernel_rfl)
    refine sP fun K hK => ?_
    go_simp
    exact hK _ _ { h with e0 := fun _ => rfl }
   ·intro L s w2 h hk hd hn
    have s6 := h.e0 hd.1
    have kq := (h.mu.same _ (lt_of_block HB.out) (by simp)).trans HB.out
    have kc : w2.cell? ⟨b, 1, none⟩ = some (.int .i64 lo) := by rw [cell_of_row w2 b 1 _ _ _ kq]; rfl
    refine sP fun K hK => ?_
    go_simp
    exact hK _ _ { h with e1 := fun _ => rfl }
   ·intro L s w2 h hk hd hn
    have s2 : s 2 = _ := hk 2 (by kernel_rfl)
    refine sP fun K hK => ?_
    go_simp
    exact hK _ _ { h with e2 := fun _ => rfl }
   ·intro L s w2 h hk hd hn
    have s8 := h.e2 hd.1
    have kq := (h.mu.same _ (lt_of_block HB.out) (by simp)).trans HB.out
    have kc : w2.cell? ⟨b, 2, none⟩ = some (.int .i64 hi) := by rw [cell_of_row w2 b 2 _ _ _ kq]; rfl
    refine sP fun K hK => ?_
    go_simp
    exact hK _ _ { h with e3 := fun _ => rfl }
   ·intro L s w2 h hk hd hn
    have s7 := h.e1 hd.1
    have s9 := h.e3 hd.2.1
    refine sP fun K hK => ?_
    go_simp
    exact hK _ _ { h with e4 := fun _ => rfl }
   ·intro L s w2 h hk hd hn
    refine sP fun K hK => ?_
    go_simp
    exact hK _ _ { h with mu := h.mu.alloc _, al_s := fun _ => ⟨_, rfl, h.mu.size, by simp, fun _ => heap_at _ rfl, fun a => absurd (h.b6_5 a) (by rw [hn]; exact bft)⟩, b6_5 := fun _ => rfl }
   ·intro L s w2 h hk hd hn
    have s10 := h.e4 hd.2.1
    obtain ⟨g, hg0, hg1, hgl, hg2, hg3⟩ := h.al_s hd.1
    have kb := hg2 hn
    refine sP fun K hK => ?_
    exact rs_store rfl hg0 s10 (sp_store (p := 0) kb (by simp) (lo, hi)) (hK _ _ { h with mu := h.mu.putNew hg1 _, al_s := fun a => ⟨g, hg0, hg1, by simpa using hgl, fun a => absurd a.symm bft, fun _ => World.putObj_heap_same (Array.getElem?_eq_some_iff.1 kb).1⟩, b6_5 := fun _ => hd.1 })
  ·intro L s w2 h hk hl
   refine cA ?_ (hQ2 s w2 (⟨h.mu, (let ⟨g, h0, h1, _, _, h3⟩ := h.al_s (hl 5 (by decide)); ⟨g, h0, h1, h3 (hl 6 (by decide))⟩)⟩))
   refine congrArg (fun l => (⟨List.toArray l, []⟩ : Act)) ?_
   show [s 0, s 1, s 2, s 3, s 4, s 5, s 6, s 7, s 8, s 9, s 10, s 11, s 12, s 13, s 14, s 15, s 16, s 17, s 18, s 19, s 20, s 21, s 22, s 23] = _
   exact lc (hk 0 (by kernel_rfl)) (lc (hk 1 (by kernel_rfl)) (lc (hk 2 (by kernel_rfl)) (lc (hk 3 (by kernel_rfl)) (lc (hk 4 (by kernel_rfl)) (lc rfl (lc rfl (lc rfl (lc rfl (lc rfl (lc rfl (lc (hk 11 (by kernel_rfl)) (lc (hk 12 (by kernel_rfl)) (lc (hk 13 (by kernel_rfl)) (lc (hk 14 (by kernel_rfl)) (lc (hk 15 (by kernel_rfl)) (lc (hk 16 (by kernel_rfl)) (lc (hk 17 (by kernel_rfl)) (lc (hk 18 (by kernel_rfl)) (lc (hk 19 (by kernel_rfl)) (lc (hk 20 (by kernel_rfl)) (lc (hk 21 (by kernel_rfl)) (lc (hk 22 (by kernel_rfl)) (lc (hk 23 (by kernel_rfl)) rfl)))))))))))))))))))))))
  ·intro c s w2 hc
   exact hc.elim
 rotate_left
 ·rintro _ _ _ h
  exact h.elim
 rintro s1 V ⟨h1, ⟨g0, k_s, g_s, c_s⟩⟩
 simp only [mergeL]
 rw [k_s]
 replace HLT := lh (show b ≤ g0 ∧ b < g0 ∧ b + 1 < g0 ∧ b + 1 + 1 < g0 from by
  have hlt := HLT.out
  have hbw := HM.out.size
  have hbw2 := HBW.out
  have := lt_of_block HB.out
  have := lt_of_block HA.out
  have := lt_of_block HR.out
  omega)
 replace HB := sm h1 HB
 replace HA := sm h1 HA
 replace HR := sm h1 HR
 have HS := lh c_s
 replace HM := lh (HM.out.stepM h1 (by simp))
 clear h1 k_s g_s c_s
 refine HK1.out _ _ ?_
 refine wsk fun KB HKB => ?_
 refine wsk fun K2 HK2 => ?_
 have b0 : V.cell? ⟨b, 0, none⟩ = some (.int .u8 p) := by rw [cell_of_row V b 0 _ _ _ HB.out]; rfl
 have e1 : p % 22 = 21 := by have := HKM.out; omega
 have e2 : p.tmod 22 = 21 := by have := HKM.out; omega
 go_wp2_with fail
 refine HK2.out _ _ ?_
 refine wp_cond_true (by rfl) ?_
 clear b0 e1 e2
 refine wp_cut_mergeP (n8 (nn :: nn :: nn :: nn :: nn :: nn :: nn :: some 15 :: some 16 :: nn :: nn :: nn :: nn :: nn :: nn :: nn :: [])) (fun _ w' => Mut [b + 1] V w' ∧ w'.heap[b + 1]? = some (cobj 34 (a.set 21 (lo, hi)))) (fun _ _ => False) ?_ ?_ ?_
 ·intro Q2 hQ2 hP2
  refine wpG ?_
  refine wp_region_G (b := false) (Pn := (fun _ _ => False)) (Borest3 V p lo hi kk a b g0) (by kernel_rfl) (by kernel_rfl) ?_ ?_ ?_ ?_
  ·exact ⟨Mut.start _ false _, fun _ => HA.out, nB, nB, nB⟩
  ·refine AllSP.cons ?_ (AllSP.cons ?_ (AllSP.cons ?_ AllSP.nil))
   ·intro L s w2 h hk hd hn
    have s5 : s 5 = _ := hk 5 (by kernel_rfl)
    have kb := ((h.mu.same _ ((Array.getElem?_eq_some_iff.1 HS.out).1) (notin1 (by have := HLT.out; omega))).trans HS.out)
    refine sP fun K hK => ?_
    exact rs_load rfl s5 (sp_load (p := 0) kb (by simp)) (hK _ _ { h with e0 := fun _ => rfl })
   ·intro L s w2 h hk hd hn
    have s3 : s 3 = _ := hk 3 (by kernel_rfl)
    refine sP fun K hK => ?_
    exact rs_field rfl s3 (fl_model1 _ _) (hK _ _ { h with e1 := fun _ => rfl })
   ·intro L s w2 h hk hd hn
    have s16 := h.e1 hd.1
    have s15 := h.e0 hd.2.1
    have kb := h.kt_a hn
    refine sP fun K hK => ?_
    exact rs_store rfl s16 s15 (sp_store (p := 21) kb (by have := (HL.out : a.length = 22); omega) (lo, hi)) (hK _ _ { h with mu := h.mu.put (List.Mem.head _) _, kt_a := fun a => absurd a.symm bft, kr_a := fun _ => World.putObj_heap_same (Array.getElem?_eq_some_iff.1 kb).1 })
  ·intro L s w2 h hk hl
   refine cA ?_ (hQ2 s w2 (⟨h.mu, h.kr_a (hl 2 (by decide))⟩))
   refine congrArg (fun l => (⟨List.toArray l, []⟩ : Act)) ?_
   show [s 0, s 1, s 2, s 3, s 4, s 5, s 6, s 7, s 8, s 9, s 10, s 11, s 12, s 13, s 14, s 15, s 16, s 17, s 18, s 19, s 20, s 21, s 22, s 23] = _
   exact lc (hk 0 (by kernel_rfl)) (lc (hk 1 (by kernel_rfl)) (lc (hk 2 (by kernel_rfl)) (lc (hk 3 (by kernel_rfl)) (lc (hk 4 (by kernel_rfl)) (lc (hk 5 (by kernel_rfl)) (lc (hk 6 (by kernel_rfl)) (lc (hk 7 (by kernel_rfl)) (lc (hk 8 (by kernel_rfl)) (lc (hk 9 (by kernel_rfl)) (lc (hk 10 (by kernel_rfl)) (lc (hk 11 (by kernel_rfl)) (lc (hk 12 (by kernel_rfl)) (lc (hk 13 (by kernel_rfl)) (lc (hk 14 (by kernel_rfl)) (lc rfl (lc rfl (lc (hk 17 (by kernel_rfl)) (lc (hk 18 (by kernel_rfl)) (lc (hk 19 (by kernel_rfl)) (lc (hk 20 (by kernel_rfl)) (lc (hk 21 (by kernel_rfl)) (lc (hk 22 (by kernel_rfl)) (lc (hk 23 (by kernel_rfl)) rfl)))))))))))))))))))))))
  ·intro c s w2 hc
   exact hc.elim
 rotate_left
 ·rintro _ _ _ h
  exact h.elim
 rintro s3 V ⟨h1, c_a⟩
 simp only [mergeL]
 replace HB := lh ((h1.same _ (lt_of_block HB.out) (notin1 (by have := HLT.out; omega))).trans HB.out)
 replace HA := lh c_a
 replace HR := lh ((h1.same _ (lt_of_block HR.out) (notin1 (by have := HLT.out; omega))).trans HR.out)
 replace HS := lh ((h1.same _ (lt_of_block HS.out) (notin1 (by have := HLT.out; omega))).trans HS.out)
 replace HM := lh (HM.out.stepM h1 (by have := HBW.out; have := HLT.out; intro x hx; simp at hx; right; omega))
 clear h1 c_a
 refine HKB.out _ _ ?_
 have HLS := lh (show (a.set 21 (lo, hi)).length = 22 by rw [List.length_set]; exact HL.out)
 refine wsk fun K5 HK5 => ?_
 refine wp_cut_mergeP (n8 (n8 (nn :: nn :: nn :: nn :: nn :: nn :: nn :: some 23 :: []))) (fun _ w' => Mut [b + 1 + 1] V w' ∧ w'.heap[b + 1 + 1]? = some (cobj 34 (a.set 21 (lo, hi)))) (fun _ _ => False) ?_ ?_ ?_
 ·intro Q2 hQ2 hP2
  refine wpG ?_
  refine wp_region_G (b := false) (Pn := (fun _ _ => False)) (Borest5 V p lo hi kk a b g0) (by kernel_rfl) (by kernel_rfl) ?_ ?_ ?_ ?_
  ·exact ⟨Mut.start _ false _, fun _ => HR.out, nB, nB⟩
  ·refine AllSP.cons ?_ (AllSP.cons ?_ AllSP.nil)
   ·intro L s w2 h hk hd hn
    have s3 : s 3 = _ := hk 3 (by kernel_rfl)
    have kb := ((h.mu.same _ ((Array.getElem?_eq_some_iff.1 HA.out).1) (notin1 (by have := HLT.out; omega))).trans HA.out)
    refine sP fun K hK => ?_
    exact rs_load rfl s3 (md_load kb HLS.out) (hK _ _ { h with e0 := fun _ => rfl })
   ·intro L s w2 h hk hd hn
    have s4 : s 4 = _ := hk 4 (by kernel_rfl)
    have s23 := h.e0 hd.1
    have kb := h.kt_r hn
    refine sP fun K hK => ?_
    exact rs_store rfl s4 s23 (md_store kb rfl _ HLS.out) (hK _ _ { h with mu := h.mu.put (List.Mem.head _) _, kt_r := fun a => absurd a.symm bft, kr_r := fun _ => World.putObj_heap_same (Array.getElem?_eq_some_iff.1 kb).1 })
  ·intro L s w2 h hk hl
   refine cA ?_ (hQ2 s w2 (⟨h.mu, h.kr_r (hl 1 (by decide))⟩))
   refine congrArg (fun l => (⟨List.toArray l, []⟩ : Act)) ?_
   show [s 0, s 1, s 2, s 3, s 4, s 5, s 6, s 7, s 8, s 9, s 10, s 11, s 12, s 13, s 14, s 15, s 16, s 17, s 18, s 19, s 20, s 21, s 22, s 23] = _
   exact lc (hk 0 (by kernel_rfl)) (lc (hk 1 (by kernel_rfl)) (lc (hk 2 (by kernel_rfl)) (lc (hk 3 (by kernel_rfl)) (lc (hk 4 (by kernel_rfl)) (lc (hk 5 (by kernel_rfl)) (lc (hk 6 (by kernel_rfl)) (lc (hk 7 (by kernel_rfl)) (lc (hk 8 (by kernel_rfl)) (lc (hk 9 (by kernel_rfl)) (lc (hk 10 (by kernel_rfl)) (lc (hk 11 (by kernel_rfl)) (lc (hk 12 (by kernel_rfl)) (lc (hk 13 (by kernel_rfl)) (lc (hk 14 (by kernel_rfl)) (lc (hk 15 (by kernel_rfl)) (lc (hk 16 (by kernel_rfl)) (lc (hk 17 (by kernel_rfl)) (lc (hk 18 (by kernel_rfl)) (lc (hk 19 (by kernel_rfl)) (lc (hk 20 (by kernel_rfl)) (lc (hk 21 (by kernel_rfl)) (lc (hk 22 (by kernel_rfl)) (lc rfl rfl)))))))))))))))))))))))
  ·intro c s w2 hc
   exact hc.elim
 rotate_left
 ·rintro _ _ _ h
  exact h.elim
 rintro s5 V ⟨h1, c_r⟩
 simp only [mergeL]
 replace HB := lh ((h1.same _ (lt_of_block HB.out) (notin1 (by have := HLT.out; omega))).trans HB.out)
 replace HA := lh ((h1.same _ (lt_of_block HA.out) (notin1 (by have := HLT.out; omega))).trans HA.out)
 replace HR := lh c_r
 replace HS := lh ((h1.same _ (lt_of_block HS.out) (notin1 (by have := HLT.out; omega))).trans HS.out)
 replace HM := lh (HM.out.stepM h1 (by have := HBW.out; have := HLT.out; intro x hx; simp at hx; right; omega))
 clear h1 c_r
 refine HK5.out _ _ ?_
 refine wp_ret ?_
 rw [HKE.out, show kk = 21 from HKM.out.2.2]
 exact bodyPost_ret (v := mval (a.set 21 (lo, hi))) (res_model Tryz.results15 rfl (md_loadVar HR.out HLS.out)) rfl ⟨rfl, by rw [← HBW.out]; exact HM.out.to0⟩
structure Bocoef1 (V : World) (p : Int) (lo : Int) (hi : Int) (kk : Nat) (a : List (Int × Int)) (b : Nat) (L : Nat → Bool) (s : Nat → Value) (w : World) : Prop where
 mu : Mut [] V w
 e0 : L 0 = true → s 6 = .pointer (some ⟨b, 1, none⟩)
 e1 : L 1 = true → s 7 = .int .i64 lo
 e2 : L 2 = true → s 8 = .pointer (some ⟨b, 2, none⟩)
 e3 : L 3 = true → s 9 = .int .i64 hi
 e4 : L 4 = true → s 10 = sval (lo, hi)
 al_s : L 5 = true → ∃ g : Nat, s 5 = .pointer (some ⟨g, 0, none⟩) ∧ V.heap.size ≤ g ∧ g < w.heap.size ∧ (L 6 = false → w.heap[g]? = some (cobj 31 [(0, 0)])) ∧ (L 6 = true → w.heap[g]? = some (cobj 31 [(lo, hi)]))
 b6_5 : L 6 = true → L 5 = true
structure Bocoef4 (V : World) (p : Int) (lo : Int) (hi : Int) (kk : Nat) (a : List (Int × Int)) (b : Nat) (g0 : Nat) (L : Nat → Bool) (s : Nat → Value) (w : World) : Prop where
 mu : Mut [b + 1] V w
 kt_a : L 6 = false → w.heap[b + 1]? = some (cobj 34 a)
 kr_a : L 6 = true → w.heap[b + 1]? = some (cobj 34 (a.set kk (lo, hi)))
 e0 : L 0 = true → s 17 = .pointer (some ⟨b, 0, none⟩)
 e1 : L 1 = true → s 18 = .int .u8 p
 e2 : L 2 = true → s 19 = .int .u8 (kk : Int)
 e3 : L 3 = true → s 20 = sval (lo, hi)
 e4 : L 4 = true → s 21 = .pointer (some ⟨b + 1, 0, none⟩)
 e5 : L 5 = true → s 22 = .pointer (some ⟨b + 1, kk * 2, none⟩)
structure Bocoef5 (V : World) (p : Int) (lo : Int) (hi : Int) (kk : Nat) (a : List (Int × Int)) (b : Nat) (g0 : Nat) (L : Nat → Bool) (s : Nat → Value) (w : World) : Prop where
 mu : Mut [b + 1 + 1] V w
 kt_r : L 1 = false → w.heap[b + 1 + 1]? = some (cobj 34 zeroM)
 kr_r : L 1 = true → w.heap[b + 1 + 1]? = some (cobj 34 (a.set kk (lo, hi)))
 e0 : L 0 = true → s 23 = mval (a.set kk (lo, hi))
set_option maxRecDepth 100000 in
set_option maxHeartbeats 4000000 in
theorem dr_Of_coef (p lo hi : Int) (a : List (Int × Int)) (hp : 0 ≤ p ∧ p ≤ 255) (hq : ¬ p % 22 = 21) (ha : a.length = 22) (w : World) :
  Calls Tryz.prog 15 #[.agg #[.int .u8 p, .int .i64 lo, .int .i64 hi], mval a] w fun e w' => e = .returned (mval (bendOf p (lo, hi) a)) ∧ Below w.heap.size w w' := by
 have HL := lh ha
 obtain ⟨kk, hkk⟩ : ∃ kk, (p % 22).toNat = kk := ⟨_, rfl⟩
 have HKE := lh (show bendOf p (lo, hi) a = a.set kk (lo, hi) by unfold bendOf; rw [hkk])
 have HKM := lh (show p % 22 = (kk : Int) ∧ p.tmod 22 = (kk : Int) ∧ kk < 21 from ⟨by omega, by rw [Int.tmod_eq_emod_of_nonneg hp.1]; omega, by omega⟩)
 have HLX := lh (show (a.set kk (lo, hi)).length = 22 by rw [List.length_set]; exact ha)
 clear hp hq ha hkk
 go_enter Tryz.func15, Tryz.ntmps15
 refine wsk fun K0 HK0 => ?_
 go_wp2_with fail
 rename_i x1 cs1 hc1
 obtain rfl : (mc a).toArray = cs1 := Value.agg.inj hc1
 clear hc1
 obtain ⟨b, hb⟩ : ∃ b, w.heap.size = b := ⟨_, rfl⟩
 refine HK0.out _ _ ?_
 refine wp_world (fun V => Mut [] w V ∧ V.heap[b]? = some (.cells #[.int .u8 p, .int .i64 lo, .int .i64 hi] 28 (0, 0)) ∧ V.heap[b + 1]? = some (cobj 34 a) ∧ V.heap[b + 1 + 1]? = some (cobj 34 zeroM)) ?_
  (by
   rw [← hb]
   exact ⟨((((Mut.refl _ _).alloc _).alloc _).alloc _), heap_up _ (heap_up _ (heap_at (.cells #[.int .u8 p, .int .i64 lo, .int .i64 hi] 28 (0, 0)) (by simp))), heap_up _ (heap_at (cobj 34 a) (by simp)), heap_at (cobj 34 zeroM) (by simp)⟩)
 rintro V ⟨hm, hHB, hHA, hHR⟩
 rw [hb]
 have HM := lh hm
 have HBW := lh hb
 have HLT := lh trivial
 have HB := lh hHB
 have HA := lh hHA
 have HR := lh hHR
 clear hm hHB hHA hHR hb HK0
 refine wsk fun K1 HK1 => ?_
 refine wp_cut_mergeP (nn :: nn :: nn :: nn :: nn :: some 5 :: some 6 :: some 7 :: some 8 :: some 9 :: some 10 :: n8 (nn :: nn :: nn :: nn :: nn :: [])) (fun s w' => Mut [] V w' ∧ (∃ g : Nat, s 5 = .pointer (some ⟨g, 0, none⟩) ∧ V.heap.size ≤ g ∧ w'.heap[g]? = some (cobj 31 [(lo, hi)]))) (fun _ _ => False) ?_ ?_ ?_
 ·intro Q2 hQ2 hP2
  refine wpG ?_
  refine wp_region_G (b := false) (Pn := (fun _ _ => False)) (Bocoef1 V p lo hi kk a b) (by kernel_rfl) (by kernel_rfl) ?_ ?_ ?_ ?_
  ·exact ⟨Mut.start _ false _, nB, nB, nB, nB, nB, nB, nB⟩
  ·refine AllSP.cons ?_ (AllSP.cons ?_ (AllSP.cons ?_ (AllSP.cons ?_ (AllSP.cons ?_ (AllSP.cons ?_ (AllSP.cons ?_ AllSP.nil))))))
   ·intro L s w2 h hk hd hn
    have s2 : s 2 = _ := hk 2 (by kernel_rfl)
    refine sP fun K hK => ?_
    go_simp
    exact hK _ _ { h with e0 := fun _ => rfl }
   ·intro L s w2 h hk hd hn
    have s6 := h.e0 hd.1
    have kq := (h.mu.same _ (lt_of_block HB.out) (by simp)).trans HB.out
    have kc : w2.cell? ⟨b, 1, none⟩ = some (.int .i64 lo) := by rw [cell_of_row w2 b 1 _ _ _ kq]; rfl
    refine sP fun K hK => ?_
    go_simp
    exact hK _ _ { h with e1 := fun _ => rfl }
   ·intro L s w2 h hk hd hn
    have s2 : s 2 = _ := hk 2 (by kernel_rfl)
    refine sP fun K hK => ?_
    go_simp
    exact hK _ _ { h with e2 := fun _ => rfl }
   ·intro L s w2 h hk hd hn
    have s8 := h.e2 hd.1
    have kq := (h.mu.same _ (lt_of_block HB.out) (by simp)).trans HB.out
    have kc : w2.cell? ⟨b, 2, none⟩ = some (.int .i64 hi) := by rw [cell_of_row w2 b 2 _ _ _ kq]; rfl
    refine sP fun K hK => ?_
    go_simp
    exact hK _ _ { h with e3 := fun _ => rfl }
   ·intro L s w2 h hk hd hn
    have s7 := h.e1 hd.1
    have s9 := h.e3 hd.2.1
    refine sP fun K hK => ?_
    go_simp
    exact hK _ _ { h with e4 := fun _ => rfl }
   ·intro L s w2 h hk hd hn
    refine sP fun K hK => ?_
    go_simp
    exact hK _ _ { h with mu := h.mu.alloc _, al_s := fun _ => ⟨_, rfl, h.mu.size, by simp, fun _ => heap_at _ rfl, fun a => absurd (h.b6_5 a) (by rw [hn]; exact bft)⟩, b6_5 := fun _ => rfl }
   ·intro L s w2 h hk hd hn
    have s10 := h.e4 hd.2.1
    obtain ⟨g, hg0, hg1, hgl, hg2, hg3⟩ := h.al_s hd.1
    have kb := hg2 hn
    refine sP fun K hK => ?_
    exact rs_store rfl hg0 s10 (sp_store (p := 0) kb (by simp) (lo, hi)) (hK _ _ { h with mu := h.mu.putNew hg1 _, al_s := fun a => ⟨g, hg0, hg1, by simpa using hgl, fun a => absurd a.symm bft, fun _ => World.putObj_heap_same (Array.getElem?_eq_some_iff.1 kb).1⟩, b6_5 := fun _ => hd.1 })
  ·intro L s w2 h hk hl
   refine cA ?_ (hQ2 s w2 (⟨h.mu, (let ⟨g, h0, h1, _, _, h3⟩ := h.al_s (hl 5 (by decide)); ⟨g, h0, h1, h3 (hl 6 (by decide))⟩)⟩))
   refine congrArg (fun l => (⟨List.toArray l, []⟩ : Act)) ?_
   show [s 0, s 1, s 2, s 3, s 4, s 5, s 6, s 7, s 8, s 9, s 10, s 11, s 12, s 13, s 14, s 15, s 16, s 17, s 18, s 19, s 20, s 21, s 22, s 23] = _
   exact lc (hk 0 (by kernel_rfl)) (lc (hk 1 (by kernel_rfl)) (lc (hk 2 (by kernel_rfl)) (lc (hk 3 (by kernel_rfl)) (lc (hk 4 (by kernel_rfl)) (lc rfl (lc rfl (lc rfl (lc rfl (lc rfl (lc rfl (lc (hk 11 (by kernel_rfl)) (lc (hk 12 (by kernel_rfl)) (lc (hk 13 (by kernel_rfl)) (lc (hk 14 (by kernel_rfl)) (lc (hk 15 (by kernel_rfl)) (lc (hk 16 (by kernel_rfl)) (lc (hk 17 (by kernel_rfl)) (lc (hk 18 (by kernel_rfl)) (lc (hk 19 (by kernel_rfl)) (lc (hk 20 (by kernel_rfl)) (lc (hk 21 (by kernel_rfl)) (lc (hk 22 (by kernel_rfl)) (lc (hk 23 (by kernel_rfl)) rfl)))))))))))))))))))))))
  ·intro c s w2 hc
   exact hc.elim
 rotate_left
 ·rintro _ _ _ h
  exact h.elim
 rintro s1 V ⟨h1, ⟨g0, k_s, g_s, c_s⟩⟩
 simp only [mergeL]
 rw [k_s]
 replace HLT := lh (show b ≤ g0 ∧ b < g0 ∧ b + 1 < g0 ∧ b + 1 + 1 < g0 from by
  have hlt := HLT.out
  have hbw := HM.out.size
  have hbw2 := HBW.out
  have := lt_of_block HB.out
  have := lt_of_block HA.out
  have := lt_of_block HR.out
  omega)
 replace HB := sm h1 HB
 replace HA := sm h1 HA
 replace HR := sm h1 HR
 have HS := lh c_s
 replace HM := lh (HM.out.stepM h1 (by simp))
 clear h1 k_s g_s c_s
 refine HK1.out _ _ ?_
 refine wsk fun KB HKB => ?_
 refine wsk fun K2 HK2 => ?_
 have b0 : V.cell? ⟨b, 0, none⟩ = some (.int .u8 p) := by rw [cell_of_row V b 0 _ _ _ HB.out]; rfl
 have e1 := HKM.out.1
 have e2 := HKM.out.2.1
 have e3 : ((kk : Int) == 21) = false := by have := HKM.out.2.2; simp; omega
 go_wp2_with fail
 refine HK2.out _ _ ?_
 refine wp_cond_false (by rfl) ?_
 clear b0 e1 e2 e3
 refine wp_cut_mergeP (n8 (n8 (nn :: some 17 :: some 18 :: some 19 :: some 20 :: some 21 :: some 22 :: nn :: []))) (fun _ w' => Mut [b + 1] V w' ∧ w'.heap[b + 1]? = some (cobj 34 (a.set kk (lo, hi)))) (fun _ _ => False) ?_ ?_ ?_
 ·intro Q2 hQ2 hP2
  refine wpG ?_
  refine wp_region_G (b := false) (Pn := (fun _ _ => False)) (Bocoef4 V p lo hi kk a b g0) (by kernel_rfl) (by kernel_rfl) ?_ ?_ ?_ ?_
  ·exact ⟨Mut.start _ false _, fun _ => HA.out, nB, nB, nB, nB, nB, nB, nB⟩
  ·refine AllSP.cons ?_ (AllSP.cons ?_ (AllSP.cons ?_ (AllSP.cons ?_ (AllSP.cons ?_ (AllSP.cons ?_ (AllSP.cons ?_ AllSP.nil))))))
   ·intro L s w2 h hk hd hn
    have s2 : s 2 = _ := hk 2 (by kernel_rfl)
    refine sP fun K hK => ?_
    go_simp
    exact hK _ _ { h with e0 := fun _ => rfl }
   ·intro L s w2 h hk hd hn
    have s17 := h.e0 hd.1
    have kq := (h.mu.same _ (lt_of_block HB.out) (notin1 (by omega))).trans HB.out
    have kc : w2.cell? ⟨b, 0, none⟩ = some (.int .u8 p) := by rw [cell_of_row w2 b 0 _ _ _ kq]; rfl
    refine sP fun K hK => ?_
    go_simp
    exact hK _ _ { h with e1 := fun _ => rfl }
   ·intro L s w2 h hk hd hn
    have s18 := h.e1 hd.1
    have e1 := HKM.out.1
    have e2 := HKM.out.2.1
    refine sP fun K hK => ?_
    go_simp
    exact hK _ _ { h with e2 := fun _ => rfl }
   ·intro L s w2 h hk hd hn
    have s5 : s 5 = _ := hk 5 (by kernel_rfl)
    have kb := ((h.mu.same _ ((Array.getElem?_eq_some_iff.1 HS.out).1) (notin1 (by have := HLT.out; omega))).trans HS.out)
    refine sP fun K hK => ?_
    exact rs_load rfl s5 (sp_load (p := 0) kb (by simp)) (hK _ _ { h with e3 := fun _ => rfl })
   ·intro L s w2 h hk hd hn
    have s3 : s 3 = _ := hk 3 (by kernel_rfl)
    refine sP fun K hK => ?_
    exact rs_field rfl s3 (fl_model0 _ _) (hK _ _ { h with e4 := fun _ => rfl })
   ·intro L s w2 h hk hd hn
    have s21 := h.e4 hd.1
    have s19 := h.e2 hd.2.1
    refine sP fun K hK => ?_
    exact rs_index rfl s21 s19 (ix_model8 _ kk HKM.out.2.2) (hK _ _ { h with e5 := fun _ => rfl })
   ·intro L s w2 h hk hd hn
    have s22 := h.e5 hd.1
    have s20 := h.e3 hd.2.1
    have kb := h.kt_a hn
    refine sP fun K hK => ?_
    exact rs_store rfl s22 s20 (sp_store (p := kk) kb (by have := HL.out; have := HKM.out.2.2; omega) (lo, hi)) (hK _ _ { h with mu := h.mu.put (List.Mem.head _) _, kt_a := fun a => absurd a.symm bft, kr_a := fun _ => World.putObj_heap_same (Array.getElem?_eq_some_iff.1 kb).1 })
  ·intro L s w2 h hk hl
   refine cA ?_ (hQ2 s w2 (⟨h.mu, h.kr_a (hl 6 (by decide))⟩))
   refine congrArg (fun l => (⟨List.toArray l, []⟩ : Act)) ?_
   show [s 0, s 1, s 2, s 3, s 4, s 5, s 6, s 7, s 8, s 9, s 10, s 11, s 12, s 13, s 14, s 15, s 16, s 17, s 18, s 19, s 20, s 21, s 22, s 23] = _
   exact lc (hk 0 (by kernel_rfl)) (lc (hk 1 (by kernel_rfl)) (lc (hk 2 (by kernel_rfl)) (lc (hk 3 (by kernel_rfl)) (lc (hk 4 (by kernel_rfl)) (lc (hk 5 (by kernel_rfl)) (lc (hk 6 (by kernel_rfl)) (lc (hk 7 (by kernel_rfl)) (lc (hk 8 (by kernel_rfl)) (lc (hk 9 (by kernel_rfl)) (lc (hk 10 (by kernel_rfl)) (lc (hk 11 (by kernel_rfl)) (lc (hk 12 (by kernel_rfl)) (lc (hk 13 (by kernel_rfl)) (lc (hk 14 (by kernel_rfl)) (lc (hk 15 (by kernel_rfl)) (lc (hk 16 (by kernel_rfl)) (lc rfl (lc rfl (lc rfl (lc rfl (lc rfl (lc rfl (lc (hk 23 (by kernel_rfl)) rfl)))))))))))))))))))))))
  ·intro c s w2 hc
   exact hc.elim
 rotate_left
 ·rintro _ _ _ h
  exact h.elim
 rintro s4 V ⟨h1, c_a⟩
 simp only [mergeL]
 replace HB := lh ((h1.same _ (lt_of_block HB.out) (notin1 (by have := HLT.out; omega))).trans HB.out)
 replace HA := lh c_a
 replace HR := lh ((h1.same _ (lt_of_block HR.out) (notin1 (by have := HLT.out; omega))).trans HR.out)
 replace HS := lh ((h1.same _ (lt_of_block HS.out) (notin1 (by have := HLT.out; omega))).trans HS.out)
 replace HM := lh (HM.out.stepM h1 (by have := HBW.out; have := HLT.out; intro x hx; simp at hx; right; omega))
 clear h1 c_a
 refine HKB.out _ _ ?_
 have HLS := lh (show (a.set kk (lo, hi)).length = 22 by rw [List.length_set]; exact HL.out)
 refine wsk fun K5 HK5 => ?_
 refine wp_cut_mergeP (n8 (n8 (nn :: nn :: nn :: nn :: nn :: nn :: nn :: some 23 :: []))) (fun _ w' => Mut [b + 1 + 1] V w' ∧ w'.heap[b + 1 + 1]? = some (cobj 34 (a.set kk (lo, hi)))) (fun _ _ => False) ?_ ?_ ?_
 ·intro Q2 hQ2 hP2
  refine wpG ?_
  refine wp_region_G (b := false) (Pn := (fun _ _ => False)) (Bocoef5 V p lo hi kk a b g0) (by kernel_rfl) (by kernel_rfl) ?_ ?_ ?_ ?_
  ·exact ⟨Mut.start _ false _, fun _ => HR.out, nB, nB⟩
  ·refine AllSP.cons ?_ (AllSP.cons ?_ AllSP.nil)
   ·intro L s w2 h hk hd hn
    have s3 : s 3 = _ := hk 3 (by kernel_rfl)
    have kb := ((h.mu.same _ ((Array.getElem?_eq_some_iff.1 HA.out).1) (notin1 (by have := HLT.out; omega))).trans HA.out)
    refine sP fun K hK => ?_
    exact rs_load rfl s3 (md_load kb HLS.out) (hK _ _ { h with e0 := fun _ => rfl })
   ·intro L s w2 h hk hd hn
    have s4 : s 4 = _ := hk 4 (by kernel_rfl)
    have s23 := h.e0 hd.1
    have kb := h.kt_r hn
    refine sP fun K hK => ?_
    exact rs_store rfl s4 s23 (md_store kb rfl _ HLS.out) (hK _ _ { h with mu := h.mu.put (List.Mem.head _) _, kt_r := fun a => absurd a.symm bft, kr_r := fun _ => World.putObj_heap_same (Array.getElem?_eq_some_iff.1 kb).1 })
  ·intro L s w2 h hk hl
   refine cA ?_ (hQ2 s w2 (⟨h.mu, h.kr_r (hl 1 (by decide))⟩))
   refine congrArg (fun l => (⟨List.toArray l, []⟩ : Act)) ?_
   show [s 0, s 1, s 2, s 3, s 4, s 5, s 6, s 7, s 8, s 9, s 10, s 11, s 12, s 13, s 14, s 15, s 16, s 17, s 18, s 19, s 20, s 21, s 22, s 23] = _
   exact lc (hk 0 (by kernel_rfl)) (lc (hk 1 (by kernel_rfl)) (lc (hk 2 (by kernel_rfl)) (lc (hk 3 (by kernel_rfl)) (lc (hk 4 (by kernel_rfl)) (lc (hk 5 (by kernel_rfl)) (lc (hk 6 (by kernel_rfl)) (lc (hk 7 (by kernel_rfl)) (lc (hk 8 (by kernel_rfl)) (lc (hk 9 (by kernel_rfl)) (lc (hk 10 (by kernel_rfl)) (lc (hk 11 (by kernel_rfl)) (lc (hk 12 (by kernel_rfl)) (lc (hk 13 (by kernel_rfl)) (lc (hk 14 (by kernel_rfl)) (lc (hk 15 (by kernel_rfl)) (lc (hk 16 (by kernel_rfl)) (lc (hk 17 (by kernel_rfl)) (lc (hk 18 (by kernel_rfl)) (lc (hk 19 (by kernel_rfl)) (lc (hk 20 (by kernel_rfl)) (lc (hk 21 (by kernel_rfl)) (lc (hk 22 (by kernel_rfl)) (lc rfl rfl)))))))))))))))))))))))
  ·intro c s w2 hc
   exact hc.elim
 rotate_left
 ·rintro _ _ _ h
  exact h.elim
 rintro s5 V ⟨h1, c_r⟩
 simp only [mergeL]
 replace HB := lh ((h1.same _ (lt_of_block HB.out) (notin1 (by have := HLT.out; omega))).trans HB.out)
 replace HA := lh ((h1.same _ (lt_of_block HA.out) (notin1 (by have := HLT.out; omega))).trans HA.out)
 replace HR := lh c_r
 replace HS := lh ((h1.same _ (lt_of_block HS.out) (notin1 (by have := HLT.out; omega))).trans HS.out)
 replace HM := lh (HM.out.stepM h1 (by have := HBW.out; have := HLT.out; intro x hx; simp at hx; right; omega))
 clear h1 c_r
 refine HK5.out _ _ ?_
 refine wp_ret ?_
 rw [HKE.out]
 exact bodyPost_ret (v := mval (a.set kk (lo, hi))) (res_model Tryz.results15 rfl (md_loadVar HR.out HLS.out)) rfl ⟨rfl, by rw [← HBW.out]; exact HM.out.to0⟩
theorem dr_Of (p lo hi : Int) (a : List (Int × Int)) (hp : 0 ≤ p ∧ p ≤ 255) (ha : a.length = 22) (w : World) :
  Calls Tryz.prog 15 #[.agg #[.int .u8 p, .int .i64 lo, .int .i64 hi], mval a] w fun e w' => e = .returned (mval (bendOf p (lo, hi) a)) ∧ Below w.heap.size w w' := by
 by_cases h : p % 22 = 21
 ·exact dr_Of_rest p lo hi a hp h ha w
 ·exact dr_Of_coef p lo hi a hp h ha w
structure Dn1 (V : World) (c : Int) (r : Int) (ts : List Tm) (ao : Option Addr) (cap : Nat) (b : Nat) (L : Nat → Bool) (s : Nat → Value) (w : World) : Prop where
 mu : Mut [] V w
 e0 : L 0 = true → s 5 = .agg #[.int .i16 c, .slice ao ts.length cap, .int .u16 r]
 e1 : L 1 = true → s 6 = mval (dModel c ts r)
 al_a : L 2 = true → ∃ g : Nat, s 3 = .pointer (some ⟨g, 0, none⟩) ∧ V.heap.size ≤ g ∧ g < w.heap.size ∧ (L 3 = false → w.heap[g]? = some (cobj 34 zeroM)) ∧ (L 3 = true → w.heap[g]? = some (cobj 34 (dModel c ts r)))
 b3_2 : L 3 = true → L 2 = true
structure Dn2 (V : World) (c : Int) (r : Int) (ts : List Tm) (ao : Option Addr) (cap : Nat) (b : Nat) (g0 : Nat) (L : Nat → Bool) (s : Nat → Value) (w : World) : Prop where
 mu : Mut [g0] V w
 kt_a : L 9 = false → w.heap[g0]? = some (cobj 34 (dModel c ts r))
 kr_a : L 9 = true → w.heap[g0]? = some (cobj 34 ((dModel c ts r).set 0 (4294967296 + (c + 32768) * 65536, 4294967296 + (c + 32768) * 65536)))
 e0 : L 0 = true → s 7 = .pointer (some ⟨b, 0, none⟩)
 e1 : L 1 = true → s 8 = .int .i16 c
 e2 : L 2 = true → s 9 = .int .i64 c
 e3 : L 3 = true → s 10 = .int .i64 (c + 32768)
 e4 : L 4 = true → s 11 = .int .i64 ((c + 32768) * 65536)
 e5 : L 5 = true → s 12 = .int .i64 (4294967296 + (c + 32768) * 65536)
 e6 : L 6 = true → s 13 = sval ((4294967296 + (c + 32768) * 65536, 4294967296 + (c + 32768) * 65536))
 e7 : L 7 = true → s 14 = .pointer (some ⟨g0, 0, none⟩)
 e8 : L 8 = true → s 15 = .pointer (some ⟨g0, 0 * 2, none⟩)
structure Dn6 (V : World) (c : Int) (r : Int) (ts : List Tm) (ao : Option Addr) (cap : Nat) (b : Nat) (g0 : Nat) (p : Nat) (M : List (Int × Int)) (L : Nat → Bool) (s : Nat → Value) (w : World) : Prop where
 mu : Mut [g0] V w
 kt_a : L 10 = false → w.heap[g0]? = some (cobj 34 M)
 kr_a : L 10 = true → w.heap[g0]? = some (cobj 34 (nearLo M p))
 e0 : L 0 = true → s 20 = .int .i64 ((p : Nat) : Int)
 e1 : L 1 = true → s 21 = .int .i64 ((p : Nat) : Int)
 e2 : L 2 = true → s 22 = .pointer (some ⟨g0, 0, none⟩)
 e3 : L 3 = true → s 23 = .pointer (some ⟨g0, p * 2, none⟩)
 e4 : L 4 = true → s 24 = .pointer (some ⟨g0, p * 2, none⟩)
 e5 : L 5 = true → s 25 = .int .i64 ((tAt M p).1)
 e6 : L 6 = true → s 26 = .int .i64 (IntKind.i64.wrap ((tAt M p).1.tdiv 8))
 e7 : L 7 = true → s 27 = .pointer (some ⟨g0, 0, none⟩)
 e8 : L 8 = true → s 28 = .pointer (some ⟨g0, p * 2, none⟩)
 e9 : L 9 = true → s 29 = .pointer (some ⟨g0, p * 2, none⟩)
 b10_5 : L 10 = true → L 5 = true
structure Dn7 (V : World) (c : Int) (r : Int) (ts : List Tm) (ao : Option Addr) (cap : Nat) (b : Nat) (g0 : Nat) (p : Nat) (M : List (Int × Int)) (M1 : List (Int × Int)) (L : Nat → Bool) (s : Nat → Value) (w : World) : Prop where
 mu : Mut [g0] V w
 kt_a : L 10 = false → w.heap[g0]? = some (cobj 34 M1)
 kr_a : L 10 = true → w.heap[g0]? = some (cobj 34 (nearHi M1 p))
 e0 : L 0 = true → s 30 = .int .i64 ((p : Nat) : Int)
 e1 : L 1 = true → s 31 = .int .i64 ((p : Nat) : Int)
 e2 : L 2 = true → s 32 = .pointer (some ⟨g0, 0, none⟩)
 e3 : L 3 = true → s 33 = .pointer (some ⟨g0, p * 2, none⟩)
 e4 : L 4 = true → s 34 = .pointer (some ⟨g0, p * 2 + 1, none⟩)
 e5 : L 5 = true → s 35 = .int .i64 ((tAt M1 p).2)
 e6 : L 6 = true → s 36 = .int .i64 (IntKind.i64.wrap ((tAt M1 p).2.tdiv 8))
 e7 : L 7 = true → s 37 = .pointer (some ⟨g0, 0, none⟩)
 e8 : L 8 = true → s 38 = .pointer (some ⟨g0, p * 2, none⟩)
 e9 : L 9 = true → s 39 = .pointer (some ⟨g0, p * 2 + 1, none⟩)
 b10_5 : L 10 = true → L 5 = true
structure Dn8 (V : World) (c : Int) (r : Int) (ts : List Tm) (ao : Option Addr) (cap : Nat) (b : Nat) (g0 : Nat) (L : Nat → Bool) (s : Nat → Value) (w : World) : Prop where
 mu : Mut [b + 1] V w
 kt_r : L 1 = false → w.heap[b + 1]? = some (cobj 34 zeroM)
 kr_r : L 1 = true → w.heap[b + 1]? = some (cobj 34 (dNear c ts r))
 e0 : L 0 = true → s 40 = mval (dNear c ts r)
set_option maxRecDepth 100000 in
set_option maxHeartbeats 4000000 in
theorem dr_Near (c r : Int) (ts : List Tm) (ao : Option Addr) (cap : Nat) (hc : -32768 ≤ c ∧ c ≤ 32767) (hr : 0 ≤ r ∧ r ≤ 65535) (w : World) (ht : TmSl w ao cap ts) :
  Calls Tryz.prog 14 #[.agg #[.int .i16 c, .slice ao ts.length cap, .int .u16 r]] w fun e w' => e = .returned (mval (dNear c ts r)) ∧ Below w.heap.size w w' := by
 have HC := lh hc
 have HRR := lh hr
 have HT := lh ht
 clear hc hr ht
 go_enter Tryz.func14, Tryz.ntmps14
 refine wsk fun K0 HK0 => ?_
 go_wp2_with fail
 obtain ⟨b, hb⟩ : ∃ b, w.heap.size = b := ⟨_, rfl⟩
 refine HK0.out _ _ ?_
 refine wp_world (fun V => Mut [] w V ∧ V.heap[b]? = some (.cells #[.int .i16 c, .slice ao ts.length cap, .int .u16 r] 26 (0, 0)) ∧ V.heap[b + 1]? = some (cobj 34 zeroM)) ?_
  (by
   rw [← hb]
   exact ⟨(((Mut.refl _ _).alloc _).alloc _), heap_up _ (heap_at (.cells #[.int .i16 c, .slice ao ts.length cap, .int .u16 r] 26 (0, 0)) (by simp)), heap_at (cobj 34 zeroM) (by simp)⟩)
 rintro V ⟨hm, hHD, hHR⟩
 rw [hb]
 have HM := lh hm
 have HBW := lh hb
 have HLT := lh trivial
 have HD := lh hHD
 have HR := lh hHR
 clear hm hHD hHR hb HK0
 refine wsk fun K1 HK1 => ?_
 refine wp_cut_mergeP (nn :: nn :: nn :: some 3 :: nn :: some 5 :: some 6 :: n8 (n8 (n8 (n8 (nn :: nn :: []))))) (fun s w' => Mut [] V w' ∧ (∃ g : Nat, s 3 = .pointer (some ⟨g, 0, none⟩) ∧ V.heap.size ≤ g ∧ w'.heap[g]? = some (cobj 34 (dModel c ts r)))) (fun _ _ => False) ?_ ?_ ?_
 ·intro Q2 hQ2 hP2
  refine wpG ?_
  refine wp_region_G (b := false) (Pn := (fun _ _ => False)) (Dn1 V c r ts ao cap b) (by kernel_rfl) (by kernel_rfl) ?_ ?_ ?_ ?_
  ·exact ⟨Mut.start _ false _, nB, nB, nB, nB⟩
  ·refine AllSP.cons ?_ (AllSP.cons ?_ (AllSP.cons ?_ (AllSP.cons ?_ AllSP.nil)))
   ·intro L s w2 h hk hd hn
    have s1 : s 1 = _ := hk 1 (by kernel_rfl)
    have kq := (h.mu.same _ (lt_of_block HD.out) (by simp)).trans HD.out
    have ka : w2.cell? ⟨b, 0, none⟩ = some (.int .i16 c) := by rw [cell_of_row w2 b 0 _ _ _ kq]; rfl
    have kq := (h.mu.same _ (lt_of_block HD.out) (by simp)).trans HD.out
    have kb : w2.cell? ⟨b, 1, none⟩ = some (.slice ao ts.length cap) := by rw [cell_of_row w2 b 1 _ _ _ kq]; rfl
    have kq := (h.mu.same _ (lt_of_block HD.out) (by simp)).trans HD.out
    have kc : w2.cell? ⟨b, 2, none⟩ = some (.int .u16 r) := by rw [cell_of_row w2 b 2 _ _ _ kq]; rfl
    refine sP fun K hK => ?_
    go_simp
    exact hK _ _ { h with e0 := fun _ => rfl }
   ·intro L s w2 h hk hd hn
    have s5 := h.e0 hd.1
    refine sP fun K hK => ?_
    go_simp
    refine (dr_Model c r ts ao cap HC.out HRR.out _ (HT.out.on (HM.out.trans h.mu).to0)).mono ?_
    rintro e w3 ⟨rfl, hb⟩
    exact .inl ⟨_, rfl, hK _ _ { h with mu := h.mu.step hb, al_a := fun a => let ⟨g, h0, h1, hl, h2, h3⟩ := h.al_a a; ⟨g, h0, h1, Nat.lt_of_lt_of_le hl hb.size, fun c => (hb.block _ (lt_of_block (h2 c))).trans (h2 c), fun c => (hb.block _ (lt_of_block (h3 c))).trans (h3 c)⟩, e1 := fun _ => rfl }⟩
   ·intro L s w2 h hk hd hn
    refine sP fun K hK => ?_
    go_simp
    exact hK _ _ { h with mu := h.mu.alloc _, al_a := fun _ => ⟨_, rfl, h.mu.size, by simp, fun _ => heap_at _ rfl, fun a => absurd (h.b3_2 a) (by rw [hn]; exact bft)⟩, b3_2 := fun _ => rfl }
   ·intro L s w2 h hk hd hn
    have s6 := h.e1 hd.2.1
    obtain ⟨g, hg0, hg1, hgl, hg2, hg3⟩ := h.al_a hd.1
    have kb := hg2 hn
    refine sP fun K hK => ?_
    exact rs_store rfl hg0 s6 (md_store kb rfl _ (dModel_len _ _ _)) (hK _ _ { h with mu := h.mu.putNew hg1 _, al_a := fun a => ⟨g, hg0, hg1, by simpa using hgl, fun a => absurd a.symm bft, fun _ => World.putObj_heap_same (Array.getElem?_eq_some_iff.1 kb).1⟩, b3_2 := fun _ => hd.1 })
  ·intro L s w2 h hk hl
   refine cA ?_ (hQ2 s w2 (⟨h.mu, (let ⟨g, h0, h1, _, _, h3⟩ := h.al_a (hl 2 (by decide)); ⟨g, h0, h1, h3 (hl 3 (by decide))⟩)⟩))
   refine congrArg (fun l => (⟨List.toArray l, []⟩ : Act)) ?_
   show [s 0, s 1, s 2, s 3, s 4, s 5, s 6, s 7, s 8, s 9, s 10, s 11, s 12, s 13, s 14, s 15, s 16, s 17, s 18, s 19, s 20, s 21, s 22, s 23, s 24, s 25, s 26, s 27, s 28, s 29, s 30, s 31, s 32, s 33, s 34, s 35, s 36, s 37, s 38, s 39, s 40] = _
   exact lc (hk 0 (by kernel_rfl)) (lc (hk 1 (by kernel_rfl)) (lc (hk 2 (by kernel_rfl)) (lc rfl (lc (hk 4 (by kernel_rfl)) (lc rfl (lc rfl (lc (hk 7 (by kernel_rfl)) (lc (hk 8 (by kernel_rfl)) (lc (hk 9 (by kernel_rfl)) (lc (hk 10 (by kernel_rfl)) (lc (hk 11 (by kernel_rfl)) (lc (hk 12 (by kernel_rfl)) (lc (hk 13 (by kernel_rfl)) (lc (hk 14 (by kernel_rfl)) (lc (hk 15 (by kernel_rfl)) (lc (hk 16 (by kernel_rfl)) (lc (hk 17 (by kernel_rfl)) (lc (hk 18 (by kernel_rfl)) (lc (hk 19 (by kernel_rfl)) (lc (hk 20 (by kernel_rfl)) (lc (hk 21 (by kernel_rfl)) (lc (hk 22 (by kernel_rfl)) (lc (hk 23 (by kernel_rfl)) (lc (hk 24 (by kernel_rfl)) (lc (hk 25 (by kernel_rfl)) (lc (hk 26 (by kernel_rfl)) (lc (hk 27 (by kernel_rfl)) (lc (hk 28 (by kernel_rfl)) (lc (hk 29 (by kernel_rfl)) (lc (hk 30 (by kernel_rfl)) (lc (hk 31 (by kernel_rfl)) (lc (hk 32 (by kernel_rfl)) (lc (hk 33 (by kernel_rfl)) (lc (hk 34 (by kernel_rfl)) (lc (hk 35 (by kernel_rfl)) (lc (hk 36 (by kernel_rfl)) (lc (hk 37 (by kernel_rfl)) (lc (hk 38 (by kernel_rfl)) (lc (hk 39 (by kernel_rfl)) (lc (hk 40 (by kernel_rfl)) rfl))))))))))))))))))))))))))))))))))))))))
  ·intro c s w2 hc
   exact hc.elim
 rotate_left
 ·rintro _ _ _ h
  exact h.elim
 rintro s1 V ⟨h1, ⟨g0, k_a, g_a, c_a⟩⟩
 simp only [mergeL]
 rw [k_a]
 replace HLT := lh (show b ≤ g0 ∧ b < g0 ∧ b + 1 < g0 from by
  have hlt := HLT.out
  have hbw := HM.out.size
  have hbw2 := HBW.out
  have := lt_of_block HD.out
  have := lt_of_block HR.out
  omega)
 replace HD := sm h1 HD
 replace HR := sm h1 HR
 have HA := lh c_a
 replace HM := lh (HM.out.stepM h1 (by simp))
 clear h1 k_a g_a c_a
 refine HK1.out _ _ ?_
 refine wsk fun K2 HK2 => ?_
 refine wp_cut_mergeP (nn :: nn :: nn :: nn :: nn :: nn :: nn :: some 7 :: some 8 :: some 9 :: some 10 :: some 11 :: some 12 :: some 13 :: some 14 :: some 15 :: n8 (n8 (n8 (nn :: [])))) (fun _ w' => Mut [g0] V w' ∧ w'.heap[g0]? = some (cobj 34 ((dModel c ts r).set 0 (4294967296 + (c + 32768) * 65536, 4294967296 + (c + 32768) * 65536)))) (fun _ _ => False) ?_ ?_ ?_
 ·intro Q2 hQ2 hP2
  refine wpG ?_
  refine wp_region_G (b := false) (Pn := (fun _ _ => False)) (Dn2 V c r ts ao cap b g0) (by kernel_rfl) (by kernel_rfl) ?_ ?_ ?_ ?_
  ·exact ⟨Mut.start _ false _, fun _ => HA.out, nB, nB, nB, nB, nB, nB, nB, nB, nB, nB⟩
  ·refine AllSP.cons ?_ (AllSP.cons ?_ (AllSP.cons ?_ (AllSP.cons ?_ (AllSP.cons ?_ (AllSP.cons ?_ (AllSP.cons ?_ (AllSP.cons ?_ (AllSP.cons ?_ (AllSP.cons ?_ AllSP.nil)))))))))
   ·intro L s w2 h hk hd hn
    have s1 : s 1 = _ := hk 1 (by kernel_rfl)
    refine sP fun K hK => ?_
    go_simp
    exact hK _ _ { h with e0 := fun _ => rfl }
   ·intro L s w2 h hk hd hn
    have s7 := h.e0 hd.1
    have kq := (h.mu.same _ (lt_of_block HD.out) (notin1 (by have := HLT.out; omega))).trans HD.out
    have kc : w2.cell? ⟨b, 0, none⟩ = some (.int .i16 c) := by rw [cell_of_row w2 b 0 _ _ _ kq]; rfl
    refine sP fun K hK => ?_
    go_simp
    exact hK _ _ { h with e1 := fun _ => rfl }
   ·intro L s w2 h hk hd hn
    have s8 := h.e1 hd.1
    have e1 := wr_i64 (x := c) (by have := HC.out; omega)
    refine sP fun K hK => ?_
    go_simp
    exact hK _ _ { h with e2 := fun _ => rfl }
   ·intro L s w2 h hk hd hn
    have s9 := h.e2 hd.1
    have e1 := wr_i64 (x := c + 32768) (by have := HC.out; omega)
    refine sP fun K hK => ?_
    go_simp
    exact hK _ _ { h with e3 := fun _ => rfl }
   ·intro L s w2 h hk hd hn
    have s10 := h.e3 hd.1
    have e1 := wr_i64 (x := (c + 32768) * 65536) (by have := HC.out; omega)
    refine sP fun K hK => ?_
    go_simp
    exact hK _ _ { h with e4 := fun _ => rfl }
   ·intro L s w2 h hk hd hn
    have s11 := h.e4 hd.1
    have e1 := wr_i64 (x := 4294967296 + (c + 32768) * 65536) (by have := HC.out; omega)
    refine sP fun K hK => ?_
    go_simp
    exact hK _ _ { h with e5 := fun _ => rfl }
   ·intro L s w2 h hk hd hn
    have s12 := h.e5 hd.1
    refine sP fun K hK => ?_
    go_simp
    refine (rf_point (4294967296 + (c + 32768) * 65536) _).mono ?_
    rintro e w3 ⟨rfl, hb⟩
    exact .inl ⟨_, rfl, hK _ _ { h with mu := h.mu.step hb, kt_a := fun a => (hb.block _ (lt_of_block (h.kt_a a))).trans (h.kt_a a), kr_a := fun a => (hb.block _ (lt_of_block (h.kr_a a))).trans (h.kr_a a), e6 := fun _ => rfl }⟩
   ·intro L s w2 h hk hd hn
    have s3 : s 3 = _ := hk 3 (by kernel_rfl)
    refine sP fun K hK => ?_
    exact rs_field rfl s3 (fl_model0 _ _) (hK _ _ { h with e7 := fun _ => rfl })
   ·intro L s w2 h hk hd hn
    have s14 := h.e7 hd.1
    refine sP fun K hK => ?_
    exact rs_index rfl s14 rfl (ix_model _ 0 (by decide)) (hK _ _ { h with e8 := fun _ => rfl })
   ·intro L s w2 h hk hd hn
    have s15 := h.e8 hd.1
    have s13 := h.e6 hd.2.1
    have kb := h.kt_a hn
    refine sP fun K hK => ?_
    exact rs_store rfl s15 s13 (sp_store (p := 0) kb (by rw [dModel_len]; decide) ((4294967296 + (c + 32768) * 65536, 4294967296 + (c + 32768) * 65536))) (hK _ _ { h with mu := h.mu.put (List.Mem.head _) _, kt_a := fun a => absurd a.symm bft, kr_a := fun _ => World.putObj_heap_same (Array.getElem?_eq_some_iff.1 kb).1 })
  ·intro L s w2 h hk hl
   refine cA ?_ (hQ2 s w2 (⟨h.mu, h.kr_a (hl 9 (by decide))⟩))
   refine congrArg (fun l => (⟨List.toArray l, []⟩ : Act)) ?_
   show [s 0, s 1, s 2, s 3, s 4, s 5, s 6, s 7, s 8, s 9, s 10, s 11, s 12, s 13, s 14, s 15, s 16, s 17, s 18, s 19, s 20, s 21, s 22, s 23, s 24, s 25, s 26, s 27, s 28, s 29, s 30, s 31, s 32, s 33, s 34, s 35, s 36, s 37, s 38, s 39, s 40] = _
   exact lc (hk 0 (by kernel_rfl)) (lc (hk 1 (by kernel_rfl)) (lc (hk 2 (by kernel_rfl)) (lc (hk 3 (by kernel_rfl)) (lc (hk 4 (by kernel_rfl)) (lc (hk 5 (by kernel_rfl)) (lc (hk 6 (by kernel_rfl)) (lc rfl (lc rfl (lc rfl (lc rfl (lc rfl (lc rfl (lc rfl (lc rfl (lc rfl (lc (hk 16 (by kernel_rfl)) (lc (hk 17 (by kernel_rfl)) (lc (hk 18 (by kernel_rfl)) (lc (hk 19 (by kernel_rfl)) (lc (hk 20 (by kernel_rfl)) (lc (hk 21 (by kernel_rfl)) (lc (hk 22 (by kernel_rfl)) (lc (hk 23 (by kernel_rfl)) (lc (hk 24 (by kernel_rfl)) (lc (hk 25 (by kernel_rfl)) (lc (hk 26 (by kernel_rfl)) (lc (hk 27 (by kernel_rfl)) (lc (hk 28 (by kernel_rfl)) (lc (hk 29 (by kernel_rfl)) (lc (hk 30 (by kernel_rfl)) (lc (hk 31 (by kernel_rfl)) (lc (hk 32 (by kernel_rfl)) (lc (hk 33 (by kernel_rfl)) (lc (hk 34 (by kernel_rfl)) (lc (hk 35 (by kernel_rfl)) (lc (hk 36 (by kernel_rfl)) (lc (hk 37 (by kernel_rfl)) (lc (hk 38 (by kernel_rfl)) (lc (hk 39 (by kernel_rfl)) (lc (hk 40 (by kernel_rfl)) rfl))))))))))))))))))))))))))))))))))))))))
  ·intro c s w2 hc
   exact hc.elim
 rotate_left
 ·rintro _ _ _ h
  exact h.elim
 rintro s2 V ⟨h1, c_a⟩
 simp only [mergeL]
 replace HD := lh ((h1.same _ (lt_of_block HD.out) (notin1 (by have := HLT.out; omega))).trans HD.out)
 replace HR := lh ((h1.same _ (lt_of_block HR.out) (notin1 (by have := HLT.out; omega))).trans HR.out)
 replace HA := lh c_a
 replace HM := lh (HM.out.stepM h1 (by have := HBW.out; have := HLT.out; intro x hx; simp at hx; right; omega))
 clear h1 c_a
 refine HK2.out _ _ ?_
 have HML0 := lh (show ((dModel c ts r).set 0 (4294967296 + (c + 32768) * 65536, 4294967296 + (c + 32768) * 65536)).length = 22 by rw [List.length_set, dModel_len])
 have HTG := lh (show nearFrom 20 1 ((dModel c ts r).set 0 (4294967296 + (c + 32768) * 65536, 4294967296 + (c + 32768) * 65536)) = dNear c ts r from rfl)
 obtain ⟨M0, hM0⟩ : ∃ M0, ((dModel c ts r).set 0 (4294967296 + (c + 32768) * 65536, 4294967296 + (c + 32768) * 65536)) = M0 := ⟨_, rfl⟩
 rw [hM0] at HML0 HTG HA
 clear hM0
 refine wsk fun KL HKL => ?_
 refine wp_cut_mergeP (nn :: nn :: nn :: nn :: some 4 :: n8 (nn :: nn :: nn :: some 16 :: some 17 :: some 18 :: some 19 :: some 20 :: some 21 :: some 22 :: some 23 :: some 24 :: some 25 :: some 26 :: some 27 :: some 28 :: some 29 :: some 30 :: some 31 :: some 32 :: some 33 :: some 34 :: some 35 :: some 36 :: some 37 :: some 38 :: some 39 :: nn :: [])) (fun _ w' => Mut [g0] V w' ∧ w'.heap[g0]? = some (cobj 34 (dNear c ts r))) (fun _ _ => False) ?_ ?_ ?_
 ·intro Q2 hQ2 hP2
  go_wp2_with fail
  go_loopw [4] (fun x wr => ∃ p : Nat, 1 ≤ p ∧ p ≤ 21 ∧ x = .int .i64 p ∧ Hid (∃ M : List (Int × Int), M.length = 22 ∧ Mut [g0] V wr ∧ wr.heap[g0]? = some (cobj 34 M) ∧ nearFrom (21 - p) p M = dNear c ts r)) (fun x _ => 21 - (intOf x).toNat)
  case atStart => exact ⟨1, by omega, by omega, rfl, lh ⟨M0, HML0.out, Mut.refl _ _, HA.out, HTG.out⟩⟩
  case round =>
   obtain ⟨p, hp1, hp, rfl, HG⟩ := hrel
   obtain ⟨M, hml, hmu, hbx, hgo⟩ := HG.out
   have HML := lh hml
   have HGM := lh hmu
   have HGO := lh hgo
   have HM0 := HM
   have HLT0 := HLT
   rcases Nat.lt_or_ge p 21 with hk | hk
   ·have t1 : decide ((p : Int) < 21) = true := by simp; omega
    have HPL := lh hk
    have HP1 := lh hp1
    have hp0 : (0 : Int) ≤ (p : Int) := by omega
    have hp9 : (p : Int) < 21 := by omega
    have hm2 := HM0.out.stepM hmu (by have := HBW.out; have := HLT0.out; intro x hx; simp at hx; right; omega)
    refine wp_world (fun U => Mut [] w U ∧ Mut [g0] V U ∧ U.heap[g0]? = some (cobj 34 M)) ?_ ⟨hm2, hmu, hbx⟩
    clear hm2 hp1 hp HG hml hmu hbx hgo hk HM0 HTG HML0 HD HR HM HA HGM
    rintro V ⟨q1, q2, q3⟩
    have HM := lh q1
    have HGM := lh q2
    have HA := lh q3
    clear q1 q2 q3
    refine wsk fun K1 HK1 => ?_
    go_wp2_with fail
    refine HK1.out _ _ ?_
    refine wsk fun K2 HK2 => ?_
    refine wp_block ?_
    refine wsk fun K6 HK6 => ?_
    refine wp_cut_mergeP (n8 (n8 (nn :: nn :: nn :: nn :: some 20 :: some 21 :: some 22 :: some 23 :: some 24 :: some 25 :: some 26 :: some 27 :: some 28 :: some 29 :: n8 (nn :: nn :: nn :: [])))) (fun _ w' => Mut [g0] V w' ∧ w'.heap[g0]? = some (cobj 34 (nearLo M p))) (fun _ _ => False) ?_ ?_ ?_
    ·intro Q2 hQ2 hP2
     refine wpG ?_
     refine wp_region_G (b := false) (Pn := (fun _ _ => False)) (Dn6 V c r ts ao cap b g0 p M) (by kernel_rfl) (by kernel_rfl) ?_ ?_ ?_ ?_
     ·exact ⟨Mut.start _ false _, fun _ => HA.out, nB, nB, nB, nB, nB, nB, nB, nB, nB, nB, nB, nB⟩
     ·refine AllSP.cons ?_ (AllSP.cons ?_ (AllSP.cons ?_ (AllSP.cons ?_ (AllSP.cons ?_ (AllSP.cons ?_ (AllSP.cons ?_ (AllSP.cons ?_ (AllSP.cons ?_ (AllSP.cons ?_ (AllSP.cons ?_ AllSP.nil))))))))))
      ·intro L s w2 h hk hd hn
       have s4 : s 4 = _ := hk 4 (by kernel_rfl)
       refine sP fun K hK => ?_
       exact rs_move rfl s4 (hK _ _ { h with e0 := fun _ => rfl })
      ·intro L s w2 h hk hd hn
       have s4 : s 4 = _ := hk 4 (by kernel_rfl)
       refine sP fun K hK => ?_
       exact rs_move rfl s4 (hK _ _ { h with e1 := fun _ => rfl })
      ·intro L s w2 h hk hd hn
       have s3 : s 3 = _ := hk 3 (by kernel_rfl)
       refine sP fun K hK => ?_
       exact rs_field rfl s3 (fl_model0 _ _) (hK _ _ { h with e2 := fun _ => rfl })
      ·intro L s w2 h hk hd hn
       have s22 := h.e2 hd.1
       have s21 := h.e1 hd.2.1
       refine sP fun K hK => ?_
       exact rs_index rfl s22 s21 (ix_model _ p HPL.out) (hK _ _ { h with e3 := fun _ => rfl })
      ·intro L s w2 h hk hd hn
       have s23 := h.e3 hd.1
       refine sP fun K hK => ?_
       exact rs_field rfl s23 (fl_span0 _ p _) (hK _ _ { h with e4 := fun _ => rfl })
      ·intro L s w2 h hk hd hn
       have s24 := h.e4 hd.1
       have kb := (h.kt_a ((Bool.eq_false_or_eq_true (L 10)).elim (fun e => absurd (h.b10_5 e) (by rw [hn]; exact bft)) id))
       refine sP fun K hK => ?_
       exact rs_load rfl s24 (ld_span0 (p := p) kb (by have := HML.out; have := HPL.out; omega)) (hK _ _ { h with e5 := fun _ => rfl, b10_5 := fun _ => rfl })
      ·intro L s w2 h hk hd hn
       have s25 := h.e5 hd.1
       refine sP fun K hK => ?_
       go_simp
       exact hK _ _ { h with e6 := fun _ => rfl }
      ·intro L s w2 h hk hd hn
       have s3 : s 3 = _ := hk 3 (by kernel_rfl)
       refine sP fun K hK => ?_
       exact rs_field rfl s3 (fl_model0 _ _) (hK _ _ { h with e7 := fun _ => rfl })
      ·intro L s w2 h hk hd hn
       have s27 := h.e7 hd.1
       have s20 := h.e0 hd.2.1
       refine sP fun K hK => ?_
       exact rs_index rfl s27 s20 (ix_model _ p HPL.out) (hK _ _ { h with e8 := fun _ => rfl })
      ·intro L s w2 h hk hd hn
       have s28 := h.e8 hd.1
       refine sP fun K hK => ?_
       exact rs_field rfl s28 (fl_span0 _ p _) (hK _ _ { h with e9 := fun _ => rfl })
      ·intro L s w2 h hk hd hn
       have s29 := h.e9 hd.1
       have s26 := h.e6 hd.2.1
       have kb := h.kt_a hn
       refine sP fun K hK => ?_
       exact rs_store rfl s29 s26 (st_span0 (p := p) kb (by have := HML.out; have := HPL.out; omega) (IntKind.i64.wrap ((tAt M p).1.tdiv 8))) (hK _ _ { h with mu := h.mu.put (List.Mem.head _) _, kt_a := fun a => absurd a.symm bft, kr_a := fun _ => World.putObj_heap_same (Array.getElem?_eq_some_iff.1 kb).1, b10_5 := fun _ => hd.2.2.2.2.2.2.2.1 })
     ·intro L s w2 h hk hl
      refine cA ?_ (hQ2 s w2 (⟨h.mu, h.kr_a (hl 10 (by decide))⟩))
      refine congrArg (fun l => (⟨List.toArray l, []⟩ : Act)) ?_
      show [s 0, s 1, s 2, s 3, s 4, s 5, s 6, s 7, s 8, s 9, s 10, s 11, s 12, s 13, s 14, s 15, s 16, s 17, s 18, s 19, s 20, s 21, s 22, s 23, s 24, s 25, s 26, s 27, s 28, s 29, s 30, s 31, s 32, s 33, s 34, s 35, s 36, s 37, s 38, s 39, s 40] = _
      exact lc (hk 0 (by kernel_rfl)) (lc (hk 1 (by kernel_rfl)) (lc (hk 2 (by kernel_rfl)) (lc (hk 3 (by kernel_rfl)) (lc (hk 4 (by kernel_rfl)) (lc (hk 5 (by kernel_rfl)) (lc (hk 6 (by kernel_rfl)) (lc (hk 7 (by kernel_rfl)) (lc (hk 8 (by kernel_rfl)) (lc (hk 9 (by kernel_rfl)) (lc (hk 10 (by kernel_rfl)) (lc (hk 11 (by kernel_rfl)) (lc (hk 12 (by kernel_rfl)) (lc (hk 13 (by kernel_rfl)) (lc (hk 14 (by kernel_rfl)) (lc (hk 15 (by kernel_rfl)) (lc (hk 16 (by kernel_rfl)) (lc (hk 17 (by kernel_rfl)) (lc (hk 18 (by kernel_rfl)) (lc (hk 19 (by kernel_rfl)) (lc rfl (lc rfl (lc rfl (lc rfl (lc rfl (lc rfl (lc rfl (lc rfl (lc rfl (lc rfl (lc (hk 30 (by kernel_rfl)) (lc (hk 31 (by kernel_rfl)) (lc (hk 32 (by kernel_rfl)) (lc (hk 33 (by kernel_rfl)) (lc (hk 34 (by kernel_rfl)) (lc (hk 35 (by kernel_rfl)) (lc (hk 36 (by kernel_rfl)) (lc (hk 37 (by kernel_rfl)) (lc (hk 38 (by kernel_rfl)) (lc (hk 39 (by kernel_rfl)) (lc (hk 40 (by kernel_rfl)) rfl))))))))))))))))))))))))))))))))))))))))
     ·intro c s w2 hc
      exact hc.elim
    rotate_left
    ·rintro _ _ _ h
     exact h.elim
    rintro s6 V ⟨h1, c_a⟩
    simp only [mergeL]
    replace HA := lh c_a
    replace HM := lh (HM.out.stepM h1 (by have := HBW.out; have := HLT.out; intro x hx; simp at hx; right; omega))
    have HF6 := lh (HGM.out.trans h1)
    clear h1 c_a
    refine HK6.out _ _ ?_
    replace HML := lh (show (nearLo M p).length = 22 by unfold nearLo; rw [List.length_set]; exact HML.out)
    obtain ⟨M1, hM1⟩ : ∃ M1, nearLo M p = M1 := ⟨_, rfl⟩
    rw [hM1] at HA HML
    have HM1 := lh hM1
    clear hM1
    refine wp_cut_mergeP (n8 (n8 (n8 (nn :: nn :: nn :: nn :: nn :: nn :: some 30 :: some 31 :: some 32 :: some 33 :: some 34 :: some 35 :: some 36 :: some 37 :: some 38 :: some 39 :: nn :: [])))) (fun _ w' => Mut [g0] V w' ∧ w'.heap[g0]? = some (cobj 34 (nearHi M1 p))) (fun _ _ => False) ?_ ?_ ?_
    ·intro Q2 hQ2 hP2
     refine wpG ?_
     refine wp_region_G (b := false) (Pn := (fun _ _ => False)) (Dn7 V c r ts ao cap b g0 p M M1) (by kernel_rfl) (by kernel_rfl) ?_ ?_ ?_ ?_
     ·exact ⟨Mut.start _ false _, fun _ => HA.out, nB, nB, nB, nB, nB, nB, nB, nB, nB, nB, nB, nB⟩
     ·refine AllSP.cons ?_ (AllSP.cons ?_ (AllSP.cons ?_ (AllSP.cons ?_ (AllSP.cons ?_ (AllSP.cons ?_ (AllSP.cons ?_ (AllSP.cons ?_ (AllSP.cons ?_ (AllSP.cons ?_ (AllSP.cons ?_ AllSP.nil))))))))))
      ·intro L s w2 h hk hd hn
       have s4 : s 4 = _ := hk 4 (by kernel_rfl)
       refine sP fun K hK => ?_
       exact rs_move rfl s4 (hK _ _ { h with e0 := fun _ => rfl })
      ·intro L s w2 h hk hd hn
       have s4 : s 4 = _ := hk 4 (by kernel_rfl)
       refine sP fun K hK => ?_
       exact rs_move rfl s4 (hK _ _ { h with e1 := fun _ => rfl })
      ·intro L s w2 h hk hd hn
       have s3 : s 3 = _ := hk 3 (by kernel_rfl)
       refine sP fun K hK => ?_
       exact rs_field rfl s3 (fl_model0 _ _) (hK _ _ { h with e2 := fun _ => rfl })
      ·intro L s w2 h hk hd hn
       have s32 := h.e2 hd.1
       have s31 := h.e1 hd.2.1
       refine sP fun K hK => ?_
       exact rs_index rfl s32 s31 (ix_model _ p HPL.out) (hK _ _ { h with e3 := fun _ => rfl })
      ·intro L s w2 h hk hd hn
       have s33 := h.e3 hd.1
       refine sP fun K hK => ?_
       exact rs_field rfl s33 (fl_span1 _ p _) (hK _ _ { h with e4 := fun _ => rfl })
      ·intro L s w2 h hk hd hn
       have s34 := h.e4 hd.1
       have kb := (h.kt_a ((Bool.eq_false_or_eq_true (L 10)).elim (fun e => absurd (h.b10_5 e) (by rw [hn]; exact bft)) id))
       refine sP fun K hK => ?_
       exact rs_load rfl s34 (ld_span1 (p := p) kb (by have := HML.out; have := HPL.out; omega)) (hK _ _ { h with e5 := fun _ => rfl, b10_5 := fun _ => rfl })
      ·intro L s w2 h hk hd hn
       have s35 := h.e5 hd.1
       refine sP fun K hK => ?_
       go_simp
       exact hK _ _ { h with e6 := fun _ => rfl }
      ·intro L s w2 h hk hd hn
       have s3 : s 3 = _ := hk 3 (by kernel_rfl)
       refine sP fun K hK => ?_
       exact rs_field rfl s3 (fl_model0 _ _) (hK _ _ { h with e7 := fun _ => rfl })
      ·intro L s w2 h hk hd hn
       have s37 := h.e7 hd.1
       have s30 := h.e0 hd.2.1
       refine sP fun K hK => ?_
       exact rs_index rfl s37 s30 (ix_model _ p HPL.out) (hK _ _ { h with e8 := fun _ => rfl })
      ·intro L s w2 h hk hd hn
       have s38 := h.e8 hd.1
       refine sP fun K hK => ?_
       exact rs_field rfl s38 (fl_span1 _ p _) (hK _ _ { h with e9 := fun _ => rfl })
      ·intro L s w2 h hk hd hn
       have s39 := h.e9 hd.1
       have s36 := h.e6 hd.2.1
       have kb := h.kt_a hn
       refine sP fun K hK => ?_
       exact rs_store rfl s39 s36 (st_span1 (p := p) kb (by have := HML.out; have := HPL.out; omega) (IntKind.i64.wrap ((tAt M1 p).2.tdiv 8))) (hK _ _ { h with mu := h.mu.put (List.Mem.head _) _, kt_a := fun a => absurd a.symm bft, kr_a := fun _ => World.putObj_heap_same (Array.getElem?_eq_some_iff.1 kb).1, b10_5 := fun _ => hd.2.2.2.2.2.2.2.1 })
     ·intro L s w2 h hk hl
      refine cA ?_ (hQ2 s w2 (⟨h.mu, h.kr_a (hl 10 (by decide))⟩))
      refine congrArg (fun l => (⟨List.toArray l, []⟩ : Act)) ?_
      show [s 0, s 1, s 2, s 3, s 4, s 5, s 6, s 7, s 8, s 9, s 10, s 11, s 12, s 13, s 14, s 15, s 16, s 17, s 18, s 19, s 20, s 21, s 22, s 23, s 24, s 25, s 26, s 27, s 28, s 29, s 30, s 31, s 32, s 33, s 34, s 35, s 36, s 37, s 38, s 39, s 40] = _
      exact lc (hk 0 (by kernel_rfl)) (lc (hk 1 (by kernel_rfl)) (lc (hk 2 (by kernel_rfl)) (lc (hk 3 (by kernel_rfl)) (lc (hk 4 (by kernel_rfl)) (lc (hk 5 (by kernel_rfl)) (lc (hk 6 (by kernel_rfl)) (lc (hk 7 (by kernel_rfl)) (lc (hk 8 (by kernel_rfl)) (lc (hk 9 (by kernel_rfl)) (lc (hk 10 (by kernel_rfl)) (lc (hk 11 (by kernel_rfl)) (lc (hk 12 (by kernel_rfl)) (lc (hk 13 (by kernel_rfl)) (lc (hk 14 (by kernel_rfl)) (lc (hk 15 (by kernel_rfl)) (lc (hk 16 (by kernel_rfl)) (lc (hk 17 (by kernel_rfl)) (lc (hk 18 (by kernel_rfl)) (lc (hk 19 (by kernel_rfl)) (lc (hk 20 (by kernel_rfl)) (lc (hk 21 (by kernel_rfl)) (lc (hk 22 (by kernel_rfl)) (lc (hk 23 (by kernel_rfl)) (lc (hk 24 (by kernel_rfl)) (lc (hk 25 (by kernel_rfl)) (lc (hk 26 (by kernel_rfl)) (lc (hk 27 (by kernel_rfl)) (lc (hk 28 (by kernel_rfl)) (lc (hk 29 (by kernel_rfl)) (lc rfl (lc rfl (lc rfl (lc rfl (lc rfl (lc rfl (lc rfl (lc rfl (lc rfl (lc rfl (lc (hk 40 (by kernel_rfl)) rfl))))))))))))))))))))))))))))))))))))))))
     ·intro c s w2 hc
      exact hc.elim
    rotate_left
    ·rintro _ _ _ h
     exact h.elim
    rintro s7 V ⟨h1, c_a⟩
    simp only [mergeL]
    replace HA := lh c_a
    replace HM := lh (HM.out.stepM h1 (by have := HBW.out; have := HLT.out; intro x hx; simp at hx; right; omega))
    have HF7 := lh (HF6.out.trans h1)
    clear h1 c_a
    refine HK2.out _ _ ?_
    have HF2 := lh (show nearFrom (21 - (p + 1)) (p + 1) (nearHi M1 p) = dNear c ts r by
     rw [← HGO.out, show 21 - p = (21 - (p + 1)) + 1 by have := HPL.out; omega, nearFrom, HM1.out])
    have HF3 := lh (show (nearHi M1 p).length = 22 by unfold nearHi; rw [List.length_set]; exact HML.out)
    go_wp2_with fail
    go_roundw
    case rel => first | exact ⟨p + 1, by have := HPL.out; omega, by have := HPL.out; omega, by go_num, lh ⟨_, HF3.out, HF7.out, HA.out, HF2.out⟩⟩ | ((repeat apply Exists.intro); exact ⟨⟨p + 1, by have := HPL.out; omega, by have := HPL.out; omega, by go_num, lh ⟨_, HF3.out, HF7.out, HA.out, HF2.out⟩⟩, rfl⟩)
    case measure => simp [intOf]; have := HPL.out; omega
   ·obtain rfl : p = 21 := by omega
    have HE : nearFrom (21 - 21) 21 M = M := rfl
    rw [HE] at hgo
    rw [hgo] at hbx
    go_wp2_with fail
    exact merge_meet hQ2 (by kernel_rfl) ⟨hmu, hbx⟩
 rotate_left
 ·rintro _ _ _ h
  exact h.elim
 rintro sL V ⟨h1, h2⟩
 simp only [mergeL]
 replace HM := lh (HM.out.stepM h1 (by have := HBW.out; have := HLT.out; intro x hx; simp at hx; right; omega))
 replace HD := lh ((h1.same _ (lt_of_block HD.out) (notin1 (by have := HLT.out; omega))).trans HD.out)
 replace HR := lh ((h1.same _ (lt_of_block HR.out) (notin1 (by have := HLT.out; omega))).trans HR.out)
 replace HA := lh h2
 clear h1 h2
 refine HKL.out _ _ ?_
 refine wsk fun K8 HK8 => ?_
 refine wp_cut_mergeP (n8 (n8 (n8 (n8 (n8 (some 40 :: [])))))) (fun _ w' => Mut [b + 1] V w' ∧ w'.heap[b + 1]? = some (cobj 34 (dNear c ts r))) (fun _ _ => False) ?_ ?_ ?_
 ·intro Q2 hQ2 hP2
  refine wpG ?_
  refine wp_region_G (b := false) (Pn := (fun _ _ => False)) (Dn8 V c r ts ao cap b g0) (by kernel_rfl) (by kernel_rfl) ?_ ?_ ?_ ?_
  ·exact ⟨Mut.start _ false _, fun _ => HR.out, nB, nB⟩
  ·refine AllSP.cons ?_ (AllSP.cons ?_ AllSP.nil)
   ·intro L s w2 h hk hd hn
    have s3 : s 3 = _ := hk 3 (by kernel_rfl)
    have kb := ((h.mu.same _ ((Array.getElem?_eq_some_iff.1 HA.out).1) (notin1 (by have := HLT.out; omega))).trans HA.out)
    refine sP fun K hK => ?_
    exact rs_load rfl s3 (md_load kb (dNear_len _ _ _)) (hK _ _ { h with e0 := fun _ => rfl })
   ·intro L s w2 h hk hd hn
    have s2 : s 2 = _ := hk 2 (by kernel_rfl)
    have s40 := h.e0 hd.1
    have kb := h.kt_r hn
    refine sP fun K hK => ?_
    exact rs_store rfl s2 s40 (md_store kb rfl _ (dNear_len _ _ _)) (hK _ _ { h with mu := h.mu.put (List.Mem.head _) _, kt_r := fun a => absurd a.symm bft, kr_r := fun _ => World.putObj_heap_same (Array.getElem?_eq_some_iff.1 kb).1 })
  ·intro L s w2 h hk hl
   refine cA ?_ (hQ2 s w2 (⟨h.mu, h.kr_r (hl 1 (by decide))⟩))
   refine congrArg (fun l => (⟨List.toArray l, []⟩ : Act)) ?_
   show [s 0, s 1, s 2, s 3, s 4, s 5, s 6, s 7, s 8, s 9, s 10, s 11, s 12, s 13, s 14, s 15, s 16, s 17, s 18, s 19, s 20, s 21, s 22, s 23, s 24, s 25, s 26, s 27, s 28, s 29, s 30, s 31, s 32, s 33, s 34, s 35, s 36, s 37, s 38, s 39, s 40] = _
   exact lc (hk 0 (by kernel_rfl)) (lc (hk 1 (by kernel_rfl)) (lc (hk 2 (by kernel_rfl)) (lc (hk 3 (by kernel_rfl)) (lc (hk 4 (by kernel_rfl)) (lc (hk 5 (by kernel_rfl)) (lc (hk 6 (by kernel_rfl)) (lc (hk 7 (by kernel_rfl)) (lc (hk 8 (by kernel_rfl)) (lc (hk 9 (by kernel_rfl)) (lc (hk 10 (by kernel_rfl)) (lc (hk 11 (by kernel_rfl)) (lc (hk 12 (by kernel_rfl)) (lc (hk 13 (by kernel_rfl)) (lc (hk 14 (by kernel_rfl)) (lc (hk 15 (by kernel_rfl)) (lc (hk 16 (by kernel_rfl)) (lc (hk 17 (by kernel_rfl)) (lc (hk 18 (by kernel_rfl)) (lc (hk 19 (by kernel_rfl)) (lc (hk 20 (by kernel_rfl)) (lc (hk 21 (by kernel_rfl)) (lc (hk 22 (by kernel_rfl)) (lc (hk 23 (by kernel_rfl)) (lc (hk 24 (by kernel_rfl)) (lc (hk 25 (by kernel_rfl)) (lc (hk 26 (by kernel_rfl)) (lc (hk 27 (by kernel_rfl)) (lc (hk 28 (by kernel_rfl)) (lc (hk 29 (by kernel_rfl)) (lc (hk 30 (by kernel_rfl)) (lc (hk 31 (by kernel_rfl)) (lc (hk 32 (by kernel_rfl)) (lc (hk 33 (by kernel_rfl)) (lc (hk 34 (by kernel_rfl)) (lc (hk 35 (by kernel_rfl)) (lc (hk 36 (by kernel_rfl)) (lc (hk 37 (by kernel_rfl)) (lc (hk 38 (by kernel_rfl)) (lc (hk 39 (by kernel_rfl)) (lc rfl rfl))))))))))))))))))))))))))))))))))))))))
  ·intro c s w2 hc
   exact hc.elim
 rotate_left
 ·rintro _ _ _ h
  exact h.elim
 rintro s8 V ⟨h1, c_r⟩
 simp only [mergeL]
 replace HD := lh ((h1.same _ (lt_of_block HD.out) (notin1 (by have := HLT.out; omega))).trans HD.out)
 replace HR := lh c_r
 replace HA := lh ((h1.same _ (lt_of_block HA.out) (notin1 (by have := HLT.out; omega))).trans HA.out)
 replace HM := lh (HM.out.stepM h1 (by have := HBW.out; have := HLT.out; intro x hx; simp at hx; right; omega))
 clear h1 c_r
 refine HK8.out _ _ ?_
 refine wp_ret ?_
 exact bodyPost_ret (v := mval (dNear c ts r)) (res_model Tryz.results14 rfl (md_loadVar HR.out (dNear_len _ _ _))) rfl ⟨rfl, by rw [← HBW.out]; exact HM.out.to0⟩
end Go.Proofs.YthhkcfpljgdnhaaGreat
