/- Law 21's helpers: point, line, same. Printed by wip/genLY.py. -/
import Derived.Test.YthhkcfpljgdnhaaGreatTayY
import Derived.Test.YthhkcfpljgdnhaaGreatTayEq
import Derived.Test.YthhkcfpljgdnhaaGreatTayU
import Derived.Test.YthhkcfpljgdnhaaGreatTayP
namespace Go.Proofs.YthhkcfpljgdnhaaGreat
open Go.RowKit Mnc
attribute [local go_sem] RunSP_value RunSP_skip RunSP_enter evS_tmp evS_const evS_global evS_func
theorem law21_pt (n : Int) (w : World) :
  Calls Tryz.prog 23 #[.int .i64 n] w fun e w' => e = .returned (sval (n, n)) ∧ Below w.heap.size w w' := by
 go_enter Tryz.func23, Tryz.ntmps23
 go_wp2
 exact bodyPost_ret (v := sval (n, n)) (by simp [results, Tryz.results23, go_sem, sval]) rfl ⟨rfl, below_alloc (Below.refl _ _) _⟩
theorem tLine_len (t : Int) : (tLine t).length = 22 := by simp [tLine, zeroM]
theorem wr_mul16 {t : Int} (h : -16 ≤ t ∧ t ≤ 16) : IntKind.i64.wrap (t * 4294967296) = t * 4294967296 := by
 simp [IntKind.wrap, IntKind.bits, IntKind.signed]
 omega
theorem quo16 (t : Int) : (t * 4294967296).tdiv 16 = t * 268435456 := by
 rw [show t * 4294967296 = (t * 268435456) * 16 by omega, Int.mul_tdiv_cancel _ (by decide)]
theorem wr_quo16 {t : Int} (h : -16 ≤ t ∧ t ≤ 16) : IntKind.i64.wrap (t * 268435456) = t * 268435456 := by
 simp [IntKind.wrap, IntKind.bits, IntKind.signed]
 omega
structure Ln2 (V : World) (t : Int) (b : Nat) (g0 : Nat) (L : Nat → Bool) (s : Nat → Value) (w : World) : Prop where
 mu : Mut [g0] V w
 kt_a : L 7 = false → w.heap[g0]? = some (cobj 34 zeroM)
 km_a : L 7 = true → L 10 = false → w.heap[g0]? = some (cobj 34 (zeroM.set 0 (4294967296, 4294967296)))
 kr_a : L 10 = true → w.heap[g0]? = some (cobj 34 (tLine t))
 e0 : L 0 = true → s 4 = sval (4294967296, 4294967296)
 e1 : L 1 = true → s 5 = .int .i64 t
 e2 : L 2 = true → s 6 = .int .i64 (t * 4294967296)
 e3 : L 3 = true → s 7 = .int .i64 (t * 268435456)
 e4 : L 4 = true → s 8 = sval (t * 268435456, t * 268435456)
 e5 : L 5 = true → s 9 = .pointer (some ⟨g0, 0, none⟩)
 e6 : L 6 = true → s 10 = .pointer (some ⟨g0, 0 * 2, none⟩)
 e8 : L 8 = true → s 11 = .pointer (some ⟨g0, 0, none⟩)
 e9 : L 9 = true → s 12 = .pointer (some ⟨g0, 2 * 2, none⟩)
 b10_7 : L 10 = true → L 7 = true
structure Ln3 (V : World) (t : Int) (b : Nat) (g0 : Nat) (L : Nat → Bool) (s : Nat → Value) (w : World) : Prop where
 mu : Mut [b] V w
 kt_r : L 1 = false → w.heap[b]? = some (cobj 34 zeroM)
 kr_r : L 1 = true → w.heap[b]? = some (cobj 34 (tLine t))
 e0 : L 0 = true → s 13 = mval (tLine t)
set_option maxRecDepth 100000 in
set_option maxHeartbeats 4000000 in
theorem law21_line (t : Int) (ht : -16 ≤ t ∧ t ≤ 16) (w : World) : Calls Tryz.prog 24 #[.int .i64 t] w fun e w' => e = .returned (mval (tLine t)) ∧ Below w.heap.size w w' := by
 have HT := lh ht
 clear ht
 go_enter Tryz.func24, Tryz.ntmps24
 refine wsk fun K0 HK0 => ?_
 go_wp2_with fail
 obtain ⟨b, hb⟩ : ∃ b, w.heap.size = b := ⟨_, rfl⟩
 refine HK0.out _ _ ?_
 refine wp_world (fun V => Mut [] w V ∧ V.heap[b]? = some (cobj 34 zeroM)) ?_
  (by
   rw [← hb]
   exact ⟨((Mut.refl _ _).alloc _), heap_at (cobj 34 zeroM) (by simp)⟩)
 rintro V ⟨hm, hHR⟩
 rw [hb]
 have HM := lh hm
 have HBW := lh hb
 have HLT := lh trivial
 have HR := lh hHR
 clear hm hHR hb HK0
 refine wsk fun K1 HK1 => ?_
 go_wp2_with fail
 refine HK1.out _ _ ?_
 obtain ⟨g0, hg⟩ : ∃ g, V.heap.size = g := ⟨_, rfl⟩
 refine wp_world (fun V2 => Mut [] w V2 ∧ b ≤ g0 ∧ V2.heap[b]? = some (cobj 34 zeroM) ∧ V2.heap[g0]? = some (cobj 34 zeroM)) ?_
  (by
   rw [← hg]
   exact ⟨HM.out.alloc _, by have := HM.out.size; have := HBW.out; omega, heap_up _ HR.out, heap_at (cobj 34 zeroM) (by simp)⟩)
 replace HLT := lh (show b ≤ g0 ∧ b < g0 from by
  have hlt := HLT.out
  have hbw := HM.out.size
  have hbw2 := HBW.out
  have := lt_of_block HR.out
  omega)
 rintro V2 ⟨hm, -, qHR, hnew⟩
 rw [hg]
 replace HM := lh hm
 replace HR := lh qHR
 have HA := lh hnew
 clear hm hnew hg qHR HK1
 clear V
 rename World => V
 refine wsk fun K2 HK2 => ?_
 refine wp_cut_mergeP (nn :: nn :: nn :: nn :: some 4 :: some 5 :: some 6 :: some 7 :: some 8 :: some 9 :: some 10 :: some 11 :: some 12 :: nn :: []) (fun _ w' => Mut [g0] V w' ∧ w'.heap[g0]? = some (cobj 34 (tLine t))) (fun _ _ => False) ?_ ?_ ?_
 ·intro Q2 hQ2 hP2
  refine wpG ?_
  refine wp_region_G (b := false) (Pn := (fun _ _ => False)) (Ln2 V t b g0) (by kernel_rfl) (by kernel_rfl) ?_ ?_ ?_ ?_
  ·exact ⟨Mut.start _ false _, fun _ => HA.out, nB, nB, nB, nB, nB, nB, nB, nB, nB, nB, nB, nB⟩
  ·refine AllSP.cons ?_ (AllSP.cons ?_ (AllSP.cons ?_ (AllSP.cons ?_ (AllSP.cons ?_ (AllSP.cons ?_ (AllSP.cons ?_ (AllSP.cons ?_ (AllSP.cons ?_ (AllSP.cons ?_ (AllSP.cons ?_ AllSP.nil))))))))))
   ·intro L s w2 h hk hd hn
    refine sP fun K hK => ?_
    go_simp
    refine (law21_pt 4294967296 _).mono ?_
    rintro e w3 ⟨rfl, hb⟩
    exact .inl ⟨_, rfl, hK _ _ { h with mu := h.mu.step hb, kt_a := fun a => bk hb (h.kt_a a), km_a := fun a c => bk hb (h.km_a a c), kr_a := fun a => bk hb (h.kr_a a), e0 := fun _ => rfl }⟩
   ·intro L s w2 h hk hd hn
    have s0 : s 0 = _ := hk 0 (by kernel_rfl)
    refine sP fun K hK => ?_
    exact rs_move rfl s0 (hK _ _ { h with e1 := fun _ => rfl })
   ·intro L s w2 h hk hd hn
    have s5 := h.e1 hd.1
    refine sP fun K hK => ?_
    go_simp
    exact hK _ _ { h with e2 := fun _ => congrArg (Value.int .i64) (wr_mul16 HT.out) }
   ·intro L s w2 h hk hd hn
    have s6 := h.e2 hd.1
    have e1 := quo16 t
    have e2 := wr_quo16 HT.out
    refine sP fun K hK => ?_
    go_simp
    exact hK _ _ { h with e3 := fun _ => rfl }
   ·intro L s w2 h hk hd hn
    have s7 := h.e3 hd.1
    refine sP fun K hK => ?_
    go_simp
    refine (law21_pt (t * 268435456) _).mono ?_
    rintro e w3 ⟨rfl, hb⟩
    exact .inl ⟨_, rfl, hK _ _ { h with mu := h.mu.step hb, kt_a := fun a => bk hb (h.kt_a a), km_a := fun a c => bk hb (h.km_a a c), kr_a := fun a => bk hb (h.kr_a a), e4 := fun _ => rfl }⟩
   ·intro L s w2 h hk hd hn
    have s3 : s 3 = _ := hk 3 (by kernel_rfl)
    refine sP fun K hK => ?_
    exact rs_field rfl s3 (fl_model0 _ _) (hK _ _ { h with e5 := fun _ => rfl })
   ·intro L s w2 h hk hd hn
    have s9 := h.e5 hd.1
    refine sP fun K hK => ?_
    exact rs_index rfl s9 rfl (ix_model _ 0 (by omega)) (hK _ _ { h with e6 := fun _ => rfl })
   ·intro L s w2 h hk hd hn
    have s10 := h.e6 hd.1
    have s4 := h.e0 hd.2.1
    have kb := h.kt_a hn
    refine sP fun K hK => ?_
    exact rs_store rfl s10 s4 (sp_store (p := 0) kb (by decide) (4294967296, 4294967296)) (hK _ _ { h with mu := h.mu.put (List.Mem.head _) _, kt_a := nF, km_a := fun _ _ => pH kb, kr_a := fun a => absurd (h.b10_7 a) (by rw [hn]; exact bft), b10_7 := fun _ => rfl })
   ·intro L s w2 h hk hd hn
    have s3 : s 3 = _ := hk 3 (by kernel_rfl)
    refine sP fun K hK => ?_
    exact rs_field rfl s3 (fl_model0 _ _) (hK _ _ { h with e8 := fun _ => rfl })
   ·intro L s w2 h hk hd hn
    have s11 := h.e8 hd.1
    refine sP fun K hK => ?_
    exact rs_index rfl s11 rfl (ix_model _ 2 (by omega)) (hK _ _ { h with e9 := fun _ => rfl })
   ·intro L s w2 h hk hd hn
    have s12 := h.e9 hd.1
    have s8 := h.e4 hd.2.1
    have kb := h.km_a hd.2.2.1 hn
    refine sP fun K hK => ?_
    exact rs_store rfl s12 s8 (sp_store (p := 2) kb (by decide) (t * 268435456, t * 268435456)) (hK _ _ { h with mu := h.mu.put (List.Mem.head _) _, kt_a := fun a => absurd (a.symm.trans (hd.2.2.1)) bft, km_a := fun _ a => absurd a.symm bft, kr_a := fun _ => pH kb, b10_7 := fun _ => hd.2.2.1 })
  ·intro L s w2 h hk hl
   refine cA ?_ (hQ2 s w2 (⟨h.mu, h.kr_a (hl 10 (by decide))⟩))
   exact frame_eq hk (by kernel_rfl) (by kernel_rfl)
  ·intro c s w2 hc
   exact hc.elim
 rotate_left
 ·rintro _ _ _ h
  exact h.elim
 rintro s2 V ⟨h1, c_a⟩
 simp only [mergeL]
 replace HR := lh ((h1.same _ (lt_of_block HR.out) (notin1 (by have := HLT.out; omega))).trans HR.out)
 replace HA := lh c_a
 replace HM := lh (HM.out.stepM h1 (by have := HBW.out; have := HLT.out; intro x hx; simp at hx; right; omega))
 clear h1 c_a
 refine HK2.out _ _ ?_
 refine wsk fun K3 HK3 => ?_
 refine wp_cut_mergeP (n8 (nn :: nn :: nn :: nn :: nn :: some 13 :: [])) (fun _ w' => Mut [b] V w' ∧ w'.heap[b]? = some (cobj 34 (tLine t))) (fun _ _ => False) ?_ ?_ ?_
 ·intro Q2 hQ2 hP2
  refine wpG ?_
  refine wp_region_G (b := false) (Pn := (fun _ _ => False)) (Ln3 V t b g0) (by kernel_rfl) (by kernel_rfl) ?_ ?_ ?_ ?_
  ·exact ⟨Mut.start _ false _, fun _ => HR.out, nB, nB⟩
  ·refine AllSP.cons ?_ (AllSP.cons ?_ AllSP.nil)
   ·intro L s w2 h hk hd hn
    have s3 : s 3 = _ := hk 3 (by kernel_rfl)
    have kb := ((h.mu.same _ ((Array.getElem?_eq_some_iff.1 HA.out).1) (notin1 (by have := HLT.out; omega))).trans HA.out)
    refine sP fun K hK => ?_
    exact rs_load rfl s3 (md_load kb (tLine_len t)) (hK _ _ { h with e0 := fun _ => rfl })
   ·intro L s w2 h hk hd hn
    have s2 : s 2 = _ := hk 2 (by kernel_rfl)
    have s13 := h.e0 hd.1
    have kb := h.kt_r hn
    refine sP fun K hK => ?_
    exact rs_store rfl s2 s13 (md_store kb rfl _ (tLine_len t)) (hK _ _ { h with mu := h.mu.put (List.Mem.head _) _, kt_r := nF, kr_r := fun _ => pH kb })
  ·intro L s w2 h hk hl
   refine cA ?_ (hQ2 s w2 (⟨h.mu, h.kr_r (hl 1 (by decide))⟩))
   exact frame_eq hk (by kernel_rfl) (by kernel_rfl)
  ·intro c s w2 hc
   exact hc.elim
 rotate_left
 ·rintro _ _ _ h
  exact h.elim
 rintro s3 V ⟨h1, c_r⟩
 simp only [mergeL]
 replace HR := lh c_r
 replace HA := lh ((h1.same _ (lt_of_block HA.out) (notin1 (by have := HLT.out; omega))).trans HA.out)
 replace HM := lh (HM.out.stepM h1 (by have := HBW.out; have := HLT.out; intro x hx; simp at hx; right; omega))
 clear h1 c_r
 refine HK3.out _ _ ?_
 refine wp_ret ?_
 exact bodyPost_ret (v := mval (tLine t)) (res_model Tryz.results24 rfl (md_loadVar HR.out (tLine_len t))) rfl ⟨rfl, by rw [← HBW.out]; exact HM.out.to0⟩
structure Sa1 (V : World) (a : List (Int × Int)) (n : Int) (b : Nat) (L : Nat → Bool) (s : Nat → Value) (w : World) : Prop where
 mu : Mut [] V w
 e0 : L 0 = true → s 9 = mval a
 e1 : L 1 = true → s 10 = mval a
 e2 : L 2 = true → s 11 = .bool true
 e3 : L 3 = true → s 12 = .bool true
 e4 : L 4 = true → s 13 = .int .i64 n
 e5 : L 5 = true → s 14 = .int .i64 n
 e6 : L 6 = true → s 15 = .bool true
 e7 : L 7 = true → s 16 = .bool true
 e8 : L 8 = true → s 8 = .bool true
set_option maxRecDepth 100000 in
set_option maxHeartbeats 4000000 in
theorem law21_same (a : List (Int × Int)) (n : Int) (ha : a.length = 22) (w : World) : Calls Tryz.prog 12 #[mval a, .int .i64 n, mval a, .int .i64 n] w fun e w' => e = .returned (.bool true) ∧ Below w.heap.size w w' := by
 have HL := lh ha
 clear ha
 go_enter Tryz.func12, Tryz.ntmps12
 refine wsk fun K0 HK0 => ?_
 go_wp2_with fail
 rename_i x1 cs1 hc1
 obtain rfl : (mc a).toArray = cs1 := Value.agg.inj hc1
 clear hc1
 obtain ⟨b, hb⟩ : ∃ b, w.heap.size = b := ⟨_, rfl⟩
 refine HK0.out _ _ ?_
 refine wp_world (fun V => Mut [] w V ∧ V.heap[b]? = some (cobj 34 a) ∧ V.heap[b + 1]? = some (cobj 34 a)) ?_
  (by
   rw [← hb]
   exact ⟨(((Mut.refl _ _).alloc _).alloc _), heap_up _ (heap_at (cobj 34 a) (by simp)), heap_at (cobj 34 a) (by simp)⟩)
 rintro V ⟨hm, hHA, hHD⟩
 rw [hb]
 have HM := lh hm
 have HBW := lh hb
 have HLT := lh trivial
 have HA := lh hHA
 have HD := lh hHD
 clear hm hHA hHD hb HK0
 refine wsk fun K1 HK1 => ?_
 refine wp_cut_mergeP (n8 (some 8 :: some 9 :: some 10 :: some 11 :: some 12 :: some 13 :: some 14 :: some 15 :: some 16 :: [])) (fun s w' => Mut [] V w' ∧ s 8 = .bool true) (fun _ _ => False) ?_ ?_ ?_
 ·intro Q2 hQ2 hP2
  refine wpG ?_
  refine wp_region_G (b := false) (Pn := (fun _ _ => False)) (Sa1 V a n b) (by kernel_rfl) (by kernel_rfl) ?_ ?_ ?_ ?_
  ·exact ⟨Mut.start _ false _, nB, nB, nB, nB, nB, nB, nB, nB, nB⟩
  ·refine AllSP.cons ?_ (AllSP.cons ?_ (AllSP.cons ?_ (AllSP.cons ?_ (AllSP.cons ?_ (AllSP.cons ?_ (AllSP.cons ?_ (AllSP.cons ?_ (AllSP.cons ?_ AllSP.nil))))))))
   ·intro L s w2 h hk hd hn
    have s4 : s 4 = _ := hk 4 (by kernel_rfl)
    have kb := ((h.mu.same _ ((Array.getElem?_eq_some_iff.1 HA.out).1) (by simp)).trans HA.out)
    refine sP fun K hK => ?_
    exact rs_load rfl s4 (md_load kb HL.out) (hK _ _ { h with e0 := fun _ => rfl })
   ·intro L s w2 h hk hd hn
    have s6 : s 6 = _ := hk 6 (by kernel_rfl)
    have kb := ((h.mu.same _ ((Array.getElem?_eq_some_iff.1 HD.out).1) (by simp)).trans HD.out)
    refine sP fun K hK => ?_
    exact rs_load rfl s6 (md_load kb HL.out) (hK _ _ { h with e1 := fun _ => rfl })
   ·intro L s w2 h hk hd hn
    have s9 := h.e0 hd.1
    have s10 := h.e1 hd.2.1
    have hq := bin_eqM a a HL.out HL.out
    have hg := guard_eqM a a
    rw [show decide (a = a) = true from decide_eq_true rfl] at hq
    refine sP fun K hK => ?_
    go_simp
    exact hK _ _ { h with e2 := fun _ => rfl }
   ·intro L s w2 h hk hd hn
    have s11 := h.e2 hd.1
    refine sP fun K hK => ?_
    exact rs_move rfl s11 (hK _ _ { h with e3 := fun _ => rfl })
   ·intro L s w2 h hk hd hn
    have gq := h.e3 hd.1
    have s1 : s 1 = _ := hk 1 (by kernel_rfl)
    refine stepSP (by simp [Region.wanted, yieldS, gq]) fun K hK => ?_
    exact rs_move rfl s1 (hK _ _ { h with e4 := fun _ => rfl })
   ·intro L s w2 h hk hd hn
    have gq := h.e3 hd.1
    have s3 : s 3 = _ := hk 3 (by kernel_rfl)
    refine stepSP (by simp [Region.wanted, yieldS, gq]) fun K hK => ?_
    exact rs_move rfl s3 (hK _ _ { h with e5 := fun _ => rfl })
   ·intro L s w2 h hk hd hn
    have gq := h.e3 hd.2.2.1
    have s13 := h.e4 hd.1
    have s14 := h.e5 hd.2.1
    refine stepSP (by simp [Region.wanted, yieldS, gq]) fun K hK => ?_
    go_simp
    exact hK _ _ { h with e6 := fun _ => congrArg Value.bool (by simp) }
   ·intro L s w2 h hk hd hn
    have s12 := h.e3 hd.1
    have s15 := h.e6 hd.2.1
    refine sP fun K hK => ?_
    go_simp
    exact hK _ _ { h with e7 := fun _ => rfl }
   ·intro L s w2 h hk hd hn
    have s16 := h.e7 hd.1
    refine sP fun K hK => ?_
    exact rs_assign rfl s16 (hK _ _ { h with e8 := fun _ => rfl })
  ·intro L s w2 h hk hl
   refine cA ?_ (hQ2 s w2 (⟨h.mu, h.e8 (hl 8 (by decide))⟩))
   exact frame_eq hk (by kernel_rfl) (by kernel_rfl)
  ·intro c s w2 hc
   exact hc.elim
 rotate_left
 ·rintro _ _ _ h
  exact h.elim
 rintro s1 V ⟨h1, k8⟩
 simp only [mergeL]
 rw [k8]
 replace HA := sm h1 HA
 replace HD := sm h1 HD
 replace HM := lh (HM.out.stepM h1 (by simp))
 clear h1 k8
 refine HK1.out _ _ ?_
 refine wp_ret ?_
 exact bodyPost_ret (v := .bool true) (by simp [results, Tryz.results12, go_sem]) rfl ⟨rfl, by rw [← HBW.out]; exact HM.out.to0⟩
end Go.Proofs.YthhkcfpljgdnhaaGreat

/- What the examples of law 21 compute. Printed by wip/genLY.py. -/
namespace Go.Proofs.YthhkcfpljgdnhaaGreat
open Go.RowKit Mnc
attribute [local go_sem] RunSP_value RunSP_skip RunSP_enter evS_tmp evS_const evS_global evS_func
theorem pl_00 (w : World) : Calls Tryz.prog 20 #[.int .i64 0, .int .i64 0] w fun e w' => e = .returned (.tuple #[.int .i64 0, .int .i64 0]) ∧ Below w.heap.size w w' := by
 have h := taw_Place 0 0 w
 rw [show xPlace 0 0 = (0, 0) from by decide +kernel] at h
 exact h
theorem pl_10 (w : World) : Calls Tryz.prog 20 #[.int .i64 1, .int .i64 0] w fun e w' => e = .returned (.tuple #[.int .i64 2, .int .i64 0]) ∧ Below w.heap.size w w' := by
 have h := taw_Place 1 0 w
 rw [show xPlace 1 0 = (2, 0) from by decide +kernel] at h
 exact h
theorem pl_05 (w : World) : Calls Tryz.prog 20 #[.int .i64 0, .int .i64 5] w fun e w' => e = .returned (.tuple #[.int .i64 15, .int .i64 0]) ∧ Below w.heap.size w w' := by
 have h := taw_Place 0 5 w
 rw [show xPlace 0 5 = (15, 0) from by decide +kernel] at h
 exact h
theorem pl_50 (w : World) : Calls Tryz.prog 20 #[.int .i64 5, .int .i64 0] w fun e w' => e = .returned (.tuple #[.int .i64 20, .int .i64 0]) ∧ Below w.heap.size w w' := by
 have h := taw_Place 5 0 w
 rw [show xPlace 5 0 = (20, 0) from by decide +kernel] at h
 exact h
theorem pl_33 (w : World) : Calls Tryz.prog 20 #[.int .i64 3, .int .i64 3] w fun e w' => e = .returned (.tuple #[.int .i64 0, .int .i64 2]) ∧ Below w.heap.size w w' := by
 have h := taw_Place 3 3 w
 rw [show xPlace 3 3 = (0, 2) from by decide +kernel] at h
 exact h
def mUV : List (Int × Int) := zeroM.set 4 (4294967296, 4294967296)
def mUU : List (Int × Int) := zeroM.set 5 (4294967296, 4294967296)
def mInv : List (Int × Int) := (xInverse (tLine (-8))).1
theorem ex_uv : xMul xU xV = (mUV, 0) := by decide +kernel
theorem ex_bu : xBound xU = ((-4294967296, 4294967296), 0) := by decide +kernel
theorem ex_uu : xMul xU xU = (mUU, 0) := by decide +kernel
theorem ex_bs : xBound mUU = ((0, 4294967296), 0) := by decide +kernel
theorem ex_inv : (xInverse (tLine (-8))).2 = 0 ∧ tAt (xInverse (tLine (-8))).1 5 = (1073741824, 1073741824) := by decide +kernel
theorem ex_iu : xInverse xU = (zeroM, 7) := by decide +kernel
theorem ex_iz : xInverse zeroM = (zeroM, 7) := by decide +kernel
theorem mInv_def : (xInverse (tLine (-8))).1 = mInv := by rw [mInv]
theorem ex_invp : xInverse (tLine (-8)) = (mInv, 0) := by rw [← mInv_def, ← ex_inv.1]
theorem mInv_len : mInv.length = 22 := xInverseLen _ (tLine_len _)
theorem gMul {a d m : List (Int × Int)} {n : Int} (ha : a.length = 22) (hd : d.length = 22) (h : xMul a d = (m, n)) (w : World) : Calls Tryz.prog 8 #[mval a, mval d] w fun e w' => e = .returned (.tuple #[mval m, .int .i64 n]) ∧ Below w.heap.size w w' := by
 have h2 := taw_Mul a d ha hd w
 rw [h] at h2
 exact h2
theorem gBound {a : List (Int × Int)} {m : Int × Int} {n : Int} (ha : a.length = 22) (h : xBound a = (m, n)) (w : World) : Calls Tryz.prog 10 #[mval a] w fun e w' => e = .returned (.tuple #[sval m, .int .i64 n]) ∧ Below w.heap.size w w' := by
 have h2 := taw_Bound a ha w
 rw [h] at h2
 exact h2
theorem gInverse {a m : List (Int × Int)} {n : Int} (ha : a.length = 22) (h : xInverse a = (m, n)) (w : World) : Calls Tryz.prog 16 #[mval a] w fun e w' => e = .returned (.tuple #[mval m, .int .i64 n]) ∧ Below w.heap.size w w' := by
 have h2 := taw_Inverse a ha w
 rw [h] at h2
 exact h2
theorem cw_uv (w : World) : Calls Tryz.prog 8 #[mval xU, mval xV] w fun e w' => e = .returned (.tuple #[mval mUV, .int .i64 0]) ∧ Below w.heap.size w w' := gMul rfl rfl ex_uv w
theorem cw_uu (w : World) : Calls Tryz.prog 8 #[mval xU, mval xU] w fun e w' => e = .returned (.tuple #[mval mUU, .int .i64 0]) ∧ Below w.heap.size w w' := gMul rfl rfl ex_uu w
theorem cw_bu (w : World) : Calls Tryz.prog 10 #[mval xU] w fun e w' => e = .returned (.tuple #[sval (-4294967296, 4294967296), .int .i64 0]) ∧ Below w.heap.size w w' := gBound rfl ex_bu w
theorem cw_bs (w : World) : Calls Tryz.prog 10 #[mval mUU] w fun e w' => e = .returned (.tuple #[sval (0, 4294967296), .int .i64 0]) ∧ Below w.heap.size w w' := gBound rfl ex_bs w
theorem cw_inv (w : World) : Calls Tryz.prog 16 #[mval (tLine (-8))] w fun e w' => e = .returned (.tuple #[mval mInv, .int .i64 0]) ∧ Below w.heap.size w w' := gInverse (tLine_len _) ex_invp w
theorem cw_iu (w : World) : Calls Tryz.prog 16 #[mval xU] w fun e w' => e = .returned (.tuple #[mval zeroM, .int .i64 7]) ∧ Below w.heap.size w w' := gInverse rfl ex_iu w
theorem cw_iz (w : World) : Calls Tryz.prog 16 #[mval zeroM] w fun e w' => e = .returned (.tuple #[mval zeroM, .int .i64 7]) ∧ Below w.heap.size w w' := gInverse rfl ex_iz w
end Go.Proofs.YthhkcfpljgdnhaaGreat
