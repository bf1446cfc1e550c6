/- Package taylor: what Inverse computes, inside caught. Printed by wip/genTQ.py. -/
import Derived.Test.YthhkcfpljgdnhaaGreatTayO
namespace Go.Proofs.YthhkcfpljgdnhaaGreat
open Go.RowKit Mnc
attribute [local go_sem] RunSP_value RunSP_skip RunSP_enter evS_tmp evS_const evS_global evS_func
theorem tRelative_len {a : List (Int × Int)} (h : (tRelative a).2 = 0) : (tRelative a).1.1.length = a.length := by
 unfold tRelative at h ⊢
 refine thenE_ind (fun x => x.1.length = a.length) h fun v hv h => ?_
 refine thenE_ind (fun x => x.1.length = a.length) h fun _ _ h => ?_
 refine thenE_ind (fun x => x.1.length = a.length) h fun _ _ h => ?_
 refine thenE_ind (fun x => x.1.length = a.length) h fun _ _ h => ?_
 have h1 := tEach_len (F := fun x _ => sDiv x (tAt a 0)) (a := a.set 0 (0, 0)) (c := a.set 0 (0, 0)) rfl (by have := congrArg Prod.snd hv; exact this)
 have h2 : tEach (fun x _ => sDiv x (tAt a 0)) (a.set 0 (0, 0)) (a.set 0 (0, 0)) = (v, 0) := hv
 rw [h2] at h1
 simpa using h1
structure Iw1 (V : World) (A : Nat) (a : List (Int × Int)) (b : Nat) (L : Nat → Bool) (s : Nat → Value) (w : World) : Prop where
 mu : Mut [] V w
 e0 : L 0 = true → s 8 = mval a
 nb : L 1 = true → ∃ q : Nat, s 9 = .slice (some ⟨q, 0, none⟩) 1 1 ∧ w.heap[q]? = some (cobj 34 (a))
 z2 : L 2 = true → (tRight (a)).2 = 0
structure Iw2 (V : World) (A : Nat) (a : List (Int × Int)) (b : Nat) (L : Nat → Bool) (s : Nat → Value) (w : World) : Prop where
 mu : Mut [] V w
 e0 : L 0 = true → s 11 = .pointer (some ⟨A, 0, none⟩)
 e1 : L 1 = true → s 12 = .pointer (some ⟨A, 0 * 2, none⟩)
 e2 : L 2 = true → s 13 = sval (tAt a 0)
 al_c : L 3 = true → ∃ g : Nat, s 2 = .pointer (some ⟨g, 0, none⟩) ∧ V.heap.size ≤ g ∧ g < w.heap.size ∧ (L 4 = false → w.heap[g]? = some (cobj 31 [(0, 0)])) ∧ (L 4 = true → w.heap[g]? = some (cobj 31 [tAt a 0]))
 b4_3 : L 4 = true → L 3 = true
structure Iw5 (V : World) (A : Nat) (a : List (Int × Int)) (b : Nat) (g0 : Nat) (L : Nat → Bool) (s : Nat → Value) (w : World) : Prop where
 mu : Mut [] V w
 e0 : L 0 = true → s 25 = mval a
 z1 : L 1 = true → (tRelative a).2 = 0
 e1 : L 1 = true → s 26 = r3val ((tRelative a).1)
 e2 : L 2 = true → s 24 = r3val ((tRelative a).1)
 e3 : L 3 = true → s 27 = mval (((tRelative a).1).1)
 e4 : L 4 = true → s 28 = sval (((tRelative a).1).2.1)
 e5 : L 5 = true → s 29 = sval (((tRelative a).1).2.2)
 al_h : L 6 = true → ∃ g : Nat, s 3 = .pointer (some ⟨g, 0, none⟩) ∧ V.heap.size ≤ g ∧ g < w.heap.size ∧ (L 9 = false → w.heap[g]? = some (cobj 34 zeroM)) ∧ (L 9 = true → w.heap[g]? = some (cobj 34 ((tRelative a).1.1)))
 dn_h_bb : L 6 = true → L 7 = true → s 3 ≠ s 4
 dn_h_ee : L 6 = true → L 8 = true → s 3 ≠ s 5
 al_bb : L 7 = true → ∃ g : Nat, s 4 = .pointer (some ⟨g, 0, none⟩) ∧ V.heap.size ≤ g ∧ g < w.heap.size ∧ (L 10 = false → w.heap[g]? = some (cobj 31 [(0, 0)])) ∧ (L 10 = true → w.heap[g]? = some (cobj 31 [(tRelative a).1.2.1]))
 dn_bb_ee : L 7 = true → L 8 = true → s 4 ≠ s 5
 al_ee : L 8 = true → ∃ g : Nat, s 5 = .pointer (some ⟨g, 0, none⟩) ∧ V.heap.size ≤ g ∧ g < w.heap.size ∧ (L 11 = false → w.heap[g]? = some (cobj 31 [(0, 0)])) ∧ (L 11 = true → w.heap[g]? = some (cobj 31 [(tRelative a).1.2.2]))
 b9_6 : L 9 = true → L 6 = true
 b10_7 : L 10 = true → L 7 = true
 b11_8 : L 11 = true → L 8 = true
structure Iw8 (V : World) (A : Nat) (a : List (Int × Int)) (b : Nat) (g0 : Nat) (r : List (Int × Int) × (Int × Int) × (Int × Int)) (g1 : Nat) (g2 : Nat) (g3 : Nat) (L : Nat → Bool) (s : Nat → Value) (w : World) : Prop where
 mu : Mut [] V w
 e0 : L 0 = true → s 35 = mval r.1
 e1 : L 1 = true → s 36 = .agg #[.int .i64 (-4294967296), .int .i64 4294967296, .int .i64 (-4294967296), .int .i64 4294967296, .int .i64 (-4294967296), .int .i64 4294967296]
 z2 : L 2 = true → (tSeries r.1 [4294967296, -4294967296, 4294967296, -4294967296, 4294967296] (zeroM.set 0 (-4294967296, -4294967296))).2 = 0
 e2 : L 2 = true → s 37 = mval ((tSeries r.1 [4294967296, -4294967296, 4294967296, -4294967296, 4294967296] (zeroM.set 0 (-4294967296, -4294967296))).1)
 al_m : L 3 = true → ∃ g : Nat, s 6 = .pointer (some ⟨g, 0, none⟩) ∧ V.heap.size ≤ g ∧ g < w.heap.size ∧ (L 4 = false → w.heap[g]? = some (cobj 34 zeroM)) ∧ (L 4 = true → w.heap[g]? = some (cobj 34 ((tSeries r.1 [4294967296, -4294967296, 4294967296, -4294967296, 4294967296] (zeroM.set 0 (-4294967296, -4294967296))).1)))
 b4_3 : L 4 = true → L 3 = true
structure Iw9 (V : World) (A : Nat) (a : List (Int × Int)) (b : Nat) (g0 : Nat) (r : List (Int × Int) × (Int × Int) × (Int × Int)) (g1 : Nat) (g2 : Nat) (g3 : Nat) (m : List (Int × Int)) (g4 : Nat) (L : Nat → Bool) (s : Nat → Value) (w : World) : Prop where
 mu : Mut [] V w
 e0 : L 0 = true → s 38 = sval r.2.1
 e1 : L 1 = true → s 39 = .tuple #[sval ((sPow (r.2.1) (6))).1, .int .i64 ((sPow (r.2.1) (6))).2]
 e2 : L 2 = true → s 40 = sval (((sPow (r.2.1) (6))).1)
 e3 : L 3 = true → s 41 = .int .i64 (((sPow (r.2.1) (6))).2)
 z4 : L 4 = true → ((sPow (r.2.1) (6))).2 = 0
 e4 : L 4 = true → s 42 = sval (((sPow (r.2.1) (6))).1)
 al_sx : L 5 = true → ∃ g : Nat, s 7 = .pointer (some ⟨g, 0, none⟩) ∧ V.heap.size ≤ g ∧ g < w.heap.size ∧ (L 6 = false → w.heap[g]? = some (cobj 31 [(0, 0)])) ∧ (L 6 = true → w.heap[g]? = some (cobj 31 [(sPow r.2.1 6).1]))
 b6_5 : L 6 = true → L 5 = true
structure Iw10 (V : World) (A : Nat) (a : List (Int × Int)) (b : Nat) (g0 : Nat) (r : List (Int × Int) × (Int × Int) × (Int × Int)) (g1 : Nat) (g2 : Nat) (g3 : Nat) (m : List (Int × Int)) (g4 : Nat) (sx : (Int × Int)) (g5 : Nat) (L : Nat → Bool) (s : Nat → Value) (w : World) : Prop where
 mu : Mut [g4] V w
 kt_m : L 17 = false → w.heap[g4]? = some (cobj 34 m)
 kr_m : L 17 = true → w.heap[g4]? = some (cobj 34 (m.set 21 (sAdd (tAt m 21) (sDiv sx (sPow r.2.2 7).1).1).1))
 e0 : L 0 = true → s 43 = .pointer (some ⟨g4, 21 * 2, none⟩)
 e1 : L 1 = true → s 44 = sval (tAt m 21)
 e2 : L 2 = true → s 45 = sval sx
 e3 : L 3 = true → s 46 = sval r.2.2
 e4 : L 4 = true → s 47 = .tuple #[sval ((sPow (r.2.2) (7))).1, .int .i64 ((sPow (r.2.2) (7))).2]
 e5 : L 5 = true → s 48 = sval (((sPow (r.2.2) (7))).1)
 e6 : L 6 = true → s 49 = .int .i64 (((sPow (r.2.2) (7))).2)
 z7 : L 7 = true → ((sPow (r.2.2) (7))).2 = 0
 e7 : L 7 = true → s 50 = sval (((sPow (r.2.2) (7))).1)
 e8 : L 8 = true → s 51 = .tuple #[sval ((sDiv (sx) (((sPow (r.2.2) (7))).1))).1, .int .i64 ((sDiv (sx) (((sPow (r.2.2) (7))).1))).2]
 e9 : L 9 = true → s 52 = sval (((sDiv (sx) (((sPow (r.2.2) (7))).1))).1)
 e10 : L 10 = true → s 53 = .int .i64 (((sDiv (sx) (((sPow (r.2.2) (7))).1))).2)
 z11 : L 11 = true → ((sDiv (sx) (((sPow (r.2.2) (7))).1))).2 = 0
 e11 : L 11 = true → s 54 = sval (((sDiv (sx) (((sPow (r.2.2) (7))).1))).1)
 e12 : L 12 = true → s 55 = .tuple #[sval ((sAdd (tAt m 21) (((sDiv (sx) (((sPow (r.2.2) (7))).1))).1))).1, .int .i64 ((sAdd (tAt m 21) (((sDiv (sx) (((sPow (r.2.2) (7))).1))).1))).2]
 e13 : L 13 = true → s 56 = sval (((sAdd (tAt m 21) (((sDiv (sx) (((sPow (r.2.2) (7))).1))).1))).1)
 e14 : L 14 = true → s 57 = .int .i64 (((sAdd (tAt m 21) (((sDiv (sx) (((sPow (r.2.2) (7))).1))).1))).2)
 z15 : L 15 = true → ((sAdd (tAt m 21) (((sDiv (sx) (((sPow (r.2.2) (7))).1))).1))).2 = 0
 e15 : L 15 = true → s 58 = sval (((sAdd (tAt m 21) (((sDiv (sx) (((sPow (r.2.2) (7))).1))).1))).1)
 e16 : L 16 = true → s 59 = .pointer (some ⟨g4, 21 * 2, none⟩)
 q9_7 : L 9 = true → ((sPow (r.2.2) (7))).2 = 0
 q13_11 : L 13 = true → ((sDiv (sx) (((sPow (r.2.2) (7))).1))).2 = 0
 q13_7 : L 13 = true → ((sPow (r.2.2) (7))).2 = 0
 q8_7 : L 8 = true → ((sPow (r.2.2) (7))).2 = 0
 q12_11 : L 12 = true → ((sDiv (sx) (((sPow (r.2.2) (7))).1))).2 = 0
 q12_7 : L 12 = true → ((sPow (r.2.2) (7))).2 = 0
 q11_7 : L 11 = true → ((sPow (r.2.2) (7))).2 = 0
 b17_1 : L 17 = true → L 1 = true
structure Iw11 (V : World) (A : Nat) (a : List (Int × Int)) (b : Nat) (g0 : Nat) (r : List (Int × Int) × (Int × Int) × (Int × Int)) (g1 : Nat) (g2 : Nat) (g3 : Nat) (m : List (Int × Int)) (g4 : Nat) (sx : (Int × Int)) (g5 : Nat) (q : List (Int × Int)) (L : Nat → Bool) (s : Nat → Value) (w : World) : Prop where
 mu : Mut [b] V w
 kt_r : L 3 = false → w.heap[b]? = some (cobj 34 zeroM)
 kr_r : L 3 = true → w.heap[b]? = some (cobj 34 ((tBy sDiv q (tAt a 0)).1))
 e0 : L 0 = true → s 60 = mval q
 e1 : L 1 = true → s 61 = sval (tAt a 0)
 z2 : L 2 = true → (tBy sDiv q (tAt a 0)).2 = 0
 e2 : L 2 = true → s 62 = mval ((tBy sDiv q (tAt a 0)).1)
set_option maxRecDepth 100000 in
set_option maxHeartbeats 4000000 in
theorem tay_inverse1 (A : Nat) (a : List (Int × Int)) (ha : a.length = 22) (w : World) (h : w.heap[A]? = some (cobj 34 a)) :
  Calls Tryz.prog 38 #[.pointer (some ⟨A, 0, none⟩)] w fun e w' => Ends mval (thenE [] (tRight a) fun _ => tInverse a) e ∧ Below w.heap.size w w' := by
 have HL := lh ha
 have HA0 := lh h
 clear ha h
 go_enter Tryz.func38, Tryz.ntmps38
 refine wsk fun K0 HK0 => ?_
 go_wp2_with fail
 obtain ⟨b, hb⟩ : ∃ b, w.heap.size = b := ⟨_, rfl⟩
 refine HK0.out _ _ ?_
 refine wp_world (fun V => Mut [] w V ∧ V.heap[A]? = some (cobj 34 a) ∧ V.heap[b]? = some (cobj 34 zeroM)) ?_
  (by
   rw [← hb]
   exact ⟨((Mut.refl _ _).alloc _), heap_up _ (HA0.out), heap_at (cobj 34 zeroM) (by simp)⟩)
 rintro V ⟨hm, hHA, hHR⟩
 rw [hb]
 have HM := lh hm
 have HBW := lh hb
 have HLT := lh (show A < b from hb ▸ lt_of_block HA0.out)
 have HP0 := lh (show (thenE [] (tRight a) fun _ => tInverse a) = (thenE [] (tRight a) fun _ => tInverse a) from rfl)
 have HA := lh hHA
 have HR := lh hHR
 clear hm hHA hHR hb HK0
 refine wsk fun K1 HK1 => ?_
 refine wp_cut_mergeP (n8 (some 8 :: some 9 :: some 10 :: n8 (n8 (n8 (n8 (n8 (n8 (nn :: nn :: nn :: nn :: [])))))))) (fun _ w' => Mut [] V w' ∧ (tRight (a)).2 = 0) (fun ch w' => ch = brk (fstE [(tRight (a)).2]) ∧ ¬ fstE [(tRight (a)).2] = 0 ∧ Mut [] V w') ?_ ?_ ?_
 ·intro Q2 hQ2 hP2
  refine wpG ?_
  refine wp_region_G (b := false) (Pn := (fun ch w' => ch = brk (fstE [(tRight (a)).2]) ∧ ¬ fstE [(tRight (a)).2] = 0 ∧ Mut [] V w')) (Iw1 V A a b) (by kernel_rfl) (by kernel_rfl) ?_ ?_ ?_ ?_
  ·exact ⟨Mut.start _ false _, nB, nB, nB⟩
  ·refine AllSP.cons ?_ (AllSP.cons ?_ (AllSP.cons ?_ AllSP.nil))
   ·intro L s w2 h hk hd hn
    have s0 : s 0 = _ := hk 0 (by kernel_rfl)
    have kb := ((h.mu.same _ ((Array.getElem?_eq_some_iff.1 HA.out).1) (by simp)).trans HA.out)
    refine sP fun K hK => ?_
    exact rs_load rfl s0 (md_load kb HL.out) (hK _ _ { h with e0 := fun _ => rfl })
   ·intro L s w2 h hk hd hn
    have s8 := h.e0 hd.1
    refine sP fun K hK => ?_
    exact rs_build rfl (by simp [evS_tmp, s8]) (bs_one HL.out _) (hK _ _ { h with mu := h.mu.alloc _, nb := fun _ => ⟨_, rfl, heap_at _ rfl⟩ })
   ·intro L s w2 h hk hd hn
    obtain ⟨q, s9, hq⟩ := h.nb hd.1
    refine sP fun K hK => ?_
    go_simp
    refine (tm_right (a) 1 (by simp [HL.out]) (by omega) q 1 _ hq).mono ?_
    rintro e w3 ⟨⟨hz, v, rfl⟩ | ⟨hz, rfl⟩, hb⟩
    ·exact .inl ⟨_, rfl, hK _ _ { h with mu := h.mu.step hb, nb := fun a => let ⟨q, h1, h2⟩ := h.nb a; ⟨q, h1, (hb.block _ (lt_of_block h2)).trans h2⟩, z2 := fun _ => hz }⟩
    ·exact .inr ⟨_, rfl, congrArg brk (show (tRight (a)).2 = fstE [(tRight (a)).2] from (by rw [fstE_1 (show ¬ (tRight (a)).2 = 0 from hz)])), (show ¬ fstE [(tRight (a)).2] = 0 from (by rw [fstE_1 (show ¬ (tRight (a)).2 = 0 from hz)]; exact hz)), h.mu.step hb⟩
  ·intro L s w2 h hk hl
   refine cA ?_ (hQ2 s w2 (⟨h.mu, h.z2 (hl 2 (by decide))⟩))
   exact frame_eq hk (by kernel_rfl) (by kernel_rfl)
  ·intro c s w2 hc
   exact hP2 _ _ _ hc
 rotate_left
 ·rintro e l'' w' ⟨rfl, hz, h2⟩
  have he : (thenE [] (tRight a) fun _ => tInverse a).2 = fstE [(tRight (a)).2] := by
   have h := hz
   rw [HP0.out]
   first | exact thenE_fst1 h | exact fstE_one.symm | exact fstE_one.symm
  rw [← he] at hz ⊢
  exact ⟨rfl, .inr ⟨hz, rfl⟩, (by rw [← HBW.out]; exact (HM.out.stepM h2 (by simp)).to0)⟩
 rintro s1 V ⟨h1, z1⟩
 simp only [mergeL]
 replace HA := sm h1 HA
 replace HR := sm h1 HR
 have HP1 := lh (show (thenE [] (tRight a) fun _ => tInverse a) = _ from by rw [HP0.out, thenE_ok z1])
 replace HM := lh (HM.out.stepM h1 (by simp))
 clear h1 z1
 refine HK1.out _ _ ?_
 refine wsk fun K2 HK2 => ?_
 refine wp_cut_mergeP (nn :: nn :: some 2 :: n8 (some 11 :: some 12 :: some 13 :: n8 (n8 (n8 (n8 (n8 (n8 (nn :: [])))))))) (fun s w' => Mut [] V w' ∧ (∃ g : Nat, s 2 = .pointer (some ⟨g, 0, none⟩) ∧ V.heap.size ≤ g ∧ w'.heap[g]? = some (cobj 31 [tAt a 0]))) (fun _ _ => False) ?_ ?_ ?_
 ·intro Q2 hQ2 hP2
  refine wpG ?_
  refine wp_region_G (b := false) (Pn := (fun _ _ => False)) (Iw2 V A a b) (by kernel_rfl) (by kernel_rfl) ?_ ?_ ?_ ?_
  ·exact ⟨Mut.start _ false _, nB, nB, nB, nB, nB⟩
  ·refine AllSP.cons ?_ (AllSP.cons ?_ (AllSP.cons ?_ (AllSP.cons ?_ (AllSP.cons ?_ AllSP.nil))))
   ·intro L s w2 h hk hd hn
    have s0 : s 0 = _ := hk 0 (by kernel_rfl)
    refine sP fun K hK => ?_
    exact rs_field rfl s0 (fl_model0 _ _) (hK _ _ { h with e0 := fun _ => rfl })
   ·intro L s w2 h hk hd hn
    have s11 := h.e0 hd.1
    refine sP fun K hK => ?_
    exact rs_index rfl s11 rfl (ix_model _ 0 (by omega)) (hK _ _ { h with e1 := fun _ => rfl })
   ·intro L s w2 h hk hd hn
    have s12 := h.e1 hd.1
    have kb := ((h.mu.same _ ((Array.getElem?_eq_some_iff.1 HA.out).1) (by simp)).trans HA.out)
    refine sP fun K hK => ?_
    exact rs_load rfl s12 (sp_load (p := 0) kb (by have := (HL.out : a.length = 22); omega)) (hK _ _ { h with e2 := fun _ => rfl })
   ·intro L s w2 h hk hd hn
    refine sP fun K hK => ?_
    go_simp
    exact hK _ _ { h with mu := h.mu.alloc _, al_c := fun _ => ⟨_, rfl, h.mu.size, by simp, fun _ => heap_at _ rfl, fun a => absurd (h.b4_3 a) (by rw [hn]; exact bft)⟩, b4_3 := fun _ => rfl }
   ·intro L s w2 h hk hd hn
    have s13 := h.e2 hd.2.1
    obtain ⟨g, hg0, hg1, hgl, hg2, hg3⟩ := h.al_c hd.1
    have kb := hg2 hn
    refine sP fun K hK => ?_
    exact rs_store rfl hg0 s13 (sp_store (p := 0) kb (by simp) (tAt a 0)) (hK _ _ { h with mu := h.mu.putNew hg1 _, al_c := fun a => ⟨g, hg0, hg1, by simpa using hgl, nF, fun _ => pH kb⟩, b4_3 := fun _ => hd.1 })
  ·intro L s w2 h hk hl
   refine cA ?_ (hQ2 s w2 (⟨h.mu, (let ⟨g, h0, h1, _, _, h3⟩ := h.al_c (hl 3 (by decide)); ⟨g, h0, h1, h3 (hl 4 (by decide))⟩)⟩))
   exact frame_eq hk (by kernel_rfl) (by kernel_rfl)
  ·intro c s w2 hc
   exact hc.elim
 rotate_left
 ·rintro _ _ _ h
  exact h.elim
 rintro s2 V ⟨h1, ⟨g0, k_c, g_c, c_c⟩⟩
 simp only [mergeL]
 rw [k_c]
 replace HLT := lh (show b ≤ g0 ∧ A < g0 ∧ b < g0 ∧ A < b from by
  have hlt := HLT.out
  have hbw := HM.out.size
  have hbw2 := HBW.out
  have := lt_of_block HA.out
  have := lt_of_block HR.out
  omega)
 replace HA := sm h1 HA
 replace HR := sm h1 HR
 have HC := lh c_c
 replace HM := lh (HM.out.stepM h1 (by simp))
 clear h1 k_c g_c c_c
 refine HK2.out _ _ ?_
 refine wsk fun K3 HK3 => ?_
 refine wp_cut_mergeP (n8 (nn :: nn :: nn :: nn :: nn :: nn :: some 14 :: some 15 :: some 16 :: some 17 :: some 18 :: some 19 :: some 20 :: some 21 :: some 22 :: some 23 :: n8 (n8 (n8 (n8 (nn :: nn :: nn :: nn :: nn :: nn :: nn :: [])))))) (fun _ w' => w' = V ∧ ¬ ((tAt a 0).1 ≤ 0 ∧ 0 ≤ (tAt a 0).2)) (fun ch w' => ch = brk 7 ∧ ((tAt a 0).1 ≤ 0 ∧ 0 ≤ (tAt a 0).2) ∧ w' = V) ?_ ?_ ?_
 ·intro Q2 hQ2 hP2
  have hq0 := cell_two0 HC.out
  have hq1 := cell_two1 HC.out
  go_wp2_with fail
  all_goals first | rfl | exact merge_meet hQ2 (by kernel_rfl) ⟨rfl, by simp_all <;> omega⟩ | exact hP2 _ _ _ ⟨rfl, by simp_all <;> omega, rfl⟩
 rotate_left
 ·rintro e l'' w' ⟨rfl, hz, rfl⟩
  have he : (thenE [] (tRight a) fun _ => tInverse a).2 = 7 := by rw [HP1.out, tInverse, if_pos hz]
  exact ⟨rfl, .inr ⟨by rw [he]; first | decide | exact hz, by rw [he]⟩, by rw [← HBW.out]; exact HM.out.to0⟩
 rintro s3 V2 ⟨he, hz⟩
 replace he := he.symm
 subst he
 simp only [mergeL]
 have HP2 := lh (show (thenE [] (tRight a) fun _ => tInverse a) = _ from by rw [HP1.out, tInverse, if_neg hz])
 clear hz
 refine HK3.out _ _ ?_
 refine wsk fun K5 HK5 => ?_
 refine wp_cut_mergeP (nn :: nn :: nn :: some 3 :: some 4 :: some 5 :: n8 (n8 (nn :: nn :: some 24 :: some 25 :: some 26 :: some 27 :: some 28 :: some 29 :: n8 (n8 (n8 (n8 (nn :: []))))))) (fun s w' => Mut [] V w' ∧ (∃ g : Nat, s 3 = .pointer (some ⟨g, 0, none⟩) ∧ V.heap.size ≤ g ∧ w'.heap[g]? = some (cobj 34 ((tRelative a).1.1))) ∧ (∃ g : Nat, s 4 = .pointer (some ⟨g, 0, none⟩) ∧ V.heap.size ≤ g ∧ w'.heap[g]? = some (cobj 31 [(tRelative a).1.2.1])) ∧ (∃ g : Nat, s 5 = .pointer (some ⟨g, 0, none⟩) ∧ V.heap.size ≤ g ∧ w'.heap[g]? = some (cobj 31 [(tRelative a).1.2.2])) ∧ (tRelative a).2 = 0) (fun ch w' => ch = brk (fstE [(tRelative a).2]) ∧ ¬ fstE [(tRelative a).2] = 0 ∧ Mut [] V w') ?_ ?_ ?_
 ·intro Q2 hQ2 hP2
  refine wpG ?_
  refine wp_region_G (b := false) (Pn := (fun ch w' => ch = brk (fstE [(tRelative a).2]) ∧ ¬ fstE [(tRelative a).2] = 0 ∧ Mut [] V w')) (Iw5 V A a b g0) (by kernel_rfl) (by kernel_rfl) ?_ ?_ ?_ ?_
  ·exact ⟨Mut.start _ false _, nB, nB, nB, nB, nB, nB, nB, nB, nB, nB, nB, nB, nB, nB, nB, nB⟩
  ·refine AllSP.cons ?_ (AllSP.cons ?_ (AllSP.cons ?_ (AllSP.cons ?_ (AllSP.cons ?_ (AllSP.cons ?_ (AllSP.cons ?_ (AllSP.cons ?_ (AllSP.cons ?_ (AllSP.cons ?_ (AllSP.cons ?_ (AllSP.cons ?_ AllSP.nil)))))))))))
   ·intro L s w2 h hk hd hn
    have s0 : s 0 = _ := hk 0 (by kernel_rfl)
    have kb := ((h.mu.same _ ((Array.getElem?_eq_some_iff.1 HA.out).1) (by simp)).trans HA.out)
    refine sP fun K hK => ?_
    exact rs_load rfl s0 (md_load kb HL.out) (hK _ _ { h with e0 := fun _ => rfl })
   ·intro L s w2 h hk hd hn
    have s25 := h.e0 hd.1
    refine sP fun K hK => ?_
    go_simp
    refine (tay_relative a HL.out _).mono ?_
    rintro e w3 ⟨⟨hz, rfl⟩ | ⟨hz, rfl⟩, hb⟩
    ·exact .inl ⟨_, rfl, hK _ _ { h with mu := h.mu.step hb, al_h := fun a => let ⟨g, h0, h1, hl, h2, h3⟩ := h.al_h a; ⟨g, h0, h1, Nat.lt_of_lt_of_le hl hb.size, fun c => (hb.block _ (lt_of_block (h2 c))).trans (h2 c), fun c => (hb.block _ (lt_of_block (h3 c))).trans (h3 c)⟩, al_bb := fun a => let ⟨g, h0, h1, hl, h2, h3⟩ := h.al_bb a; ⟨g, h0, h1, Nat.lt_of_lt_of_le hl hb.size, fun c => (hb.block _ (lt_of_block (h2 c))).trans (h2 c), fun c => (hb.block _ (lt_of_block (h3 c))).trans (h3 c)⟩, al_ee := fun a => let ⟨g, h0, h1, hl, h2, h3⟩ := h.al_ee a; ⟨g, h0, h1, Nat.lt_of_lt_of_le hl hb.size, fun c => (hb.block _ (lt_of_block (h2 c))).trans (h2 c), fun c => (hb.block _ (lt_of_block (h3 c))).trans (h3 c)⟩, e1 := fun _ => rfl, z1 := fun _ => hz }⟩
    ·exact .inr ⟨_, rfl, congrArg brk (show (tRelative a).2 = fstE [(tRelative a).2] from (by rw [fstE_1 (show ¬ (tRelative a).2 = 0 from hz)])), (show ¬ fstE [(tRelative a).2] = 0 from (by rw [fstE_1 (show ¬ (tRelative a).2 = 0 from hz)]; exact hz)), h.mu.step hb⟩
   ·intro L s w2 h hk hd hn
    have s26 := h.e1 hd.1
    refine sP fun K hK => ?_
    exact rs_move rfl s26 (hK _ _ { h with e2 := fun _ => rfl })
   ·intro L s w2 h hk hd hn
    have s24 := h.e2 hd.1
    refine sP fun K hK => ?_
    exact rs_extract rfl s24 rfl (hK _ _ { h with e3 := fun _ => rfl })
   ·intro L s w2 h hk hd hn
    have s24 := h.e2 hd.1
    refine sP fun K hK => ?_
    exact rs_extract rfl s24 rfl (hK _ _ { h with e4 := fun _ => rfl })
   ·intro L s w2 h hk hd hn
    have s24 := h.e2 hd.1
    refine sP fun K hK => ?_
    exact rs_extract rfl s24 rfl (hK _ _ { h with e5 := fun _ => rfl })
   ·intro L s w2 h hk hd hn
    refine sP fun K hK => ?_
    go_simp
    exact hK _ _ { h with mu := h.mu.alloc _, al_bb := fun a => let ⟨g, h0, h1, hl, h2, h3⟩ := h.al_bb a; ⟨g, h0, h1, by simp; omega, fun c => heap_up _ (h2 c), fun c => heap_up _ (h3 c)⟩, dn_h_bb := fun _ b => let ⟨g, h0, _, hl, _, _⟩ := h.al_bb b; ptr_ne hl h0, al_ee := fun a => let ⟨g, h0, h1, hl, h2, h3⟩ := h.al_ee a; ⟨g, h0, h1, by simp; omega, fun c => heap_up _ (h2 c), fun c => heap_up _ (h3 c)⟩, dn_h_ee := fun _ b => let ⟨g, h0, _, hl, _, _⟩ := h.al_ee b; ptr_ne hl h0, al_h := fun _ => ⟨_, rfl, h.mu.size, by simp, fun _ => heap_at _ rfl, fun a => absurd (h.b9_6 a) (by rw [hn]; exact bft)⟩, b9_6 := fun _ => rfl }
   ·intro L s w2 h hk hd hn
    refine sP fun K hK => ?_
    go_simp
    exact hK _ _ { h with mu := h.mu.alloc _, al_h := fun a => let ⟨g, h0, h1, hl, h2, h3⟩ := h.al_h a; ⟨g, h0, h1, by simp; omega, fun c => heap_up _ (h2 c), fun c => heap_up _ (h3 c)⟩, dn_h_bb := fun a _ => let ⟨g, h0, _, hl, _, _⟩ := h.al_h a; (ptr_ne hl h0).symm, al_ee := fun a => let ⟨g, h0, h1, hl, h2, h3⟩ := h.al_ee a; ⟨g, h0, h1, by simp; omega, fun c => heap_up _ (h2 c), fun c => heap_up _ (h3 c)⟩, dn_bb_ee := fun _ b => let ⟨g, h0, _, hl, _, _⟩ := h.al_ee b; ptr_ne hl h0, al_bb := fun _ => ⟨_, rfl, h.mu.size, by simp, fun _ => heap_at _ rfl, fun a => absurd (h.b10_7 a) (by rw [hn]; exact bft)⟩, b10_7 := fun _ => rfl }
   ·intro L s w2 h hk hd hn
    refine sP fun K hK => ?_
    go_simp
    exact hK _ _ { h with mu := h.mu.alloc _, al_h := fun a => let ⟨g, h0, h1, hl, h2, h3⟩ := h.al_h a; ⟨g, h0, h1, by simp; omega, fun c => heap_up _ (h2 c), fun c => heap_up _ (h3 c)⟩, dn_h_ee := fun a _ => let ⟨g, h0, _, hl, _, _⟩ := h.al_h a; (ptr_ne hl h0).symm, al_bb := fun a => let ⟨g, h0, h1, hl, h2, h3⟩ := h.al_bb a; ⟨g, h0, h1, by simp; omega, fun c => heap_up _ (h2 c), fun c => heap_up _ (h3 c)⟩, dn_bb_ee := fun a _ => let ⟨g, h0, _, hl, _, _⟩ := h.al_bb a; (ptr_ne hl h0).symm, al_ee := fun _ => ⟨_, rfl, h.mu.size, by simp, fun _ => heap_at _ rfl, fun a => absurd (h.b11_8 a) (by rw [hn]; exact bft)⟩, b11_8 := fun _ => rfl }
   ·intro L s w2 h hk hd hn
    have s27 := h.e3 hd.2.1
    obtain ⟨g, hg0, hg1, hgl, hg2, hg3⟩ := h.al_h hd.1
    have kb := hg2 hn
    refine sP fun K hK => ?_
    exact rs_store rfl hg0 s27 (md_store kb rfl _ ((tRelative_len (h.z1 hd.2.2.1)).trans HL.out)) (hK _ _ { h with mu := h.mu.putNew hg1 _, al_bb := fun a => let ⟨g2, h0, h1, hl, h2, h3⟩ := h.al_bb a; have hne := ptr_inj (h.dn_h_bb hd.1 a) hg0 h0; ⟨g2, h0, h1, by simpa using hl, fun c => (World.putObj_heap_other (Ne.symm hne)).trans (h2 c), fun c => (World.putObj_heap_other (Ne.symm hne)).trans (h3 c)⟩, al_ee := fun a => let ⟨g2, h0, h1, hl, h2, h3⟩ := h.al_ee a; have hne := ptr_inj (h.dn_h_ee hd.1 a) hg0 h0; ⟨g2, h0, h1, by simpa using hl, fun c => (World.putObj_heap_other (Ne.symm hne)).trans (h2 c), fun c => (World.putObj_heap_other (Ne.symm hne)).trans (h3 c)⟩, al_h := fun a => ⟨g, hg0, hg1, by simpa using hgl, nF, fun _ => pH kb⟩, b9_6 := fun _ => hd.1 })
   ·intro L s w2 h hk hd hn
    have s28 := h.e4 hd.2.1
    obtain ⟨g, hg0, hg1, hgl, hg2, hg3⟩ := h.al_bb hd.1
    have kb := hg2 hn
    refine sP fun K hK => ?_
    exact rs_store rfl hg0 s28 (sp_store (p := 0) kb (by simp) ((tRelative a).1.2.1)) (hK _ _ { h with mu := h.mu.putNew hg1 _, al_h := fun a => let ⟨g2, h0, h1, hl, h2, h3⟩ := h.al_h a; have hne := ptr_inj ((h.dn_h_bb a hd.1).symm) hg0 h0; ⟨g2, h0, h1, by simpa using hl, fun c => (World.putObj_heap_other (Ne.symm hne)).trans (h2 c), fun c => (World.putObj_heap_other (Ne.symm hne)).trans (h3 c)⟩, al_ee := fun a => let ⟨g2, h0, h1, hl, h2, h3⟩ := h.al_ee a; have hne := ptr_inj (h.dn_bb_ee hd.1 a) hg0 h0; ⟨g2, h0, h1, by simpa using hl, fun c => (World.putObj_heap_other (Ne.symm hne)).trans (h2 c), fun c => (World.putObj_heap_other (Ne.symm hne)).trans (h3 c)⟩, al_bb := fun a => ⟨g, hg0, hg1, by simpa using hgl, nF, fun _ => pH kb⟩, b10_7 := fun _ => hd.1 })
   ·intro L s w2 h hk hd hn
    have s29 := h.e5 hd.2.1
    obtain ⟨g, hg0, hg1, hgl, hg2, hg3⟩ := h.al_ee hd.1
    have kb := hg2 hn
    refine sP fun K hK => ?_
    exact rs_store rfl hg0 s29 (sp_store (p := 0) kb (by simp) ((tRelative a).1.2.2)) (hK _ _ { h with mu := h.mu.putNew hg1 _, al_h := fun a => let ⟨g2, h0, h1, hl, h2, h3⟩ := h.al_h a; have hne := ptr_inj ((h.dn_h_ee a hd.1).symm) hg0 h0; ⟨g2, h0, h1, by simpa using hl, fun c => (World.putObj_heap_other (Ne.symm hne)).trans (h2 c), fun c => (World.putObj_heap_other (Ne.symm hne)).trans (h3 c)⟩, al_bb := fun a => let ⟨g2, h0, h1, hl, h2, h3⟩ := h.al_bb a; have hne := ptr_inj ((h.dn_bb_ee a hd.1).symm) hg0 h0; ⟨g2, h0, h1, by simpa using hl, fun c => (World.putObj_heap_other (Ne.symm hne)).trans (h2 c), fun c => (World.putObj_heap_other (Ne.symm hne)).trans (h3 c)⟩, al_ee := fun a => ⟨g, hg0, hg1, by simpa using hgl, nF, fun _ => pH kb⟩, b11_8 := fun _ => hd.1 })
  ·intro L s w2 h hk hl
   refine cA ?_ (hQ2 s w2 (⟨h.mu, (let ⟨g, h0, h1, _, _, h3⟩ := h.al_h (hl 6 (by decide)); ⟨g, h0, h1, h3 (hl 9 (by decide))⟩), (let ⟨g, h0, h1, _, _, h3⟩ := h.al_bb (hl 7 (by decide)); ⟨g, h0, h1, h3 (hl 10 (by decide))⟩), (let ⟨g, h0, h1, _, _, h3⟩ := h.al_ee (hl 8 (by decide)); ⟨g, h0, h1, h3 (hl 11 (by decide))⟩), h.z1 (hl 1 (by decide))⟩))
   exact frame_eq hk (by kernel_rfl) (by kernel_rfl)
  ·intro c s w2 hc
   exact hP2 _ _ _ hc
 rotate_left
 ·rintro e l'' w' ⟨rfl, hz, h2⟩
  have he : (thenE [] (tRight a) fun _ => tInverse a).2 = fstE [(tRelative a).2] := by
   have h := hz
   rw [HP2.out]
   first | exact thenE_fst1 h | exact fstE_one.symm | exact fstE_one.symm
  rw [← he] at hz ⊢
  exact ⟨rfl, .inr ⟨hz, rfl⟩, (by rw [← HBW.out]; exact (HM.out.stepM h2 (by simp)).to0)⟩
 rintro s5 V ⟨h1, ⟨g1, k_h, g_h, c_h⟩, ⟨g2, k_bb, g_bb, c_bb⟩, ⟨g3, k_ee, g_ee, c_ee⟩, z1⟩
 simp only [mergeL]
 rw [k_h]
 rw [k_bb]
 rw [k_ee]
 replace HLT := lh (show b ≤ g1 ∧ b ≤ g2 ∧ b ≤ g3 ∧ A < g1 ∧ b < g1 ∧ g0 < g1 ∧ A < g2 ∧ b < g2 ∧ g0 < g2 ∧ A < g3 ∧ b < g3 ∧ g0 < g3 ∧ b ≤ g0 ∧ A < g0 ∧ b < g0 ∧ A < b from by
  have hlt := HLT.out
  have hbw := HM.out.size
  have hbw2 := HBW.out
  have := lt_of_block HA.out
  have := lt_of_block HR.out
  have := lt_of_block HC.out
  omega)
 replace HA := sm h1 HA
 replace HR := sm h1 HR
 replace HC := sm h1 HC
 have HH := lh c_h
 have HBB := lh c_bb
 have HEE := lh c_ee
 have HP3 := lh (show (thenE [] (tRight a) fun _ => tInverse a) = _ from by rw [HP2.out, thenE_ok z1])
 have HLR := lh (show (tRelative a).1.1.length = 22 from (tRelative_len z1).trans HL.out)
 obtain ⟨r, hr0⟩ : ∃ x, (tRelative a).1 = x := ⟨_, rfl⟩
 try rw [hr0] at HA
 try rw [hr0] at HR
 try rw [hr0] at HC
 try rw [hr0] at HH
 try rw [hr0] at HBB
 try rw [hr0] at HEE
 try rw [hr0] at HP3
 try rw [hr0] at HLR
 replace HM := lh (HM.out.stepM h1 (by simp))
 clear h1 k_h g_h c_h k_bb g_bb c_bb k_ee g_ee c_ee z1 hr0
 refine HK5.out _ _ ?_
 refine wsk fun K6 HK6 => ?_
 refine wp_cut_mergeP (n8 (n8 (n8 (nn :: nn :: nn :: nn :: nn :: nn :: some 30 :: some 31 :: some 32 :: some 33 :: some 34 :: n8 (n8 (n8 (nn :: nn :: nn :: nn :: []))))))) (fun _ w' => w' = V ∧ ¬ (r.2.2.1 ≤ 0)) (fun ch w' => ch = brk 7 ∧ (r.2.2.1 ≤ 0) ∧ w' = V) ?_ ?_ ?_
 ·intro Q2 hQ2 hP2
  have hq0 := cell_two0 HEE.out
  have hq1 := cell_two1 HEE.out
  go_wp2_with fail
  all_goals first | rfl | exact merge_meet hQ2 (by kernel_rfl) ⟨rfl, by simp_all <;> omega⟩ | exact hP2 _ _ _ ⟨rfl, by simp_all <;> omega, rfl⟩
 rotate_left
 ·rintro e l'' w' ⟨rfl, hz, rfl⟩
  have he : (thenE [] (tRight a) fun _ => tInverse a).2 = 7 := by rw [HP3.out, if_pos hz]
  exact ⟨rfl, .inr ⟨by rw [he]; first | decide | exact hz, by rw [he]⟩, by rw [← HBW.out]; exact HM.out.to0⟩
 rintro s6 V2 ⟨he, hz⟩
 replace he := he.symm
 subst he
 simp only [mergeL]
 have HP4 := lh (show (thenE [] (tRight a) fun _ => tInverse a) = _ from by rw [HP3.out, if_neg hz])
 clear hz
 refine HK6.out _ _ ?_
 refine wsk fun K8 HK8 => ?_
 refine wp_cut_mergeP (nn :: nn :: nn :: nn :: nn :: nn :: some 6 :: n8 (n8 (n8 (nn :: nn :: nn :: nn :: some 35 :: some 36 :: some 37 :: n8 (n8 (n8 (nn :: []))))))) (fun s w' => Mut [] V w' ∧ (∃ g : Nat, s 6 = .pointer (some ⟨g, 0, none⟩) ∧ V.heap.size ≤ g ∧ w'.heap[g]? = some (cobj 34 ((tSeries r.1 [4294967296, -4294967296, 4294967296, -4294967296, 4294967296] (zeroM.set 0 (-4294967296, -4294967296))).1))) ∧ (tSeries r.1 [4294967296, -4294967296, 4294967296, -4294967296, 4294967296] (zeroM.set 0 (-4294967296, -4294967296))).2 = 0) (fun ch w' => ch = brk (fstE [(tSeries r.1 [4294967296, -4294967296, 4294967296, -4294967296, 4294967296] (zeroM.set 0 (-4294967296, -4294967296))).2]) ∧ ¬ fstE [(tSeries r.1 [4294967296, -4294967296, 4294967296, -4294967296, 4294967296] (zeroM.set 0 (-4294967296, -4294967296))).2] = 0 ∧ Mut [] V w') ?_ ?_ ?_
 ·intro Q2 hQ2 hP2
  refine wpG ?_
  refine wp_region_G (b := false) (Pn := (fun ch w' => ch = brk (fstE [(tSeries r.1 [4294967296, -4294967296, 4294967296, -4294967296, 4294967296] (zeroM.set 0 (-4294967296, -4294967296))).2]) ∧ ¬ fstE [(tSeries r.1 [4294967296, -4294967296, 4294967296, -4294967296, 4294967296] (zeroM.set 0 (-4294967296, -4294967296))).2] = 0 ∧ Mut [] V w')) (Iw8 V A a b g0 r g1 g2 g3) (by kernel_rfl) (by kernel_rfl) ?_ ?_ ?_ ?_
  ·exact ⟨Mut.start _ false _, nB, nB, nB, nB, nB, nB⟩
  ·refine AllSP.cons ?_ (AllSP.cons ?_ (AllSP.cons ?_ (AllSP.cons ?_ (AllSP.cons ?_ AllSP.nil))))
   ·intro L s w2 h hk hd hn
    have s3 : s 3 = _ := hk 3 (by kernel_rfl)
    have kb := ((h.mu.same _ ((Array.getElem?_eq_some_iff.1 HH.out).1) (by simp)).trans HH.out)
    refine sP fun K hK => ?_
    exact rs_load rfl s3 (md_load kb HLR.out) (hK _ _ { h with e0 := fun _ => rfl })
   ·intro L s w2 h hk hd hn
    refine sP fun K hK => ?_
    go_simp
    exact hK _ _ { h with e1 := fun _ => rfl }
   ·intro L s w2 h hk hd hn
    have s35 := h.e0 hd.1
    have s36 := h.e1 hd.2.1
    refine sP fun K hK => ?_
    go_simp
    refine (tay_series r.1 HLR.out (-4294967296) 4294967296 (-4294967296) 4294967296 (-4294967296) 4294967296 (by decide +kernel) _).mono ?_
    rintro e w3 ⟨⟨hz, rfl⟩ | ⟨hz, rfl⟩, hb⟩
    ·exact .inl ⟨_, rfl, hK _ _ { h with mu := h.mu.step hb, al_m := fun a => let ⟨g, h0, h1, hl, h2, h3⟩ := h.al_m a; ⟨g, h0, h1, Nat.lt_of_lt_of_le hl hb.size, fun c => (hb.block _ (lt_of_block (h2 c))).trans (h2 c), fun c => (hb.block _ (lt_of_block (h3 c))).trans (h3 c)⟩, e2 := fun _ => rfl, z2 := fun _ => hz }⟩
    ·exact .inr ⟨_, rfl, congrArg brk (show (tSeries r.1 [4294967296, -4294967296, 4294967296, -4294967296, 4294967296] (zeroM.set 0 (-4294967296, -4294967296))).2 = fstE [(tSeries r.1 [4294967296, -4294967296, 4294967296, -4294967296, 4294967296] (zeroM.set 0 (-4294967296, -4294967296))).2] from (by rw [fstE_1 (show ¬ (tSeries r.1 [4294967296, -4294967296, 4294967296, -4294967296, 4294967296] (zeroM.set 0 (-4294967296, -4294967296))).2 = 0 from hz)])), (show ¬ fstE [(tSeries r.1 [4294967296, -4294967296, 4294967296, -4294967296, 4294967296] (zeroM.set 0 (-4294967296, -4294967296))).2] = 0 from (by rw [fstE_1 (show ¬ (tSeries r.1 [4294967296, -4294967296, 4294967296, -4294967296, 4294967296] (zeroM.set 0 (-4294967296, -4294967296))).2 = 0 from hz)]; exact hz)), h.mu.step hb⟩
   ·intro L s w2 h hk hd hn
    refine sP fun K hK => ?_
    go_simp
    exact hK _ _ { h with mu := h.mu.alloc _, al_m := fun _ => ⟨_, rfl, h.mu.size, by simp, fun _ => heap_at _ rfl, fun a => absurd (h.b4_3 a) (by rw [hn]; exact bft)⟩, b4_3 := fun _ => rfl }
   ·intro L s w2 h hk hd hn
    have s37 := h.e2 hd.2.1
    obtain ⟨g, hg0, hg1, hgl, hg2, hg3⟩ := h.al_m hd.1
    have kb := hg2 hn
    refine sP fun K hK => ?_
    exact rs_store rfl hg0 s37 (md_store kb rfl _ (tSeries_len (by simp [zeroM]) (h.z2 hd.2.1))) (hK _ _ { h with mu := h.mu.putNew hg1 _, al_m := fun a => ⟨g, hg0, hg1, by simpa using hgl, nF, fun _ => pH kb⟩, b4_3 := fun _ => hd.1 })
  ·intro L s w2 h hk hl
   refine cA ?_ (hQ2 s w2 (⟨h.mu, (let ⟨g, h0, h1, _, _, h3⟩ := h.al_m (hl 3 (by decide)); ⟨g, h0, h1, h3 (hl 4 (by decide))⟩), h.z2 (hl 2 (by decide))⟩))
   exact frame_eq hk (by kernel_rfl) (by kernel_rfl)
  ·intro c s w2 hc
   exact hP2 _ _ _ hc
 rotate_left
 ·rintro e l'' w' ⟨rfl, hz, h2⟩
  have he : (thenE [] (tRight a) fun _ => tInverse a).2 = fstE [(tSeries r.1 [4294967296, -4294967296, 4294967296, -4294967296, 4294967296] (zeroM.set 0 (-4294967296, -4294967296))).2] := by
   have h := hz
   rw [HP4.out]
   first | exact thenE_fst1 h | exact fstE_one.symm | exact fstE_one.symm
  rw [← he] at hz ⊢
  exact ⟨rfl, .inr ⟨hz, rfl⟩, (by rw [← HBW.out]; exact (HM.out.stepM h2 (by simp)).to0)⟩
 rintro s8 V ⟨h1, ⟨g4, k_m, g_m, c_m⟩, z1⟩
 simp only [mergeL]
 rw [k_m]
 replace HLT := lh (show b ≤ g4 ∧ A < g4 ∧ b < g4 ∧ g0 < g4 ∧ g1 < g4 ∧ g2 < g4 ∧ g3 < g4 ∧ b ≤ g1 ∧ b ≤ g2 ∧ b ≤ g3 ∧ A < g1 ∧ b < g1 ∧ g0 < g1 ∧ A < g2 ∧ b < g2 ∧ g0 < g2 ∧ A < g3 ∧ b < g3 ∧ g0 < g3 ∧ b ≤ g0 ∧ A < g0 ∧ b < g0 ∧ A < b from by
  have hlt := HLT.out
  have hbw := HM.out.size
  have hbw2 := HBW.out
  have := lt_of_block HA.out
  have := lt_of_block HR.out
  have := lt_of_block HC.out
  have := lt_of_block HH.out
  have := lt_of_block HBB.out
  have := lt_of_block HEE.out
  omega)
 replace HA := sm h1 HA
 replace HR := sm h1 HR
 replace HC := sm h1 HC
 replace HH := sm h1 HH
 replace HBB := sm h1 HBB
 replace HEE := sm h1 HEE
 have HMM := lh c_m
 have HP5 := lh (show (thenE [] (tRight a) fun _ => tInverse a) = _ from by rw [HP4.out, thenE_ok z1])
 have HLM := lh (show (tSeries r.1 [4294967296, -4294967296, 4294967296, -4294967296, 4294967296] (zeroM.set 0 (-4294967296, -4294967296))).1.length = 22 from tSeries_len (by simp [zeroM]) z1)
 obtain ⟨m, hr0⟩ : ∃ x, (tSeries r.1 [4294967296, -4294967296, 4294967296, -4294967296, 4294967296] (zeroM.set 0 (-4294967296, -4294967296))).1 = x := ⟨_, rfl⟩
 try rw [hr0] at HA
 try rw [hr0] at HR
 try rw [hr0] at HC
 try rw [hr0] at HH
 try rw [hr0] at HBB
 try rw [hr0] at HEE
 try rw [hr0] at HMM
 try rw [hr0] at HP5
 try rw [hr0] at HLM
 replace HM := lh (HM.out.stepM h1 (by simp))
 clear h1 k_m g_m c_m z1 hr0
 refine HK8.out _ _ ?_
 refine wsk fun K9 HK9 => ?_
 refine wp_cut_mergeP (nn :: nn :: nn :: nn :: nn :: nn :: nn :: some 7 :: n8 (n8 (n8 (nn :: nn :: nn :: nn :: nn :: nn :: some 38 :: some 39 :: some 40 :: some 41 :: some 42 :: n8 (n8 (nn :: nn :: nn :: nn :: [])))))) (fun s w' => Mut [] V w' ∧ (∃ g : Nat, s 7 = .pointer (some ⟨g, 0, none⟩) ∧ V.heap.size ≤ g ∧ w'.heap[g]? = some (cobj 31 [(sPow r.2.1 6).1])) ∧ ((sPow (r.2.1) (6))).2 = 0) (fun ch w' => ch = brk (fstE [((sPow (r.2.1) (6))).2]) ∧ ¬ fstE [((sPow (r.2.1) (6))).2] = 0 ∧ Mut [] V w') ?_ ?_ ?_
 ·intro Q2 hQ2 hP2
  refine wpG ?_
  refine wp_region_G (b := false) (Pn := (fun ch w' => ch = brk (fstE [((sPow (r.2.1) (6))).2]) ∧ ¬ fstE [((sPow (r.2.1) (6))).2] = 0 ∧ Mut [] V w')) (Iw9 V A a b g0 r g1 g2 g3 m g4) (by kernel_rfl) (by kernel_rfl) ?_ ?_ ?_ ?_
  ·exact ⟨Mut.start _ false _, nB, nB, nB, nB, nB, nB, nB, nB⟩
  ·refine AllSP.cons ?_ (AllSP.cons ?_ (AllSP.cons ?_ (AllSP.cons ?_ (AllSP.cons ?_ (AllSP.cons ?_ (AllSP.cons ?_ AllSP.nil))))))
   ·intro L s w2 h hk hd hn
    have s4 : s 4 = _ := hk 4 (by kernel_rfl)
    have kb := ((h.mu.same _ ((Array.getElem?_eq_some_iff.1 HBB.out).1) (by simp)).trans HBB.out)
    refine sP fun K hK => ?_
    exact rs_load rfl s4 (sp_load (p := 0) kb (by simp)) (hK _ _ { h with e0 := fun _ => rfl })
   ·intro L s w2 h hk hd hn
    have s38 := h.e0 hd.1
    refine sP fun K hK => ?_
    go_simp
    refine (tm_pow (r.2.1) (6) _).mono ?_
    rintro e w3 ⟨rfl, hb⟩
    exact .inl ⟨_, rfl, hK _ _ { h with mu := h.mu.step hb, al_sx := fun a => let ⟨g, h0, h1, hl, h2, h3⟩ := h.al_sx a; ⟨g, h0, h1, Nat.lt_of_lt_of_le hl hb.size, fun c => (hb.block _ (lt_of_block (h2 c))).trans (h2 c), fun c => (hb.block _ (lt_of_block (h3 c))).trans (h3 c)⟩, e1 := fun _ => rfl }⟩
   ·intro L s w2 h hk hd hn
    have s39 := h.e1 hd.1
    refine sP fun K hK => ?_
    exact rs_extract rfl s39 rfl (hK _ _ { h with e2 := fun _ => rfl })
   ·intro L s w2 h hk hd hn
    have s39 := h.e1 hd.1
    refine sP fun K hK => ?_
    exact rs_extract rfl s39 rfl (hK _ _ { h with e3 := fun _ => rfl })
   ·intro L s w2 h hk hd hn
    have s40 := h.e2 hd.1
    have s41 := h.e3 hd.2.1
    refine sP fun K hK => ?_
    go_simp
    refine (tm_must (((sPow (r.2.1) (6))).1) (((sPow (r.2.1) (6))).2) _).mono ?_
    rintro e w3 ⟨⟨hz, rfl⟩ | ⟨hz, rfl⟩, hb⟩
    ·exact .inl ⟨_, rfl, hK _ _ { h with mu := h.mu.step hb, al_sx := fun a => let ⟨g, h0, h1, hl, h2, h3⟩ := h.al_sx a; ⟨g, h0, h1, Nat.lt_of_lt_of_le hl hb.size, fun c => (hb.block _ (lt_of_block (h2 c))).trans (h2 c), fun c => (hb.block _ (lt_of_block (h3 c))).trans (h3 c)⟩, e4 := fun _ => rfl, z4 := fun _ => hz }⟩
    ·exact .inr ⟨_, rfl, congrArg brk (show ((sPow (r.2.1) (6))).2 = fstE [((sPow (r.2.1) (6))).2] from (by rw [fstE_1 (show ¬ ((sPow (r.2.1) (6))).2 = 0 from hz)])), (show ¬ fstE [((sPow (r.2.1) (6))).2] = 0 from (by rw [fstE_1 (show ¬ ((sPow (r.2.1) (6))).2 = 0 from hz)]; exact hz)), h.mu.step hb⟩
   ·intro L s w2 h hk hd hn
    refine sP fun K hK => ?_
    go_simp
    exact hK _ _ { h with mu := h.mu.alloc _, al_sx := fun _ => ⟨_, rfl, h.mu.size, by simp, fun _ => heap_at _ rfl, fun a => absurd (h.b6_5 a) (by rw [hn]; exact bft)⟩, b6_5 := fun _ => rfl }
   ·intro L s w2 h hk hd hn
    have s42 := h.e4 hd.2.1
    obtain ⟨g, hg0, hg1, hgl, hg2, hg3⟩ := h.al_sx hd.1
    have kb := hg2 hn
    refine sP fun K hK => ?_
    exact rs_store rfl hg0 s42 (sp_store (p := 0) kb (by simp) ((sPow r.2.1 6).1)) (hK _ _ { h with mu := h.mu.putNew hg1 _, al_sx := fun a => ⟨g, hg0, hg1, by simpa using hgl, nF, fun _ => pH kb⟩, b6_5 := fun _ => hd.1 })
  ·intro L s w2 h hk hl
   refine cA ?_ (hQ2 s w2 (⟨h.mu, (let ⟨g, h0, h1, _, _, h3⟩ := h.al_sx (hl 5 (by decide)); ⟨g, h0, h1, h3 (hl 6 (by decide))⟩), h.z4 (hl 4 (by decide))⟩))
   exact frame_eq hk (by kernel_rfl) (by kernel_rfl)
  ·intro c s w2 hc
   exact hP2 _ _ _ hc
 rotate_left
 ·rintro e l'' w' ⟨rfl, hz, h2⟩
  have he : (thenE [] (tRight a) fun _ => tInverse a).2 = fstE [((sPow (r.2.1) (6))).2] := by
   have h := hz
   rw [HP5.out]
   first | exact thenE_fst1 h | exact fstE_one.symm | exact fstE_one.symm
  rw [← he] at hz ⊢
  exact ⟨rfl, .inr ⟨hz, rfl⟩, (by rw [← HBW.out]; exact (HM.out.stepM h2 (by simp)).to0)⟩
 rintro s9 V ⟨h1, ⟨g5, k_sx, g_sx, c_sx⟩, z1⟩
 simp only [mergeL]
 rw [k_sx]
 replace HLT := lh (show b ≤ g5 ∧ A < g5 ∧ b < g5 ∧ g0 < g5 ∧ g1 < g5 ∧ g2 < g5 ∧ g3 < g5 ∧ g4 < g5 ∧ b ≤ g4 ∧ A < g4 ∧ b < g4 ∧ g0 < g4 ∧ g1 < g4 ∧ g2 < g4 ∧ g3 < g4 ∧ b ≤ g1 ∧ b ≤ g2 ∧ b ≤ g3 ∧ A < g1 ∧ b < g1 ∧ g0 < g1 ∧ A < g2 ∧ b < g2 ∧ g0 < g2 ∧ A < g3 ∧ b < g3 ∧ g0 < g3 ∧ b ≤ g0 ∧ A < g0 ∧ b < g0 ∧ A < b from by
  have hlt := HLT.out
  have hbw := HM.out.size
  have hbw2 := HBW.out
  have := lt_of_block HA.out
  have := lt_of_block HR.out
  have := lt_of_block HC.out
  have := lt_of_block HH.out
  have := lt_of_block HBB.out
  have := lt_of_block HEE.out
  have := lt_of_block HMM.out
  omega)
 replace HA := sm h1 HA
 replace HR := sm h1 HR
 replace HC := sm h1 HC
 replace HH := sm h1 HH
 replace HBB := sm h1 HBB
 replace HEE := sm h1 HEE
 replace HMM := sm h1 HMM
 have HSX := lh c_sx
 have HP6 := lh (show (thenE [] (tRight a) fun _ => tInverse a) = _ from by rw [HP5.out, thenE_ok z1])
 obtain ⟨sx, hr0⟩ : ∃ x, (sPow r.2.1 6).1 = x := ⟨_, rfl⟩
 try rw [hr0] at HA
 try rw [hr0] at HR
 try rw [hr0] at HC
 try rw [hr0] at HH
 try rw [hr0] at HBB
 try rw [hr0] at HEE
 try rw [hr0] at HMM
 try rw [hr0] at HSX
 try rw [hr0] at HP6
 replace HM := lh (HM.out.stepM h1 (by simp))
 clear h1 k_sx g_sx c_sx z1 hr0
 refine HK9.out _ _ ?_
 refine wsk fun K10 HK10 => ?_
 refine wp_cut_mergeP (n8 (n8 (n8 (n8 (n8 (nn :: nn :: nn :: some 43 :: some 44 :: some 45 :: some 46 :: some 47 :: some 48 :: some 49 :: some 50 :: some 51 :: some 52 :: some 53 :: some 54 :: some 55 :: some 56 :: some 57 :: some 58 :: some 59 :: nn :: nn :: nn :: [])))))) (fun _ w' => Mut [g4] V w' ∧ w'.heap[g4]? = some (cobj 34 (m.set 21 (sAdd (tAt m 21) (sDiv sx (sPow r.2.2 7).1).1).1)) ∧ ((sPow (r.2.2) (7))).2 = 0 ∧ ((sDiv (sx) (((sPow (r.2.2) (7))).1))).2 = 0 ∧ ((sAdd (tAt m 21) (((sDiv (sx) (((sPow (r.2.2) (7))).1))).1))).2 = 0) (fun ch w' => ch = brk (fstE [((sPow (r.2.2) (7))).2, ((sDiv (sx) (((sPow (r.2.2) (7))).1))).2, ((sAdd (tAt m 21) (((sDiv (sx) (((sPow (r.2.2) (7))).1))).1))).2]) ∧ ¬ fstE [((sPow (r.2.2) (7))).2, ((sDiv (sx) (((sPow (r.2.2) (7))).1))).2, ((sAdd (tAt m 21) (((sDiv (sx) (((sPow (r.2.2) (7))).1))).1))).2] = 0 ∧ Mut [g4] V w') ?_ ?_ ?_
 ·intro Q2 hQ2 hP2
  refine wpG ?_
  refine wp_region_G (b := true) (Pn := (fun ch w' => ch = brk (fstE [((sPow (r.2.2) (7))).2, ((sDiv (sx) (((sPow (r.2.2) (7))).1))).2, ((sAdd (tAt m 21) (((sDiv (sx) (((sPow (r.2.2) (7))).1))).1))).2]) ∧ ¬ fstE [((sPow (r.2.2) (7))).2, ((sDiv (sx) (((sPow (r.2.2) (7))).1))).2, ((sAdd (tAt m 21) (((sDiv (sx) (((sPow (r.2.2) (7))).1))).1))).2] = 0 ∧ Mut [g4] V w')) (Iw10 V A a b g0 r g1 g2 g3 m g4 sx g5) (by kernel_rfl) (by kernel_rfl) ?_ ?_ ?_ ?_
  ·exact ⟨Mut.start _ true _, fun _ => HMM.out, nB, nB, nB, nB, nB, nB, nB, nB, nB, nB, nB, nB, nB, nB, nB, nB, nB, nB, nB, nB, nB, nB, nB, nB, nB, nB, nB, nB, nB⟩
  ·refine AllSP.cons ?_ (AllSP.cons ?_ (AllSP.cons ?_ (AllSP.cons ?_ (AllSP.cons ?_ (AllSP.cons ?_ (AllSP.cons ?_ (AllSP.cons ?_ (AllSP.cons ?_ (AllSP.cons ?_ (AllSP.cons ?_ (AllSP.cons ?_ (AllSP.cons ?_ (AllSP.cons ?_ (AllSP.cons ?_ (AllSP.cons ?_ (AllSP.cons ?_ (AllSP.cons ?_ AllSP.nil)))))))))))))))))
   ·intro L s w2 h hk hd hn
    have s6 : s 6 = _ := hk 6 (by kernel_rfl)
    refine sP fun K hK => ?_
    exact rs_field rfl s6 (fl_model1 _ _) (hK _ _ { h with e0 := fun _ => rfl })
   ·intro L s w2 h hk hd hn
    have s43 := h.e0 hd.1
    have kb := (h.kt_m (bF h.b17_1 hn))
    refine sP fun K hK => ?_
    exact rs_load rfl s43 (sp_load (p := 21) kb (by have := (HLM.out : m.length = 22); omega)) (hK _ _ { h with e1 := fun _ => rfl, b17_1 := fun _ => rfl })
   ·intro L s w2 h hk hd hn
    have s7 : s 7 = _ := hk 7 (by kernel_rfl)
    have kb := ((h.mu.same _ ((Array.getElem?_eq_some_iff.1 HSX.out).1) (notin1 (by have := HLT.out; omega))).trans HSX.out)
    refine sP fun K hK => ?_
    exact rs_load rfl s7 (sp_load (p := 0) kb (by simp)) (hK _ _ { h with e2 := fun _ => rfl })
   ·intro L s w2 h hk hd hn
    have s5 : s 5 = _ := hk 5 (by kernel_rfl)
    have kb := ((h.mu.same _ ((Array.getElem?_eq_some_iff.1 HEE.out).1) (notin1 (by have := HLT.out; omega))).trans HEE.out)
    refine sP fun K hK => ?_
    exact rs_load rfl s5 (sp_load (p := 0) kb (by simp)) (hK _ _ { h with e3 := fun _ => rfl })
   ·intro L s w2 h hk hd hn
    have s46 := h.e3 hd.1
    refine sP fun K hK => ?_
    go_simp
    refine (tm_pow (r.2.2) (7) _).mono ?_
    rintro e w3 ⟨rfl, hb⟩
    exact .inl ⟨_, rfl, hK _ _ { h with mu := h.mu.step hb, kt_m := fun a => bk hb (h.kt_m a), kr_m := fun a => bk hb (h.kr_m a), e4 := fun _ => rfl }⟩
   ·intro L s w2 h hk hd hn
    have s47 := h.e4 hd.1
    refine sP fun K hK => ?_
    exact rs_extract rfl s47 rfl (hK _ _ { h with e5 := fun _ => rfl })
   ·intro L s w2 h hk hd hn
    have s47 := h.e4 hd.1
    refine sP fun K hK => ?_
    exact rs_extract rfl s47 rfl (hK _ _ { h with e6 := fun _ => rfl })
   ·intro L s w2 h hk hd hn
    have s48 := h.e5 hd.1
    have s49 := h.e6 hd.2.1
    refine sP fun K hK => ?_
    go_simp
    refine (tm_must (((sPow (r.2.2) (7))).1) (((sPow (r.2.2) (7))).2) _).mono ?_
    rintro e w3 ⟨⟨hz, rfl⟩ | ⟨hz, rfl⟩, hb⟩
    ·exact .inl ⟨_, rfl, hK _ _ { h with mu := h.mu.step hb, kt_m := fun a => bk hb (h.kt_m a), kr_m := fun a => bk hb (h.kr_m a), e7 := fun _ => rfl, z7 := fun _ => hz }⟩
    ·exact .inr ⟨_, rfl, congrArg brk (show ((sPow (r.2.2) (7))).2 = fstE [((sPow (r.2.2) (7))).2, ((sDiv (sx) (((sPow (r.2.2) (7))).1))).2, ((sAdd (tAt m 21) (((sDiv (sx) (((sPow (r.2.2) (7))).1))).1))).2] from (by rw [fstE_1 (show ¬ ((sPow (r.2.2) (7))).2 = 0 from hz)])), (show ¬ fstE [((sPow (r.2.2) (7))).2, ((sDiv (sx) (((sPow (r.2.2) (7))).1))).2, ((sAdd (tAt m 21) (((sDiv (sx) (((sPow (r.2.2) (7))).1))).1))).2] = 0 from (by rw [fstE_1 (show ¬ ((sPow (r.2.2) (7))).2 = 0 from hz)]; exact hz)), h.mu.step hb⟩
   ·intro L s w2 h hk hd hn
    have s45 := h.e2 hd.1
    have s50 := h.e7 hd.2.1
    refine sP fun K hK => ?_
    go_simp
    refine (tm_div (sx) (((sPow (r.2.2) (7))).1) _).mono ?_
    rintro e w3 ⟨rfl, hb⟩
    exact .inl ⟨_, rfl, hK _ _ { h with mu := h.mu.step hb, kt_m := fun a => bk hb (h.kt_m a), kr_m := fun a => bk hb (h.kr_m a), e8 := fun _ => rfl, q8_7 := fun _ => h.z7 hd.2.1 }⟩
   ·intro L s w2 h hk hd hn
    have s51 := h.e8 hd.1
    refine sP fun K hK => ?_
    exact rs_extract rfl s51 rfl (hK _ _ { h with e9 := fun _ => rfl, q9_7 := fun _ => h.q8_7 hd.1 })
   ·intro L s w2 h hk hd hn
    have s51 := h.e8 hd.1
    refine sP fun K hK => ?_
    exact rs_extract rfl s51 rfl (hK _ _ { h with e10 := fun _ => rfl })
   ·intro L s w2 h hk hd hn
    have s52 := h.e9 hd.1
    have s53 := h.e10 hd.2.1
    refine sP fun K hK => ?_
    go_simp
    refine (tm_must (((sDiv (sx) (((sPow (r.2.2) (7))).1))).1) (((sDiv (sx) (((sPow (r.2.2) (7))).1))).2) _).mono ?_
    rintro e w3 ⟨⟨hz, rfl⟩ | ⟨hz, rfl⟩, hb⟩
    ·exact .inl ⟨_, rfl, hK _ _ { h with mu := h.mu.step hb, kt_m := fun a => bk hb (h.kt_m a), kr_m := fun a => bk hb (h.kr_m a), e11 := fun _ => rfl, z11 := fun _ => hz, q11_7 := fun _ => h.q9_7 hd.1 }⟩
    ·exact .inr ⟨_, rfl, congrArg brk (show ((sDiv (sx) (((sPow (r.2.2) (7))).1))).2 = fstE [((sPow (r.2.2) (7))).2, ((sDiv (sx) (((sPow (r.2.2) (7))).1))).2, ((sAdd (tAt m 21) (((sDiv (sx) (((sPow (r.2.2) (7))).1))).1))).2] from (by rw [fstE_0 (show ((sPow (r.2.2) (7))).2 = 0 from h.q9_7 hd.1), fstE_1 (show ¬ ((sDiv (sx) (((sPow (r.2.2) (7))).1))).2 = 0 from hz)])), (show ¬ fstE [((sPow (r.2.2) (7))).2, ((sDiv (sx) (((sPow (r.2.2) (7))).1))).2, ((sAdd (tAt m 21) (((sDiv (sx) (((sPow (r.2.2) (7))).1))).1))).2] = 0 from (by rw [fstE_0 (show ((sPow (r.2.2) (7))).2 = 0 from h.q9_7 hd.1), fstE_1 (show ¬ ((sDiv (sx) (((sPow (r.2.2) (7))).1))).2 = 0 from hz)]; exact hz)), h.mu.step hb⟩
   ·intro L s w2 h hk hd hn
    have s44 := h.e1 hd.1
    have s54 := h.e11 hd.2.1
    refine sP fun K hK => ?_
    go_simp
    refine (tm_add (tAt m 21) (((sDiv (sx) (((sPow (r.2.2) (7))).1))).1) _).mono ?_
    rintro e w3 ⟨rfl, hb⟩
    exact .inl ⟨_, rfl, hK _ _ { h with mu := h.mu.step hb, kt_m := fun a => bk hb (h.kt_m a), kr_m := fun a => bk hb (h.kr_m a), e12 := fun _ => rfl, q12_11 := fun _ => h.z11 hd.2.1, q12_7 := fun _ => h.q11_7 hd.2.1 }⟩
   ·intro L s w2 h hk hd hn
    have s55 := h.e12 hd.1
    refine sP fun K hK => ?_
    exact rs_extract rfl s55 rfl (hK _ _ { h with e13 := fun _ => rfl, q13_11 := fun _ => h.q12_11 hd.1, q13_7 := fun _ => h.q12_7 hd.1 })
   ·intro L s w2 h hk hd hn
    have s55 := h.e12 hd.1
    refine sP fun K hK => ?_
    exact rs_extract rfl s55 rfl (hK _ _ { h with e14 := fun _ => rfl })
   ·intro L s w2 h hk hd hn
    have s56 := h.e13 hd.1
    have s57 := h.e14 hd.2.1
    refine sP fun K hK => ?_
    go_simp
    refine (tm_must (((sAdd (tAt m 21) (((sDiv (sx) (((sPow (r.2.2) (7))).1))).1))).1) (((sAdd (tAt m 21) (((sDiv (sx) (((sPow (r.2.2) (7))).1))).1))).2) _).mono ?_
    rintro e w3 ⟨⟨hz, rfl⟩ | ⟨hz, rfl⟩, hb⟩
    ·exact .inl ⟨_, rfl, hK _ _ { h with mu := h.mu.step hb, kt_m := fun a => bk hb (h.kt_m a), kr_m := fun a => bk hb (h.kr_m a), e15 := fun _ => rfl, z15 := fun _ => hz }⟩
    ·exact .inr ⟨_, rfl, congrArg brk (show ((sAdd (tAt m 21) (((sDiv (sx) (((sPow (r.2.2) (7))).1))).1))).2 = fstE [((sPow (r.2.2) (7))).2, ((sDiv (sx) (((sPow (r.2.2) (7))).1))).2, ((sAdd (tAt m 21) (((sDiv (sx) (((sPow (r.2.2) (7))).1))).1))).2] from (by rw [fstE_0 (show ((sPow (r.2.2) (7))).2 = 0 from h.q13_7 hd.1), fstE_0 (show ((sDiv (sx) (((sPow (r.2.2) (7))).1))).2 = 0 from h.q13_11 hd.1), fstE_1 (show ¬ ((sAdd (tAt m 21) (((sDiv (sx) (((sPow (r.2.2) (7))).1))).1))).2 = 0 from hz)])), (show ¬ fstE [((sPow (r.2.2) (7))).2, ((sDiv (sx) (((sPow (r.2.2) (7))).1))).2, ((sAdd (tAt m 21) (((sDiv (sx) (((sPow (r.2.2) (7))).1))).1))).2] = 0 from (by rw [fstE_0 (show ((sPow (r.2.2) (7))).2 = 0 from h.q13_7 hd.1), fstE_0 (show ((sDiv (sx) (((sPow (r.2.2) (7))).1))).2 = 0 from h.q13_11 hd.1), fstE_1 (show ¬ ((sAdd (tAt m 21) (((sDiv (sx) (((sPow (r.2.2) (7))).1))).1))).2 = 0 from hz)]; exact hz)), h.mu.step hb⟩
   ·intro L s w2 h hk hd hn
    have s6 : s 6 = _ := hk 6 (by kernel_rfl)
    refine sP fun K hK => ?_
    exact rs_field rfl s6 (fl_model1 _ _) (hK _ _ { h with e16 := fun _ => rfl })
   ·intro L s w2 h hk hd hn
    have s59 := h.e16 hd.1
    have s58 := h.e15 hd.2.1
    have kb := h.kt_m hn
    refine sP fun K hK => ?_
    exact rs_store rfl s59 s58 (sp_store (p := 21) kb (by have := (HLM.out : m.length = 22); omega) (((sAdd (tAt m 21) (((sDiv (sx) (((sPow (r.2.2) (7))).1))).1))).1)) (hK _ _ { h with mu := h.mu.put (List.Mem.head _) _, kt_m := nF, kr_m := fun _ => pH kb, b17_1 := fun _ => hd.2.2.2.2.1 })
  ·intro L s w2 h hk hl
   refine cA ?_ (hQ2 s w2 (⟨h.mu, h.kr_m (hl 17 (by decide)), h.z7 (hl 7 (by decide)), h.z11 (hl 11 (by decide)), h.z15 (hl 15 (by decide))⟩))
   exact frame_eq hk (by kernel_rfl) (by kernel_rfl)
  ·intro c s w2 hc
   exact hP2 _ _ _ hc
 rotate_left
 ·rintro e l'' w' ⟨rfl, hz, h2⟩
  have he : (thenE [] (tRight a) fun _ => tInverse a).2 = fstE [((sPow (r.2.2) (7))).2, ((sDiv (sx) (((sPow (r.2.2) (7))).1))).2, ((sAdd (tAt m 21) (((sDiv (sx) (((sPow (r.2.2) (7))).1))).1))).2] := by
   have h := hz
   rw [HP6.out]
   first | exact thenE_fstC h fun _ h => thenE_fstC h fun _ h => thenE_fst1 h | exact fstE_one.symm | exact thenE_fstC h fun _ h => thenE_fstC h fun _ h => fstE_one.symm
  rw [← he] at hz ⊢
  exact ⟨rfl, .inr ⟨hz, rfl⟩, (by rw [← HBW.out]; exact (HM.out.stepM h2 (by have := HBW.out; have := HLT.out; intro x hx; simp at hx; right; omega)).to0)⟩
 rintro s10 V ⟨h1, c_m, z1, z2, z3⟩
 simp only [mergeL]
 replace HA := lh ((h1.same _ (lt_of_block HA.out) (notin1 (by have := HLT.out; omega))).trans HA.out)
 replace HR := lh ((h1.same _ (lt_of_block HR.out) (notin1 (by have := HLT.out; omega))).trans HR.out)
 replace HC := lh ((h1.same _ (lt_of_block HC.out) (notin1 (by have := HLT.out; omega))).trans HC.out)
 replace HH := lh ((h1.same _ (lt_of_block HH.out) (notin1 (by have := HLT.out; omega))).trans HH.out)
 replace HBB := lh ((h1.same _ (lt_of_block HBB.out) (notin1 (by have := HLT.out; omega))).trans HBB.out)
 replace HEE := lh ((h1.same _ (lt_of_block HEE.out) (notin1 (by have := HLT.out; omega))).trans HEE.out)
 replace HMM := lh c_m
 replace HSX := lh ((h1.same _ (lt_of_block HSX.out) (notin1 (by have := HLT.out; omega))).trans HSX.out)
 have HP7 := lh (show (thenE [] (tRight a) fun _ => tInverse a) = _ from by rw [HP6.out, thenE_ok z1, thenE_ok z2, thenE_ok z3])
 have HLQ := lh (show (m.set 21 (sAdd (tAt m 21) (sDiv sx (sPow r.2.2 7).1).1).1).length = 22 by rw [List.length_set]; exact HLM.out)
 obtain ⟨q, hr0⟩ : ∃ x, m.set 21 (sAdd (tAt m 21) (sDiv sx (sPow r.2.2 7).1).1).1 = x := ⟨_, rfl⟩
 try rw [hr0] at HA
 try rw [hr0] at HR
 try rw [hr0] at HC
 try rw [hr0] at HH
 try rw [hr0] at HBB
 try rw [hr0] at HEE
 try rw [hr0] at HMM
 try rw [hr0] at HSX
 try rw [hr0] at HP7
 try rw [hr0] at HLQ
 replace HM := lh (HM.out.stepM h1 (by have := HBW.out; have := HLT.out; intro x hx; simp at hx; right; omega))
 clear h1 c_m z1 z2 z3 hr0
 refine HK10.out _ _ ?_
 refine wsk fun K11 HK11 => ?_
 refine wp_cut_mergeP (n8 (n8 (n8 (n8 (n8 (n8 (n8 (nn :: nn :: nn :: nn :: some 60 :: some 61 :: some 62 :: [])))))))) (fun _ w' => Mut [b] V w' ∧ w'.heap[b]? = some (cobj 34 ((tBy sDiv q (tAt a 0)).1)) ∧ (tBy sDiv q (tAt a 0)).2 = 0) (fun ch w' => ch = brk (fstE [(tBy sDiv q (tAt a 0)).2]) ∧ ¬ fstE [(tBy sDiv q (tAt a 0)).2] = 0 ∧ Mut [b] V w') ?_ ?_ ?_
 ·intro Q2 hQ2 hP2
  refine wpG ?_
  refine wp_region_G (b := false) (Pn := (fun ch w' => ch = brk (fstE [(tBy sDiv q (tAt a 0)).2]) ∧ ¬ fstE [(tBy sDiv q (tAt a 0)).2] = 0 ∧ Mut [b] V w')) (Iw11 V A a b g0 r g1 g2 g3 m g4 sx g5 q) (by kernel_rfl) (by kernel_rfl) ?_ ?_ ?_ ?_
  ·exact ⟨Mut.start _ false _, fun _ => HR.out, nB, nB, nB, nB, nB⟩
  ·refine AllSP.cons ?_ (AllSP.cons ?_ (AllSP.cons ?_ (AllSP.cons ?_ AllSP.nil)))
   ·intro L s w2 h hk hd hn
    have s6 : s 6 = _ := hk 6 (by kernel_rfl)
    have kb := ((h.mu.same _ ((Array.getElem?_eq_some_iff.1 HMM.out).1) (notin1 (by have := HLT.out; omega))).trans HMM.out)
    refine sP fun K hK => ?_
    exact rs_load rfl s6 (md_load kb HLQ.out) (hK _ _ { h with e0 := fun _ => rfl })
   ·intro L s w2 h hk hd hn
    have s2 : s 2 = _ := hk 2 (by kernel_rfl)
    have kb := ((h.mu.same _ ((Array.getElem?_eq_some_iff.1 HC.out).1) (notin1 (by have := HLT.out; omega))).trans HC.out)
    refine sP fun K hK => ?_
    exact rs_load rfl s2 (sp_load (p := 0) kb (by simp)) (hK _ _ { h with e1 := fun _ => rfl })
   ·intro L s w2 h hk hd hn
    have s60 := h.e0 hd.1
    have s61 := h.e1 hd.2.1
    refine sP fun K hK => ?_
    go_simp
    refine (tay_by_Div q HLQ.out (tAt a 0) _).mono ?_
    rintro e w3 ⟨⟨hz, rfl⟩ | ⟨hz, rfl⟩, hb⟩
    ·exact .inl ⟨_, rfl, hK _ _ { h with mu := h.mu.step hb, kt_r := fun a => bk hb (h.kt_r a), kr_r := fun a => bk hb (h.kr_r a), e2 := fun _ => rfl, z2 := fun _ => hz }⟩
    ·exact .inr ⟨_, rfl, congrArg brk (show (tBy sDiv q (tAt a 0)).2 = fstE [(tBy sDiv q (tAt a 0)).2] from (by rw [fstE_1 (show ¬ (tBy sDiv q (tAt a 0)).2 = 0 from hz)])), (show ¬ fstE [(tBy sDiv q (tAt a 0)).2] = 0 from (by rw [fstE_1 (show ¬ (tBy sDiv q (tAt a 0)).2 = 0 from hz)]; exact hz)), h.mu.step hb⟩
   ·intro L s w2 h hk hd hn
    have s1 : s 1 = _ := hk 1 (by kernel_rfl)
    have s62 := h.e2 hd.1
    have kb := h.kt_r hn
    refine sP fun K hK => ?_
    exact rs_store rfl s1 s62 (md_store kb rfl _ ((tEach_len rfl (h.z2 hd.1)).trans HLQ.out)) (hK _ _ { h with mu := h.mu.put (List.Mem.head _) _, kt_r := nF, kr_r := fun _ => pH kb })
  ·intro L s w2 h hk hl
   refine cA ?_ (hQ2 s w2 (⟨h.mu, h.kr_r (hl 3 (by decide)), h.z2 (hl 2 (by decide))⟩))
   exact frame_eq hk (by kernel_rfl) (by kernel_rfl)
  ·intro c s w2 hc
   exact hP2 _ _ _ hc
 rotate_left
 ·rintro e l'' w' ⟨rfl, hz, h2⟩
  have he : (thenE [] (tRight a) fun _ => tInverse a).2 = fstE [(tBy sDiv q (tAt a 0)).2] := by
   have h := hz
   rw [HP7.out]
   first | exact thenE_fst1 h | exact fstE_one.symm | exact fstE_one.symm
  rw [← he] at hz ⊢
  exact ⟨rfl, .inr ⟨hz, rfl⟩, (by rw [← HBW.out]; exact (HM.out.stepM h2 (by have := HBW.out; have := HLT.out; intro x hx; simp at hx; right; omega)).to0)⟩
 rintro s11 V ⟨h1, c_r, z1⟩
 simp only [mergeL]
 replace HA := lh ((h1.same _ (lt_of_block HA.out) (notin1 (by have := HLT.out; omega))).trans HA.out)
 replace HR := lh c_r
 replace HC := lh ((h1.same _ (lt_of_block HC.out) (notin1 (by have := HLT.out; omega))).trans HC.out)
 replace HH := lh ((h1.same _ (lt_of_block HH.out) (notin1 (by have := HLT.out; omega))).trans HH.out)
 replace HBB := lh ((h1.same _ (lt_of_block HBB.out) (notin1 (by have := HLT.out; omega))).trans HBB.out)
 replace HEE := lh ((h1.same _ (lt_of_block HEE.out) (notin1 (by have := HLT.out; omega))).trans HEE.out)
 replace HMM := lh ((h1.same _ (lt_of_block HMM.out) (notin1 (by have := HLT.out; omega))).trans HMM.out)
 replace HSX := lh ((h1.same _ (lt_of_block HSX.out) (notin1 (by have := HLT.out; omega))).trans HSX.out)
 have HLO := lh (show (tBy sDiv q (tAt a 0)).1.length = 22 from (tEach_len rfl z1).trans HLQ.out)
 obtain ⟨o, hr0⟩ : ∃ x, (tBy sDiv q (tAt a 0)).1 = x := ⟨_, rfl⟩
 try rw [hr0] at HA
 try rw [hr0] at HR
 try rw [hr0] at HC
 try rw [hr0] at HH
 try rw [hr0] at HBB
 try rw [hr0] at HEE
 try rw [hr0] at HMM
 try rw [hr0] at HSX
 try rw [hr0] at HP7
 try rw [hr0] at HLO
 replace HM := lh (HM.out.stepM h1 (by have := HBW.out; have := HLT.out; intro x hx; simp at hx; right; omega))
 have HZ := lh z1
 have HO := lh hr0
 clear h1 c_r z1 hr0
 refine HK11.out _ _ ?_
 refine wp_ret ?_
 exact bodyPost_ret (v := mval o) (res_model Tryz.results38 rfl (md_loadVar HR.out HLO.out)) rfl ⟨.inl ⟨by rw [HP7.out]; exact HZ.out, by rw [HP7.out, HO.out]⟩, by rw [← HBW.out]; exact HM.out.to0⟩
end Go.Proofs.YthhkcfpljgdnhaaGreat
