/- The reference of layer 21: sweep. Printed by wip/genSU.py. -/
import Derived.Test.YthhkcfpljgdnhaaGreatRefTE
import Derived.Test.YthhkcfpljgdnhaaGreatRefTF
namespace Go.Proofs.YthhkcfpljgdnhaaGreat
open Go.RowKit Mnc
attribute [local go_sem] RunSP_value RunSP_skip RunSP_enter evS_tmp evS_const evS_global evS_func
theorem pairs_at : ∀ p : Fin 21, ∃ i j : Fin 6, tPairs.drop p.1 = (i.1, j.1) :: tPairs.drop (p.1 + 1) ∧ i.1 + j.1 ≤ 5 ∧ tPlace i.1 j.1 = p.1 := by decide +kernel
theorem pairs_at' {p : Nat} (hp : p < 21) : ∃ i j : Nat, tPairs.drop p = (i, j) :: tPairs.drop (p + 1) ∧ i + j ≤ 5 ∧ tPlace i j = p := by
 obtain ⟨i, j, h⟩ := pairs_at ⟨p, hp⟩
 exact ⟨i.1, j.1, h⟩
theorem rf_expsP {i j p : Nat} (hp : tPlace i j = p) (h : i + j ≤ 5) (w : World) : Calls Tryz.prog 67 #[.int .i64 (p : Int)] w fun e w' => e = .returned (.tuple #[.int .i64 (i : Int), .int .i64 (j : Int)]) ∧ Below w.heap.size w w' := by
 subst hp
 exact rf_exps i j h w
structure Zw5 (V : World) (p : Nat) (i : Nat) (j : Nat) (L : Nat → Bool) (s : Nat → Value) (w : World) : Prop where
 mu : Mut [] V w
 e0 : L 0 = true → s 14 = .int .i64 ((p : Nat) : Int)
 e1 : L 1 = true → s 15 = .tuple #[.int .i64 ((i : Nat) : Int), .int .i64 ((j : Nat) : Int)]
 e2 : L 2 = true → s 13 = .tuple #[.int .i64 ((i : Nat) : Int), .int .i64 ((j : Nat) : Int)]
 e3 : L 3 = true → s 16 = .int .i64 ((i : Nat) : Int)
 e4 : L 4 = true → s 17 = .int .i64 ((j : Nat) : Int)
 e5 : L 5 = true → s 7 = .int .i64 ((i : Nat) : Int)
 e6 : L 6 = true → s 8 = .int .i64 ((j : Nat) : Int)
structure Zw6 (V : World) (A : Nat) (a : List (Int × Int)) (b : Nat) (g0 : Nat) (t : (Int × Int)) (ee : Int) (p : Nat) (i : Nat) (j : Nat) (L : Nat → Bool) (s : Nat → Value) (w : World) : Prop where
 mu : Mut [g0, A] V w
 kt_s : L 12 = false → w.heap[g0]? = some (cobj 31 ([t]))
 kr_s : L 12 = true → w.heap[g0]? = some (cobj 31 ([(gt (gt ee (sMul (tAt a p) (tReach i j))).2 (sAdd t (gt ee (sMul (tAt a p) (tReach i j))).1)).1]))
 kg_c_0 : L 10 = false → w.heap[A]? = some (iobj 62 ee)
 kg_c_1 : L 10 = true → L 11 = false → w.heap[A]? = some (iobj 62 ((gt ee (sMul (tAt a p) (tReach i j))).2))
 kg_c_2 : L 11 = true → w.heap[A]? = some (iobj 62 ((gt ((gt ee (sMul (tAt a p) (tReach i j))).2) (sAdd t ((gt ee (sMul (tAt a p) (tReach i j))).1))).2))
 e0 : L 0 = true → s 18 = .pointer (some ⟨A, 0, none⟩)
 e1 : L 1 = true → s 19 = sval t
 e2 : L 2 = true → s 20 = .pointer (some ⟨A, 0, none⟩)
 e3 : L 3 = true → s 21 = .int .i64 ((p : Nat) : Int)
 e4 : L 4 = true → s 22 = .pointer (some ⟨b, 0, none⟩)
 e5 : L 5 = true → s 23 = .pointer (some ⟨b, p * 2, none⟩)
 e6 : L 6 = true → s 24 = sval (tAt a p)
 e7 : L 7 = true → s 25 = .int .i64 ((i : Nat) : Int)
 e8 : L 8 = true → s 26 = .int .i64 ((j : Nat) : Int)
 e9 : L 9 = true → s 27 = sval (tReach i j)
 e10 : L 10 = true → s 28 = sval ((gt ee (sMul (tAt a p) (tReach i j))).1)
 e11 : L 11 = true → s 29 = sval ((gt ((gt ee (sMul (tAt a p) (tReach i j))).2) (sAdd t ((gt ee (sMul (tAt a p) (tReach i j))).1))).1)
 b12_1 : L 12 = true → L 1 = true
 b11_10 : L 11 = true → L 10 = true
structure Zw7 (V : World) (b : Nat) (t : (Int × Int)) (L : Nat → Bool) (s : Nat → Value) (w : World) : Prop where
 mu : Mut [b + 1] V w
 kt_r : L 1 = false → w.heap[b + 1]? = some (cobj 31 ([(0, 0)]))
 kr_r : L 1 = true → w.heap[b + 1]? = some (cobj 31 ([t]))
 e0 : L 0 = true → s 30 = sval t
set_option maxRecDepth 100000 in
set_option maxHeartbeats 4000000 in
theorem rf_sweep (A : Nat) (e : Int) (a : List (Int × Int)) (ha : a.length = 22) (w : World) (h : w.heap[A]? = some (iobj 62 e)) :
  Calls Tryz.prog 70 #[.pointer (some ⟨A, 0, none⟩), mval a] w fun r w' => r = .returned (sval (gt e (tSweep a)).1) ∧ w'.heap[A]? = some (iobj 62 ((gt e (tSweep a)).2)) ∧ Mut [A] w w' := by
 have HE0 := lh h
 clear h
 have HL := lh ha
 clear ha
 rw [← rSweep_eq]
 go_enter Tryz.func70, Tryz.ntmps70
 refine wsk fun K0 HK0 => ?_
 go_wp2_with fail
 rename_i x1 cs1 hc1
 obtain rfl : (mc a).toArray = cs1 := Value.agg.inj hc1
 clear hc1
 obtain ⟨b, hb⟩ : ∃ b, w.heap.size = b := ⟨_, rfl⟩
 have HLT := lh (show A < b from hb ▸ lt_of_block HE0.out)
 refine HK0.out _ _ ?_
 refine wp_world (fun V => Mut [A] w V ∧ V.heap[A]? = some (iobj 62 e) ∧ V.heap[b]? = some (cobj 34 a) ∧ V.heap[b + 1]? = some (cobj 31 [(0, 0)])) ?_
  (by
   rw [← hb]
   exact ⟨(((Mut.refl _ _).alloc _).alloc _), heap_up _ (heap_up _ (HE0.out)), heap_up _ (heap_at (cobj 34 a) (by simp)), heap_at (cobj 31 [(0, 0)]) (by simp)⟩)
 rintro V ⟨hm, hHE, hHA, hHR⟩
 rw [hb]
 have HM := lh hm
 have HBW := lh hb
 have HE := lh hHE
 have HA := lh hHA
 have HR := lh hHR
 clear hm hHE hHA hHR hb HK0 HE0
 refine wsk fun K1 HK1 => ?_
 go_wp2_with fail
 refine HK1.out _ _ ?_
 obtain ⟨g0, hg⟩ : ∃ g, V.heap.size = g := ⟨_, rfl⟩
 refine wp_world (fun V2 => Mut [A] w V2 ∧ b ≤ g0 ∧ V2.heap[A]? = some (iobj 62 e) ∧ V2.heap[b]? = some (cobj 34 a) ∧ V2.heap[b + 1]? = some (cobj 31 ([(0, 0)])) ∧ V2.heap[g0]? = some (cobj 31 ([(0, 0)]))) ?_
  (by
   rw [← hg]
   exact ⟨HM.out.alloc _, by have := HM.out.size; have := HBW.out; omega, heap_up _ HE.out, heap_up _ HA.out, heap_up _ HR.out, heap_at (cobj 31 ([(0, 0)])) (by simp)⟩)
 replace HLT := lh (show b ≤ g0 ∧ A < g0 ∧ b < g0 ∧ b + 1 < g0 ∧ A < b from by
  have hlt := HLT.out
  have hbw := HM.out.size
  have hbw2 := HBW.out
  have := lt_of_block HE.out
  have := lt_of_block HA.out
  have := lt_of_block HR.out
  omega)
 rintro V2 ⟨hm, -, qHE, qHA, qHR, hnew⟩
 rw [hg]
 replace HM := lh hm
 replace HE := lh qHE
 replace HA := lh qHA
 replace HR := lh qHR
 have HS := lh hnew
 clear hm hnew hg qHE qHA qHR HK1
 clear V
 rename World => V
 refine wsk fun KL HKL => ?_
 go_wp2_with fail
 go_loopw [6] (fun x wr => ∃ p : Nat, p ≤ 21 ∧ x = .int .i64 p ∧ Hid (∃ (t : Int × Int) (ee : Int), Mut [g0, A] V wr ∧ wr.heap[A]? = some (iobj 62 ee) ∧ wr.heap[g0]? = some (cobj 31 [t]) ∧ rSweepFrom a (tPairs.drop p) p (t, ee) = rSweep a e)) (fun x _ => 21 - (intOf x).toNat)
 case atStart => exact ⟨0, by omega, rfl, lh ⟨(0, 0), e, Mut.refl _ _, HE.out, HS.out, rfl⟩⟩
 case round =>
  obtain ⟨p, hp, rfl, HG⟩ := hrel
  obtain ⟨t, ee, hmu, hE, hS, hq⟩ := HG.out
  have HQ := lh hq
  clear hq HG
  have hm2 := HM.out.stepM hmu (by have := HBW.out; have := HLT.out; intro x hx; simp only [List.mem_cons, List.not_mem_nil, or_false] at hx; rcases hx with rfl | rfl <;> first | exact .inl (List.mem_singleton.2 rfl) | (right; omega))
  refine wp_world (fun U => Mut [A] w U ∧ Mut [g0, A] V U ∧ U.heap[A]? = some (iobj 62 ee) ∧ U.heap[b]? = some (cobj 34 a) ∧ U.heap[b + 1]? = some (cobj 31 ([(0, 0)])) ∧ U.heap[g0]? = some (cobj 31 ([t]))) ?_ ⟨hm2, hmu, hE, ((hmu.same _ (lt_of_block HA.out) (notin2 (by have := HLT.out; omega) (by have := HLT.out; omega))).trans HA.out), ((hmu.same _ (lt_of_block HR.out) (notin2 (by have := HLT.out; omega) (by have := HLT.out; omega))).trans HR.out), hS⟩
  clear hm2 HM HE HA HR HS hmu hE hS
  rintro V ⟨q1, q2, qHE, qHA, qHR, qHS⟩
  have HM := lh q1
  have HGM := lh q2
  have HE := lh qHE
  have HA := lh qHA
  have HR := lh qHR
  have HS := lh qHS
  clear q1 q2 qHE qHA qHR qHS
  rcases Nat.lt_or_ge p 21 with hk | hk
  ·have t1 : decide ((p : Int) < 21) = true := by simp; omega
   obtain ⟨i, j, hd1, hd2, hd3⟩ := pairs_at' hk
   rw [hd1] at HQ
   have HD2 := lh hd2
   have HD3 := lh hd3
   have HPL := lh hk
   have p0 : (0 : Int) ≤ (p : Int) := by omega
   have p9 : (p : Int) < 21 := by omega
   clear hk hp hd1 hd2 hd3
   refine wsk fun K1 HK1 => ?_
   go_wp2_with fail
   refine HK1.out _ _ ?_
   refine wsk fun K2 HK2 => ?_
   refine wp_block ?_
   refine wsk fun K5 HK5 => ?_
   refine wp_cut_mergeP (nn :: nn :: nn :: nn :: nn :: nn :: nn :: some 7 :: some 8 :: nn :: nn :: nn :: nn :: some 13 :: some 14 :: some 15 :: some 16 :: some 17 :: n8 (nn :: nn :: nn :: nn :: nn :: [])) (fun s w' => Mut [] V w' ∧ s 7 = .int .i64 ((i : Nat) : Int) ∧ s 8 = .int .i64 ((j : Nat) : Int)) (fun _ _ => False) ?_ ?_ ?_
   ·intro Q2 hQ2 hP2
    refine wpG ?_
    refine wp_region_G (b := false) (Pn := (fun _ _ => False)) (Zw5 V p i j) (by kernel_rfl) (by kernel_rfl) ?_ ?_ ?_ ?_
    ·exact ⟨Mut.start _ false _, nB, nB, nB, nB, nB, nB, nB⟩
    ·refine AllSP.cons ?_ (AllSP.cons ?_ (AllSP.cons ?_ (AllSP.cons ?_ (AllSP.cons ?_ (AllSP.cons ?_ (AllSP.cons ?_ AllSP.nil))))))
     ·intro L s w2 h hk hd hn
      have s6 : s 6 = _ := hk 6 (by kernel_rfl)
      refine sP fun K hK => ?_
      exact rs_move rfl s6 (hK _ _ { h with e0 := fun _ => rfl })
     ·intro L s w2 h hk hd hn
      have s14 := h.e0 hd.1
      refine sP fun K hK => ?_
      go_simp
      refine (rf_expsP HD3.out HD2.out _).mono ?_
      rintro e w3 ⟨rfl, hb⟩
      exact .inl ⟨_, rfl, hK _ _ { h with mu := h.mu.step hb, e1 := fun _ => rfl }⟩
     ·intro L s w2 h hk hd hn
      have s15 := h.e1 hd.1
      refine sP fun K hK => ?_
      exact rs_move rfl s15 (hK _ _ { h with e2 := fun _ => rfl })
     ·intro L s w2 h hk hd hn
      have s13 := h.e2 hd.1
      refine sP fun K hK => ?_
      exact rs_extract rfl s13 rfl (hK _ _ { h with e3 := fun _ => rfl })
     ·intro L s w2 h hk hd hn
      have s13 := h.e2 hd.1
      refine sP fun K hK => ?_
      exact rs_extract rfl s13 rfl (hK _ _ { h with e4 := fun _ => rfl })
     ·intro L s w2 h hk hd hn
      have s16 := h.e3 hd.1
      refine sP fun K hK => ?_
      exact rs_assign rfl s16 (hK _ _ { h with e5 := fun _ => rfl })
     ·intro L s w2 h hk hd hn
      have s17 := h.e4 hd.1
      refine sP fun K hK => ?_
      exact rs_assign rfl s17 (hK _ _ { h with e6 := fun _ => rfl })
    ·intro L s w2 h hk hl
     refine cA ?_ (hQ2 s w2 (⟨h.mu, h.e5 (hl 5 (by decide)), h.e6 (hl 6 (by decide))⟩))
     exact frame_eq hk (by kernel_rfl) (by kernel_rfl)
    ·intro c s w2 hc
     exact hc.elim
   rotate_left
   ·rintro _ _ _ h
    exact h.elim
   rintro s5 V ⟨h1, k7, k8⟩
   simp only [mergeL]
   rw [k7]
   rw [k8]
   replace HE := sm h1 HE
   replace HA := sm h1 HA
   replace HR := sm h1 HR
   replace HS := sm h1 HS
   replace HM := lh (HM.out.stepM h1 (by simp))
   have HF5 := lh (HGM.out.trans (h1.up (by simp)))
   clear h1 k7 k8
   refine HK5.out _ _ ?_
   refine wp_cut_mergeP (n8 (n8 (nn :: nn :: some 18 :: some 19 :: some 20 :: some 21 :: some 22 :: some 23 :: some 24 :: some 25 :: some 26 :: some 27 :: some 28 :: some 29 :: nn :: []))) (fun _ w' => Mut [g0, A] V w' ∧ w'.heap[g0]? = some (cobj 31 ([(gt (gt ee (sMul (tAt a p) (tReach i j))).2 (sAdd t (gt ee (sMul (tAt a p) (tReach i j))).1)).1])) ∧ w'.heap[A]? = some (iobj 62 ((gt ((gt ee (sMul (tAt a p) (tReach i j))).2) (sAdd t ((gt ee (sMul (tAt a p) (tReach i j))).1))).2))) (fun _ _ => False) ?_ ?_ ?_
   ·intro Q2 hQ2 hP2
    refine wpG ?_
    refine wp_region_G (b := true) (Pn := (fun _ _ => False)) (Zw6 V A a b g0 t ee p i j) (by kernel_rfl) (by kernel_rfl) ?_ ?_ ?_ ?_
    ·exact ⟨Mut.start _ true _, fun _ => HS.out, nB, fun _ => HE.out, nB, nB, nB, nB, nB, nB, nB, nB, nB, nB, nB, nB, nB, nB, nB, nB⟩
    ·refine AllSP.cons ?_ (AllSP.cons ?_ (AllSP.cons ?_ (AllSP.cons ?_ (AllSP.cons ?_ (AllSP.cons ?_ (AllSP.cons ?_ (AllSP.cons ?_ (AllSP.cons ?_ (AllSP.cons ?_ (AllSP.cons ?_ (AllSP.cons ?_ (AllSP.cons ?_ AllSP.nil))))))))))))
     ·intro L s w2 h hk hd hn
      have s0 : s 0 = _ := hk 0 (by kernel_rfl)
      refine sP fun K hK => ?_
      exact rs_move rfl s0 (hK _ _ { h with e0 := fun _ => rfl })
     ·intro L s w2 h hk hd hn
      have s5 : s 5 = _ := hk 5 (by kernel_rfl)
      have kb := (h.kt_s (bF h.b12_1 hn))
      refine sP fun K hK => ?_
      exact rs_load rfl s5 (sp_load (p := 0) kb (by simp)) (hK _ _ { h with e1 := fun _ => rfl, b12_1 := fun _ => rfl })
     ·intro L s w2 h hk hd hn
      have s0 : s 0 = _ := hk 0 (by kernel_rfl)
      refine sP fun K hK => ?_
      exact rs_move rfl s0 (hK _ _ { h with e2 := fun _ => rfl })
     ·intro L s w2 h hk hd hn
      have s6 : s 6 = _ := hk 6 (by kernel_rfl)
      refine sP fun K hK => ?_
      exact rs_move rfl s6 (hK _ _ { h with e3 := fun _ => rfl })
     ·intro L s w2 h hk hd hn
      have s3 : s 3 = _ := hk 3 (by kernel_rfl)
      refine sP fun K hK => ?_
      exact rs_field rfl s3 (fl_model0 _ _) (hK _ _ { h with e4 := fun _ => rfl })
     ·intro L s w2 h hk hd hn
      have s22 := h.e4 hd.1
      have s21 := h.e3 hd.2.1
      refine sP fun K hK => ?_
      exact rs_index rfl s22 s21 (ix_model _ p HPL.out) (hK _ _ { h with e5 := fun _ => rfl })
     ·intro L s w2 h hk hd hn
      have s23 := h.e5 hd.1
      have kb := ((h.mu.same _ ((Array.getElem?_eq_some_iff.1 HA.out).1) (notin2 (by have := HLT.out; have := lt_of_block HE.out; omega) (by have := HLT.out; have := lt_of_block HE.out; omega))).trans HA.out)
      refine sP fun K hK => ?_
      exact rs_load rfl s23 (sp_load (p := p) kb (by have := HL.out; have := HPL.out; omega)) (hK _ _ { h with e6 := fun _ => rfl })
     ·intro L s w2 h hk hd hn
      have s7 : s 7 = _ := hk 7 (by kernel_rfl)
      refine sP fun K hK => ?_
      exact rs_move rfl s7 (hK _ _ { h with e7 := fun _ => rfl })
     ·intro L s w2 h hk hd hn
      have s8 : s 8 = _ := hk 8 (by kernel_rfl)
      refine sP fun K hK => ?_
      exact rs_move rfl s8 (hK _ _ { h with e8 := fun _ => rfl })
     ·intro L s w2 h hk hd hn
      have s25 := h.e7 hd.1
      have s26 := h.e8 hd.2.1
      refine sP fun K hK => ?_
      go_simp
      refine (rf_rang i j (by have := HD2.out; omega) (by have := HD2.out; omega) _).mono ?_
      rintro e w3 ⟨rfl, hb⟩
      exact .inl ⟨_, rfl, hK _ _ { h with mu := h.mu.step hb, kt_s := fun a => bk hb (h.kt_s a), kr_s := fun a => bk hb (h.kr_s a), kg_c_0 := fun a => bk hb (h.kg_c_0 a), kg_c_1 := fun a c => bk hb (h.kg_c_1 a c), kg_c_2 := fun a => bk hb (h.kg_c_2 a), e9 := fun _ => rfl }⟩
     ·intro L s w2 h hk hd hn
      have s20 := h.e2 hd.1
      have s24 := h.e6 hd.2.1
      have s27 := h.e9 hd.2.2.1
      have kb := h.kg_c_0 hn
      refine sP fun K hK => ?_
      go_simp
      refine (rf_mul _ ee (tAt a p) (tReach i j) _ kb).mono ?_
      rintro e w3 ⟨rfl, hkr, hb⟩
      exact .inl ⟨_, rfl, hK _ _ { h with mu := h.mu.stepM hb (by intro x hx; rw [List.mem_singleton.1 hx]; exact .inl (List.Mem.tail _ (List.Mem.head _))), kt_s := fun a => (hb.same _ (lt_of_block (h.kt_s a)) (notin1 (by have := HLT.out; have := lt_of_block HE.out; omega))).trans (h.kt_s a), kr_s := fun a => (hb.same _ (lt_of_block (h.kr_s a)) (notin1 (by have := HLT.out; have := lt_of_block HE.out; omega))).trans (h.kr_s a), kg_c_0 := nF, kg_c_1 := fun _ _ => hkr, kg_c_2 := fun a => absurd (h.b11_10 a) (by rw [hn]; exact bft), e10 := fun _ => rfl, b11_10 := fun _ => rfl }⟩
     ·intro L s w2 h hk hd hn
      have s18 := h.e0 hd.1
      have s19 := h.e1 hd.2.1
      have s28 := h.e10 hd.2.2.1
      have kb := h.kg_c_1 hd.2.2.1 hn
      refine sP fun K hK => ?_
      go_simp
      refine (rf_add _ ((gt ee (sMul (tAt a p) (tReach i j))).2) t ((gt ee (sMul (tAt a p) (tReach i j))).1) _ kb).mono ?_
      rintro e w3 ⟨rfl, hkr, hb⟩
      exact .inl ⟨_, rfl, hK _ _ { h with mu := h.mu.stepM hb (by intro x hx; rw [List.mem_singleton.1 hx]; exact .inl (List.Mem.tail _ (List.Mem.head _))), kt_s := fun a => (hb.same _ (lt_of_block (h.kt_s a)) (notin1 (by have := HLT.out; have := lt_of_block HE.out; omega))).trans (h.kt_s a), kr_s := fun a => (hb.same _ (lt_of_block (h.kr_s a)) (notin1 (by have := HLT.out; have := lt_of_block HE.out; omega))).trans (h.kr_s a), kg_c_0 := fun a => absurd (a.symm.trans hd.2.2.1) bft, kg_c_1 := fun a c => absurd c.symm bft, kg_c_2 := fun _ => hkr, e11 := fun _ => rfl, b11_10 := fun _ => hd.2.2.1 }⟩
     ·intro L s w2 h hk hd hn
      have s5 : s 5 = _ := hk 5 (by kernel_rfl)
      have s29 := h.e11 hd.1
      have kb := h.kt_s hn
      refine sP fun K hK => ?_
      exact rs_store rfl s5 s29 (sp_store (p := 0) kb (by simp) ((gt ((gt ee (sMul (tAt a p) (tReach i j))).2) (sAdd t ((gt ee (sMul (tAt a p) (tReach i j))).1))).1)) (hK _ _ { h with mu := h.mu.put (List.Mem.head _) _, kg_c_0 := fun a => (World.putObj_heap_other (by have := HLT.out; have := lt_of_block HE.out; omega)).trans (h.kg_c_0 a), kg_c_1 := fun a c => (World.putObj_heap_other (by have := HLT.out; have := lt_of_block HE.out; omega)).trans (h.kg_c_1 a c), kg_c_2 := fun a => (World.putObj_heap_other (by have := HLT.out; have := lt_of_block HE.out; omega)).trans (h.kg_c_2 a), kt_s := nF, kr_s := fun _ => pH kb, b12_1 := fun _ => hd.2.2.2.1 })
    ·intro L s w2 h hk hl
     refine cA ?_ (hQ2 s w2 (⟨h.mu, h.kr_s (hl 12 (by decide)), h.kg_c_2 (hl 11 (by decide))⟩))
     exact frame_eq hk (by kernel_rfl) (by kernel_rfl)
    ·intro c s w2 hc
     exact hc.elim
   rotate_left
   ·rintro _ _ _ h
    exact h.elim
   rintro s6 V ⟨h1, c_s, c_c⟩
   simp only [mergeL]
   replace HE := lh c_c
   replace HA := lh ((h1.same _ (lt_of_block HA.out) (notin2 (by have := HLT.out; omega) (by have := HLT.out; omega))).trans HA.out)
   replace HR := lh ((h1.same _ (lt_of_block HR.out) (notin2 (by have := HLT.out; omega) (by have := HLT.out; omega))).trans HR.out)
   replace HS := lh c_s
   replace HM := lh (HM.out.stepM h1 (by have := HBW.out; have := HLT.out; intro x hx; simp only [List.mem_cons, List.not_mem_nil, or_false] at hx; rcases hx with rfl | rfl <;> first | exact .inl (List.mem_singleton.2 rfl) | (right; omega)))
   have HF6 := lh (HF5.out.trans h1)
   clear h1 c_s c_c
   go_wp2_with fail
   refine HK2.out _ _ ?_
   go_wp2_with fail
   go_roundw
   case rel => first | exact ⟨p + 1, by have := HPL.out; omega, by go_num, lh ⟨_, _, HF6.out, HE.out, HS.out, HQ.out⟩⟩ | ((repeat apply Exists.intro); exact ⟨⟨p + 1, by have := HPL.out; omega, by go_num, lh ⟨_, _, HF6.out, HE.out, HS.out, HQ.out⟩⟩, rfl⟩)
   case measure => simp [intOf]; have := HPL.out; omega
  ·obtain rfl : p = 21 := by omega
   go_wp2_with fail
   refine HKL.out _ _ ?_
   clear hk hp
   refine wsk fun K7 HK7 => ?_
   refine wp_cut_mergeP (n8 (n8 (n8 (nn :: nn :: nn :: nn :: nn :: nn :: some 30 :: [])))) (fun _ w' => Mut [b + 1] V w' ∧ w'.heap[b + 1]? = some (cobj 31 ([t]))) (fun _ _ => False) ?_ ?_ ?_
   ·intro Q2 hQ2 hP2
    refine wpG ?_
    refine wp_region_G (b := false) (Pn := (fun _ _ => False)) (Zw7 V b t) (by kernel_rfl) (by kernel_rfl) ?_ ?_ ?_ ?_
    ·exact ⟨Mut.start _ false _, fun _ => HR.out, nB, nB⟩
    ·refine AllSP.cons ?_ (AllSP.cons ?_ AllSP.nil)
     ·intro L s w2 h hk hd hn
      have s5 : s 5 = _ := hk 5 (by kernel_rfl)
      have kb := ((h.mu.same _ ((Array.getElem?_eq_some_iff.1 HS.out).1) (notin1 (by have := HLT.out; have := lt_of_block HE.out; omega))).trans HS.out)
      refine sP fun K hK => ?_
      exact rs_load rfl s5 (sp_load (p := 0) kb (by simp)) (hK _ _ { h with e0 := fun _ => rfl })
     ·intro L s w2 h hk hd hn
      have s4 : s 4 = _ := hk 4 (by kernel_rfl)
      have s30 := h.e0 hd.1
      have kb := h.kt_r hn
      refine sP fun K hK => ?_
      exact rs_store rfl s4 s30 (sp_store (p := 0) kb (by simp) t) (hK _ _ { h with mu := h.mu.put (List.Mem.head _) _, kt_r := nF, kr_r := fun _ => pH kb })
    ·intro L s w2 h hk hl
     refine cA ?_ (hQ2 s w2 (⟨h.mu, h.kr_r (hl 1 (by decide))⟩))
     exact frame_eq hk (by kernel_rfl) (by kernel_rfl)
    ·intro c s w2 hc
     exact hc.elim
   rotate_left
   ·rintro _ _ _ h
    exact h.elim
   rintro s7 V ⟨h1, c_r⟩
   simp only [mergeL]
   replace HE := lh ((h1.same _ (lt_of_block HE.out) (notin1 (by have := HLT.out; omega))).trans HE.out)
   replace HA := lh ((h1.same _ (lt_of_block HA.out) (notin1 (by have := HLT.out; omega))).trans HA.out)
   replace HR := lh c_r
   replace HS := lh ((h1.same _ (lt_of_block HS.out) (notin1 (by have := HLT.out; omega))).trans HS.out)
   replace HM := lh (HM.out.stepM h1 (by have := HBW.out; have := HLT.out; intro x hx; rw [List.mem_singleton.1 hx]; first | exact .inl (List.mem_singleton.2 rfl) | (right; omega)))
   clear h1 c_r
   refine HK7.out _ _ ?_
   refine wp_ret ?_
   rw [← show (t, ee) = rSweep a e from HQ.out]
   exact bodyPost_ret (v := sval t) (res_span Tryz.results70 rfl (sp_loadVar HR.out)) rfl ⟨rfl, HE.out, HM.out⟩
end Go.Proofs.YthhkcfpljgdnhaaGreat
