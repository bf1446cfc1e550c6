/- The reference of layer 21: place, Right, Check. Printed by wip/genRF.py. -/
import Derived.Test.YthhkcfpljgdnhaaGreatTayO
import Derived.Test.YthhkcfpljgdnhaaGreatDrT
import Derived.Test.YthhkcfpljgdnhaaGreatRefY
namespace Go.Proofs.YthhkcfpljgdnhaaGreat
open Go.RowKit Mnc
attribute [local go_sem] RunSP_value RunSP_skip RunSP_enter evS_tmp evS_const evS_global evS_func
theorem tri_succ (s : Nat) : s * (s + 1) / 2 + s + 1 = (s + 1) * (s + 1 + 1) / 2 := by
 have h : (s + 1) * (s + 1 + 1) = s * (s + 1) + (s + 1) * 2 := by rw [show s + 1 + 1 = s + 2 from rfl, Nat.mul_add, Nat.mul_comm (s + 1) s]
 rw [h, Nat.add_mul_div_right _ _ (by decide)]
 omega
set_option maxRecDepth 100000 in
theorem rf_place (i j : Nat) (h : i + j ≤ 10) (w : World) : Calls Tryz.prog 68 #[.int .i64 (i : Int), .int .i64 (j : Int)] w fun e w' => e = .returned (.int .i64 ((tPlace i j : Nat) : Int)) ∧ Below w.heap.size w w' := by
 have hi0 : (0 : Int) ≤ i := by omega
 have hi1 : (i : Int) ≤ 10 := by omega
 have hj0 : (0 : Int) ≤ j := by omega
 have hj1 : (j : Int) ≤ 10 := by omega
 have HIJ := lh h
 go_enter Tryz.func68, Tryz.ntmps68
 go_wp2_with fail
 go_loopw [5, 6] (fun x y wr => ∃ s n : Nat, s ≤ i + j ∧ n ≤ 100 ∧ x = .int .i64 n ∧ y = .int .i64 s ∧ Hid (n = s * (s + 1) / 2 ∧ Below w.heap.size w wr)) (fun _ y _ => i + j - (intOf y).toNat)
 case atStart => exact ⟨0, 0, by omega, by omega, rfl, rfl, lh ⟨rfl, Below.refl _ _⟩⟩
 case round =>
  obtain ⟨s, n, hs, hn, rfl, rfl, HG⟩ := hrel
  have hs0 : (0 : Int) ≤ s := by omega
  have hs1 : (s : Int) ≤ 10 := by omega
  have hn0 : (0 : Int) ≤ n := by omega
  have hn1 : (n : Int) ≤ 100 := by omega
  rcases Nat.lt_or_ge s (i + j) with hk | hk
  ·have t1 : decide ((s : Int) < (i : Int) + (j : Int)) = true := by simp; omega
   have HN := lh (show n + s + 1 = (s + 1) * (s + 1 + 1) / 2 by rw [HG.out.1]; exact tri_succ s)
   have HN2 := lh (show n + s + 1 ≤ 100 by
    have h1 : n = s * (s + 1) / 2 := HG.out.1
    have h2 : s * (s + 1) ≤ 9 * 10 := Nat.mul_le_mul (by omega) (by omega)
    omega)
   have HK := lh hk
   clear hk h
   go_wp2_with fail
   go_roundw
   case rel => first | exact ⟨s + 1, n + s + 1, by have := HK.out; omega, HN2.out, by go_num, by go_num, lh ⟨HN.out, HG.out.2⟩⟩ | ((repeat apply Exists.intro); exact ⟨⟨s + 1, n + s + 1, by have := HK.out; omega, HN2.out, by go_num, by go_num, lh ⟨HN.out, HG.out.2⟩⟩, rfl⟩)
   case measure => simp [intOf]; have := HK.out; omega
  ·have hse : s = i + j := by omega
   have t1 : decide ((s : Int) < (i : Int) + (j : Int)) = false := by simp; omega
   have HT := lh (show ((tPlace i j : Nat) : Int) = (n : Int) + (i : Int) by
    have h1 : n = s * (s + 1) / 2 := HG.out.1
    unfold tPlace
    rw [← hse, ← h1]
    omega)
   clear hse hk
   go_wp2_with fail
   go_ret
   exact ⟨by rw [HT.out]; rfl, HG.out.2⟩
theorem rfC_ok {s : Int × Int} (h : okS s) (w : World) : Calls Tryz.prog 92 #[sval s] w fun e w' => e = .returned (.int .i64 0) ∧ Below w.heap.size w w' := by
 have h2 := ref2_Check s w
 rw [sChk_ok h] at h2
 exact h2
theorem rfC_bad {s : Int × Int} (h : ¬ okS s) (w : World) : Calls Tryz.prog 92 #[sval s] w fun e w' => e = .returned (.int .i64 20) ∧ Below w.heap.size w w' := by
 have h2 := ref2_Check s w
 rw [sChk_bad h] at h2
 exact h2
theorem all_tAt {a : List (Int × Int)} {n : Nat} (hl : a.length = n) (h : ∀ q, q < n → okS (tAt a q)) : ∀ s ∈ a, okS s := by
 intro s hs
 obtain ⟨i, hi, rfl⟩ := List.getElem_of_mem hs
 have := h i (by omega)
 simpa [tAt, List.getD, List.getElem?_eq_getElem hi] using this
structure Rtg4 (V : World) (a : List (Int × Int)) (b : Nat) (p : Nat) (L : Nat → Bool) (s : Nat → Value) (w : World) : Prop where
 mu : Mut [] V w
 e0 : L 0 = true → s 8 = .int .i64 ((p : Nat) : Int)
 e1 : L 1 = true → s 9 = .pointer (some ⟨b, 0, none⟩)
 e2 : L 2 = true → s 10 = .pointer (some ⟨b, p * 2, none⟩)
 e3 : L 3 = true → s 11 = sval (tAt a p)
 e4 : L 4 = true → s 12 = .int .i64 0
 e5 : L 5 = true → s 13 = .bool false
structure Rsg6 (V : World) (a : List (Int × Int)) (b : Nat) (L : Nat → Bool) (s : Nat → Value) (w : World) : Prop where
 mu : Mut [] V w
 e0 : L 0 = true → s 14 = .pointer (some ⟨b, 21 * 2, none⟩)
 e1 : L 1 = true → s 15 = sval (tAt a 21)
 e2 : L 2 = true → s 16 = .int .i64 0
 e3 : L 3 = true → s 17 = .bool true
 e4 : L 4 = true → s 2 = .bool true
structure Rtx4 (V : World) (a : List (Int × Int)) (b : Nat) (p : Nat) (L : Nat → Bool) (s : Nat → Value) (w : World) : Prop where
 mu : Mut [] V w
 e0 : L 0 = true → s 8 = .int .i64 ((p : Nat) : Int)
 e1 : L 1 = true → s 9 = .pointer (some ⟨b, 0, none⟩)
 e2 : L 2 = true → s 10 = .pointer (some ⟨b, p * 2, none⟩)
 e3 : L 3 = true → s 11 = sval (tAt a p)
 e4 : L 4 = true → s 12 = .int .i64 20
 e5 : L 5 = true → s 13 = .bool true
structure Rsx6 (V : World) (a : List (Int × Int)) (b : Nat) (L : Nat → Bool) (s : Nat → Value) (w : World) : Prop where
 mu : Mut [] V w
 e0 : L 0 = true → s 14 = .pointer (some ⟨b, 21 * 2, none⟩)
 e1 : L 1 = true → s 15 = sval (tAt a 21)
 e2 : L 2 = true → s 16 = .int .i64 20
 e3 : L 3 = true → s 17 = .bool false
 e4 : L 4 = true → s 2 = .bool false
set_option maxRecDepth 100000 in
set_option maxHeartbeats 4000000 in
theorem rf_Right (a : List (Int × Int)) (ha : a.length = 22) (w : World) : Calls Tryz.prog 66 #[mval a] w fun e w' => e = .returned (.bool (decide (∀ s ∈ a, okS s))) ∧ Below w.heap.size w w' := by
 have HL := lh ha
 clear ha
 go_enter Tryz.func66, Tryz.ntmps66
 refine wsk fun K0 HK0 => ?_
 go_wp2_with fail
 rename_i x1 cs1 hc1
 obtain rfl : (mc a).toArray = cs1 := Value.agg.inj hc1
 clear hc1
 obtain ⟨b, hb⟩ : ∃ b, w.heap.size = b := ⟨_, rfl⟩
 refine HK0.out _ _ ?_
 refine wp_world (fun V => Mut [] w V ∧ V.heap[b]? = some (cobj 34 a)) ?_
  (by
   rw [← hb]
   exact ⟨((Mut.refl _ _).alloc _), heap_at (cobj 34 a) (by simp)⟩)
 rintro V ⟨hm, hHA⟩
 rw [hb]
 have HM := lh hm
 have HBW := lh hb
 have HLT := lh trivial
 have HA := lh hHA
 clear hm hHA hb HK0
 refine wsk fun KL HKL => ?_
 go_wp2_with fail
 go_loopw [3] (fun x wr => ∃ p : Nat, p ≤ 21 ∧ x = .int .i64 p ∧ Hid (Mut [] V wr ∧ ∀ q, q < p → okS (tAt a q))) (fun x _ => 21 - (intOf x).toNat)
 case atStart => exact ⟨0, by omega, rfl, lh ⟨Mut.refl _ _, fun q h => by omega⟩⟩
 case round =>
  obtain ⟨p, hp, rfl, HG⟩ := hrel
  have HALL := lh HG.out.2
  have hm2 := HM.out.trans HG.out.1
  refine wp_world (fun U => Mut [] w U ∧ Mut [] V U ∧ U.heap[b]? = some (cobj 34 a)) ?_ ⟨hm2, HG.out.1, (HG.out.1.same _ (lt_of_block HA.out) (by simp)).trans HA.out⟩
  clear hm2 HG HM HA
  rintro V ⟨q1, q2, q3⟩
  have HM := lh q1
  have HGM := lh q2
  have HA := lh q3
  clear q1 q2 q3
  rcases Nat.lt_or_ge p 21 with hk | hk
  ·have t1 : decide ((p : Int) < 21) = true := by simp; omega
   have HPL := lh hk
   have hp0 : (0 : Int) ≤ (p : Int) := by omega
   have hp9 : (p : Int) < 21 := by omega
   clear hk hp
   refine wsk fun K1 HK1 => ?_
   go_wp2_with fail
   refine HK1.out _ _ ?_
   refine wsk fun K2 HK2 => ?_
   refine wp_block ?_
   by_cases hok : okS (tAt a p)
   ·have HOK := lh hok
    clear hok
    refine wsk fun K4 HK4 => ?_
    refine wp_cut_mergeP (n8 (some 8 :: some 9 :: some 10 :: some 11 :: some 12 :: some 13 :: nn :: nn :: nn :: nn :: [])) (fun s w' => Mut [] V w' ∧ s 13 = .bool false) (fun _ _ => False) ?_ ?_ ?_
    ·intro Q2 hQ2 hP2
     refine wpG ?_
     refine wp_region_G (b := false) (Pn := (fun _ _ => False)) (Rtg4 V a b p) (by kernel_rfl) (by kernel_rfl) ?_ ?_ ?_ ?_
     ·exact ⟨Mut.start _ false _, nB, nB, nB, nB, nB, nB⟩
     ·refine AllSP.cons ?_ (AllSP.cons ?_ (AllSP.cons ?_ (AllSP.cons ?_ (AllSP.cons ?_ (AllSP.cons ?_ AllSP.nil)))))
      ·intro L s w2 h hk hd hn
       have s3 : s 3 = _ := hk 3 (by kernel_rfl)
       refine sP fun K hK => ?_
       exact rs_move rfl s3 (hK _ _ { h with e0 := fun _ => rfl })
      ·intro L s w2 h hk hd hn
       have s1 : s 1 = _ := hk 1 (by kernel_rfl)
       refine sP fun K hK => ?_
       exact rs_field rfl s1 (fl_model0 _ _) (hK _ _ { h with e1 := fun _ => rfl })
      ·intro L s w2 h hk hd hn
       have s9 := h.e1 hd.1
       have s8 := h.e0 hd.2.1
       refine sP fun K hK => ?_
       exact rs_index rfl s9 s8 (ix_model _ p HPL.out) (hK _ _ { h with e2 := fun _ => rfl })
      ·intro L s w2 h hk hd hn
       have s10 := h.e2 hd.1
       have kb := ((h.mu.same _ ((Array.getElem?_eq_some_iff.1 HA.out).1) (by simp)).trans HA.out)
       refine sP fun K hK => ?_
       exact rs_load rfl s10 (sp_load (p := p) kb (by have := HL.out; have := HPL.out; omega)) (hK _ _ { h with e3 := fun _ => rfl })
      ·intro L s w2 h hk hd hn
       have s11 := h.e3 hd.1
       refine sP fun K hK => ?_
       go_simp
       refine (rfC_ok HOK.out _).mono ?_
       rintro e w3 ⟨rfl, hb⟩
       exact .inl ⟨_, rfl, hK _ _ { h with mu := h.mu.step hb, e4 := fun _ => rfl }⟩
      ·intro L s w2 h hk hd hn
       have s12 := h.e4 hd.1
       refine sP fun K hK => ?_
       go_simp
       exact hK _ _ { h with e5 := fun _ => rfl }
     ·intro L s w2 h hk hl
      refine cA ?_ (hQ2 s w2 (⟨h.mu, h.e5 (hl 5 (by decide))⟩))
      exact frame_eq hk (by kernel_rfl) (by kernel_rfl)
     ·intro c s w2 hc
      exact hc.elim
    rotate_left
    ·rintro _ _ _ h
     exact h.elim
    rintro s4 V ⟨h1, k13⟩
    simp only [mergeL]
    rw [k13]
    replace HA := sm h1 HA
    replace HM := lh (HM.out.stepM h1 (by simp))
    have HF := lh (HGM.out.trans h1)
    clear h1 k13
    refine HK4.out _ _ ?_
    go_wp2_with fail
    refine HK2.out _ _ ?_
    have HA2 := lh (show ∀ q, q < p + 1 → okS (tAt a q) from fun q hq => by
     rcases Nat.lt_or_ge q p with h | h
     ·exact HALL.out q h
     ·obtain rfl : q = p := by omega
      exact HOK.out)
    go_wp2_with fail
    go_roundw
    case rel => first | exact ⟨p + 1, by have := HPL.out; omega, by go_num, lh ⟨HF.out, HA2.out⟩⟩ | ((repeat apply Exists.intro); exact ⟨⟨p + 1, by have := HPL.out; omega, by go_num, lh ⟨HF.out, HA2.out⟩⟩, rfl⟩)
    case measure => simp [intOf]; have := HPL.out; omega
   ·have HOK := lh hok
    clear hok
    refine wsk fun K4 HK4 => ?_
    refine wp_cut_mergeP (n8 (some 8 :: some 9 :: some 10 :: some 11 :: some 12 :: some 13 :: nn :: nn :: nn :: nn :: [])) (fun s w' => Mut [] V w' ∧ s 13 = .bool true) (fun _ _ => False) ?_ ?_ ?_
    ·intro Q2 hQ2 hP2
     refine wpG ?_
     refine wp_region_G (b := false) (Pn := (fun _ _ => False)) (Rtx4 V a b p) (by kernel_rfl) (by kernel_rfl) ?_ ?_ ?_ ?_
     ·exact ⟨Mut.start _ false _, nB, nB, nB, nB, nB, nB⟩
     ·refine AllSP.cons ?_ (AllSP.cons ?_ (AllSP.cons ?_ (AllSP.cons ?_ (AllSP.cons ?_ (AllSP.cons ?_ AllSP.nil)))))
      ·intro L s w2 h hk hd hn
       have s3 : s 3 = _ := hk 3 (by kernel_rfl)
       refine sP fun K hK => ?_
       exact rs_move rfl s3 (hK _ _ { h with e0 := fun _ => rfl })
      ·intro L s w2 h hk hd hn
       have s1 : s 1 = _ := hk 1 (by kernel_rfl)
       refine sP fun K hK => ?_
       exact rs_field rfl s1 (fl_model0 _ _) (hK _ _ { h with e1 := fun _ => rfl })
      ·intro L s w2 h hk hd hn
       have s9 := h.e1 hd.1
       have s8 := h.e0 hd.2.1
       refine sP fun K hK => ?_
       exact rs_index rfl s9 s8 (ix_model _ p HPL.out) (hK _ _ { h with e2 := fun _ => rfl })
      ·intro L s w2 h hk hd hn
       have s10 := h.e2 hd.1
       have kb := ((h.mu.same _ ((Array.getElem?_eq_some_iff.1 HA.out).1) (by simp)).trans HA.out)
       refine sP fun K hK => ?_
       exact rs_load rfl s10 (sp_load (p := p) kb (by have := HL.out; have := HPL.out; omega)) (hK _ _ { h with e3 := fun _ => rfl })
      ·intro L s w2 h hk hd hn
       have s11 := h.e3 hd.1
       refine sP fun K hK => ?_
       go_simp
       refine (rfC_bad HOK.out _).mono ?_
       rintro e w3 ⟨rfl, hb⟩
       exact .inl ⟨_, rfl, hK _ _ { h with mu := h.mu.step hb, e4 := fun _ => rfl }⟩
      ·intro L s w2 h hk hd hn
       have s12 := h.e4 hd.1
       refine sP fun K hK => ?_
       go_simp
       exact hK _ _ { h with e5 := fun _ => rfl }
     ·intro L s w2 h hk hl
      refine cA ?_ (hQ2 s w2 (⟨h.mu, h.e5 (hl 5 (by decide))⟩))
      exact frame_eq hk (by kernel_rfl) (by kernel_rfl)
     ·intro c s w2 hc
      exact hc.elim
    rotate_left
    ·rintro _ _ _ h
     exact h.elim
    rintro s4 V ⟨h1, k13⟩
    simp only [mergeL]
    rw [k13]
    replace HA := sm h1 HA
    replace HM := lh (HM.out.stepM h1 (by simp))
    have HF := lh (HGM.out.trans h1)
    clear h1 k13
    refine HK4.out _ _ ?_
    have HRES := lh (show (decide (∀ s ∈ a, okS s)) = false from decide_eq_false fun h => HOK.out (h _ (tAt_mem (by have := HL.out; have := HPL.out; omega))))
    go_wp2_with fail
    exact bodyPost_ret (v := .bool false) (by simp [results, Tryz.results66, go_sem]) rfl ⟨by rw [HRES.out], by rw [← HBW.out]; exact HM.out.to0⟩
  ·obtain rfl : p = 21 := by omega
   go_wp2_with fail
   refine HKL.out _ _ ?_
   clear hk hp
   by_cases hok : okS (tAt a 21)
   ·have HOK := lh hok
    clear hok
    refine wsk fun K6 HK6 => ?_
    refine wp_cut_mergeP (nn :: nn :: some 2 :: n8 (nn :: nn :: nn :: some 14 :: some 15 :: some 16 :: some 17 :: [])) (fun s w' => Mut [] V w' ∧ s 2 = .bool true) (fun _ _ => False) ?_ ?_ ?_
    ·intro Q2 hQ2 hP2
     refine wpG ?_
     refine wp_region_G (b := false) (Pn := (fun _ _ => False)) (Rsg6 V a b) (by kernel_rfl) (by kernel_rfl) ?_ ?_ ?_ ?_
     ·exact ⟨Mut.start _ false _, nB, nB, nB, nB, nB⟩
     ·refine AllSP.cons ?_ (AllSP.cons ?_ (AllSP.cons ?_ (AllSP.cons ?_ (AllSP.cons ?_ AllSP.nil))))
      ·intro L s w2 h hk hd hn
       have s1 : s 1 = _ := hk 1 (by kernel_rfl)
       refine sP fun K hK => ?_
       exact rs_field rfl s1 (fl_model1 _ _) (hK _ _ { h with e0 := fun _ => rfl })
      ·intro L s w2 h hk hd hn
       have s14 := h.e0 hd.1
       have kb := ((h.mu.same _ ((Array.getElem?_eq_some_iff.1 HA.out).1) (by simp)).trans HA.out)
       refine sP fun K hK => ?_
       exact rs_load rfl s14 (sp_load (p := 21) kb (by have := (HL.out : a.length = 22); omega)) (hK _ _ { h with e1 := fun _ => rfl })
      ·intro L s w2 h hk hd hn
       have s15 := h.e1 hd.1
       refine sP fun K hK => ?_
       go_simp
       refine (rfC_ok HOK.out _).mono ?_
       rintro e w3 ⟨rfl, hb⟩
       exact .inl ⟨_, rfl, hK _ _ { h with mu := h.mu.step hb, e2 := fun _ => rfl }⟩
      ·intro L s w2 h hk hd hn
       have s16 := h.e2 hd.1
       refine sP fun K hK => ?_
       go_simp
       exact hK _ _ { h with e3 := fun _ => rfl }
      ·intro L s w2 h hk hd hn
       have s17 := h.e3 hd.1
       refine sP fun K hK => ?_
       exact rs_assign rfl s17 (hK _ _ { h with e4 := fun _ => rfl })
     ·intro L s w2 h hk hl
      refine cA ?_ (hQ2 s w2 (⟨h.mu, h.e4 (hl 4 (by decide))⟩))
      exact frame_eq hk (by kernel_rfl) (by kernel_rfl)
     ·intro c s w2 hc
      exact hc.elim
    rotate_left
    ·rintro _ _ _ h
     exact h.elim
    rintro s6 V ⟨h1, k2⟩
    simp only [mergeL]
    rw [k2]
    replace HA := sm h1 HA
    replace HM := lh (HM.out.stepM h1 (by simp))
    clear h1 k2
    refine HK6.out _ _ ?_
    have HRES := lh (show (decide (∀ s ∈ a, okS s)) = true from decide_eq_true (all_tAt HL.out fun q hq => by
     rcases Nat.lt_or_ge q 21 with h | h
     ·exact HALL.out q h
     ·obtain rfl : q = 21 := by omega
      exact HOK.out))
    refine wp_ret ?_
    exact bodyPost_ret (v := .bool true) (by simp [results, Tryz.results66, go_sem]) rfl ⟨by rw [HRES.out], by rw [← HBW.out]; exact HM.out.to0⟩
   ·have HOK := lh hok
    clear hok
    refine wsk fun K6 HK6 => ?_
    refine wp_cut_mergeP (nn :: nn :: some 2 :: n8 (nn :: nn :: nn :: some 14 :: some 15 :: some 16 :: some 17 :: [])) (fun s w' => Mut [] V w' ∧ s 2 = .bool false) (fun _ _ => False) ?_ ?_ ?_
    ·intro Q2 hQ2 hP2
     refine wpG ?_
     refine wp_region_G (b := false) (Pn := (fun _ _ => False)) (Rsx6 V a b) (by kernel_rfl) (by kernel_rfl) ?_ ?_ ?_ ?_
     ·exact ⟨Mut.start _ false _, nB, nB, nB, nB, nB⟩
     ·refine AllSP.cons ?_ (AllSP.cons ?_ (AllSP.cons ?_ (AllSP.cons ?_ (AllSP.cons ?_ AllSP.nil))))
      ·intro L s w2 h hk hd hn
       have s1 : s 1 = _ := hk 1 (by kernel_rfl)
       refine sP fun K hK => ?_
       exact rs_field rfl s1 (fl_model1 _ _) (hK _ _ { h with e0 := fun _ => rfl })
      ·intro L s w2 h hk hd hn
       have s14 := h.e0 hd.1
       have kb := ((h.mu.same _ ((Array.getElem?_eq_some_iff.1 HA.out).1) (by simp)).trans HA.out)
       refine sP fun K hK => ?_
       exact rs_load rfl s14 (sp_load (p := 21) kb (by have := (HL.out : a.length = 22); omega)) (hK _ _ { h with e1 := fun _ => rfl })
      ·intro L s w2 h hk hd hn
       have s15 := h.e1 hd.1
       refine sP fun K hK => ?_
       go_simp
       refine (rfC_bad HOK.out _).mono ?_
       rintro e w3 ⟨rfl, hb⟩
       exact .inl ⟨_, rfl, hK _ _ { h with mu := h.mu.step hb, e2 := fun _ => rfl }⟩
      ·intro L s w2 h hk hd hn
       have s16 := h.e2 hd.1
       refine sP fun K hK => ?_
       go_simp
       exact hK _ _ { h with e3 := fun _ => rfl }
      ·intro L s w2 h hk hd hn
       have s17 := h.e3 hd.1
       refine sP fun K hK => ?_
       exact rs_assign rfl s17 (hK _ _ { h with e4 := fun _ => rfl })
     ·intro L s w2 h hk hl
      refine cA ?_ (hQ2 s w2 (⟨h.mu, h.e4 (hl 4 (by decide))⟩))
      exact frame_eq hk (by kernel_rfl) (by kernel_rfl)
     ·intro c s w2 hc
      exact hc.elim
    rotate_left
    ·rintro _ _ _ h
     exact h.elim
    rintro s6 V ⟨h1, k2⟩
    simp only [mergeL]
    rw [k2]
    replace HA := sm h1 HA
    replace HM := lh (HM.out.stepM h1 (by simp))
    clear h1 k2
    refine HK6.out _ _ ?_
    have HRES := lh (show (decide (∀ s ∈ a, okS s)) = false from decide_eq_false fun h => HOK.out (h _ (tAt_mem (by have := HL.out; omega))))
    refine wp_ret ?_
    exact bodyPost_ret (v := .bool false) (by simp [results, Tryz.results66, go_sem]) rfl ⟨by rw [HRES.out], by rw [← HBW.out]; exact HM.out.to0⟩
theorem rf_Right_ok {a : List (Int × Int)} (ha : a.length = 22) (h : ∀ s ∈ a, okS s) (w : World) : Calls Tryz.prog 66 #[mval a] w fun e w' => e = .returned (.bool true) ∧ Below w.heap.size w w' := by
 have h2 := rf_Right a ha w
 rw [show decide (∀ s ∈ a, okS s) = true from decide_eq_true h] at h2
 exact h2
structure Rcok1 (V : World) (a : List (Int × Int)) (b : Nat) (L : Nat → Bool) (s : Nat → Value) (w : World) : Prop where
 mu : Mut [] V w
 e0 : L 0 = true → s 3 = mval a
 e1 : L 1 = true → s 4 = .bool true
 e2 : L 2 = true → s 5 = .bool false
set_option maxRecDepth 100000 in
set_option maxHeartbeats 4000000 in
theorem rf_Check_ok (a : List (Int × Int)) (ha : a.length = 22) (hok : ∀ s ∈ a, okS s) (w : World) : Calls Tryz.prog 35 #[mval a] w fun e w' => e = .returned (.int .i64 0) ∧ Below w.heap.size w w' := by
 have HL := lh ha
 have HOK := lh hok
 clear ha hok
 go_enter Tryz.func35, Tryz.ntmps35
 refine wsk fun K0 HK0 => ?_
 go_wp2_with fail
 rename_i x1 cs1 hc1
 obtain rfl : (mc a).toArray = cs1 := Value.agg.inj hc1
 clear hc1
 obtain ⟨b, hb⟩ : ∃ b, w.heap.size = b := ⟨_, rfl⟩
 refine HK0.out _ _ ?_
 refine wp_world (fun V => Mut [] w V ∧ V.heap[b]? = some (cobj 34 a)) ?_
  (by
   rw [← hb]
   exact ⟨((Mut.refl _ _).alloc _), heap_at (cobj 34 a) (by simp)⟩)
 rintro V ⟨hm, hHA⟩
 rw [hb]
 have HM := lh hm
 have HBW := lh hb
 have HLT := lh trivial
 have HA := lh hHA
 clear hm hHA hb HK0
 refine wsk fun KA HKA => ?_
 refine wsk fun K1 HK1 => ?_
 refine wp_cut_mergeP (nn :: nn :: nn :: some 3 :: some 4 :: some 5 :: []) (fun s w' => Mut [] V w' ∧ s 5 = .bool false) (fun _ _ => False) ?_ ?_ ?_
 ·intro Q2 hQ2 hP2
  refine wpG ?_
  refine wp_region_G (b := false) (Pn := (fun _ _ => False)) (Rcok1 V a b) (by kernel_rfl) (by kernel_rfl) ?_ ?_ ?_ ?_
  ·exact ⟨Mut.start _ false _, nB, nB, nB⟩
  ·refine AllSP.cons ?_ (AllSP.cons ?_ (AllSP.cons ?_ AllSP.nil))
   ·intro L s w2 h hk hd hn
    have s1 : s 1 = _ := hk 1 (by kernel_rfl)
    have kb := ((h.mu.same _ ((Array.getElem?_eq_some_iff.1 HA.out).1) (by simp)).trans HA.out)
    refine sP fun K hK => ?_
    exact rs_load rfl s1 (md_load kb HL.out) (hK _ _ { h with e0 := fun _ => rfl })
   ·intro L s w2 h hk hd hn
    have s3 := h.e0 hd.1
    refine sP fun K hK => ?_
    go_simp
    refine (rf_Right_ok HL.out HOK.out _).mono ?_
    rintro e w3 ⟨rfl, hb⟩
    exact .inl ⟨_, rfl, hK _ _ { h with mu := h.mu.step hb, e1 := fun _ => rfl }⟩
   ·intro L s w2 h hk hd hn
    have s4 := h.e1 hd.1
    refine sP fun K hK => ?_
    go_simp
    exact hK _ _ { h with e2 := fun _ => rfl }
  ·intro L s w2 h hk hl
   refine cA ?_ (hQ2 s w2 (⟨h.mu, h.e2 (hl 2 (by decide))⟩))
   exact frame_eq hk (by kernel_rfl) (by kernel_rfl)
  ·intro c s w2 hc
   exact hc.elim
 rotate_left
 ·rintro _ _ _ h
  exact h.elim
 rintro s1 V ⟨h1, k5⟩
 simp only [mergeL]
 rw [k5]
 replace HA := sm h1 HA
 replace HM := lh (HM.out.stepM h1 (by simp))
 clear h1 k5
 refine HK1.out _ _ ?_
 go_wp2_with fail
 refine HKA.out _ _ ?_
 go_wp2_with fail
 exact bodyPost_ret (v := .int .i64 0) (by simp [results, Tryz.results35, go_sem]) rfl ⟨rfl, by rw [← HBW.out]; exact HM.out.to0⟩
theorem rf_Right_bad {a : List (Int × Int)} (ha : a.length = 22) (h : ¬ (∀ s ∈ a, okS s)) (w : World) : Calls Tryz.prog 66 #[mval a] w fun e w' => e = .returned (.bool false) ∧ Below w.heap.size w w' := by
 have h2 := rf_Right a ha w
 rw [show decide (∀ s ∈ a, okS s) = false from decide_eq_false h] at h2
 exact h2
structure Rcbad1 (V : World) (a : List (Int × Int)) (b : Nat) (L : Nat → Bool) (s : Nat → Value) (w : World) : Prop where
 mu : Mut [] V w
 e0 : L 0 = true → s 3 = mval a
 e1 : L 1 = true → s 4 = .bool false
 e2 : L 2 = true → s 5 = .bool true
set_option maxRecDepth 100000 in
set_option maxHeartbeats 4000000 in
theorem rf_Check_bad (a : List (Int × Int)) (ha : a.length = 22) (hok : ¬ (∀ s ∈ a, okS s)) (w : World) : Calls Tryz.prog 35 #[mval a] w fun e w' => e = .returned (.int .i64 210) ∧ Below w.heap.size w w' := by
 have HL := lh ha
 have HOK := lh hok
 clear ha hok
 go_enter Tryz.func35, Tryz.ntmps35
 refine wsk fun K0 HK0 => ?_
 go_wp2_with fail
 rename_i x1 cs1 hc1
 obtain rfl : (mc a).toArray = cs1 := Value.agg.inj hc1
 clear hc1
 obtain ⟨b, hb⟩ : ∃ b, w.heap.size = b := ⟨_, rfl⟩
 refine HK0.out _ _ ?_
 refine wp_world (fun V => Mut [] w V ∧ V.heap[b]? = some (cobj 34 a)) ?_
  (by
   rw [← hb]
   exact ⟨((Mut.refl _ _).alloc _), heap_at (cobj 34 a) (by simp)⟩)
 rintro V ⟨hm, hHA⟩
 rw [hb]
 have HM := lh hm
 have HBW := lh hb
 have HLT := lh trivial
 have HA := lh hHA
 clear hm hHA hb HK0
 refine wsk fun KA HKA => ?_
 refine wsk fun K1 HK1 => ?_
 refine wp_cut_mergeP (nn :: nn :: nn :: some 3 :: some 4 :: some 5 :: []) (fun s w' => Mut [] V w' ∧ s 5 = .bool true) (fun _ _ => False) ?_ ?_ ?_
 ·intro Q2 hQ2 hP2
  refine wpG ?_
  refine wp_region_G (b := false) (Pn := (fun _ _ => False)) (Rcbad1 V a b) (by kernel_rfl) (by kernel_rfl) ?_ ?_ ?_ ?_
  ·exact ⟨Mut.start _ false _, nB, nB, nB⟩
  ·refine AllSP.cons ?_ (AllSP.cons ?_ (AllSP.cons ?_ AllSP.nil))
   ·intro L s w2 h hk hd hn
    have s1 : s 1 = _ := hk 1 (by kernel_rfl)
    have kb := ((h.mu.same _ ((Array.getElem?_eq_some_iff.1 HA.out).1) (by simp)).trans HA.out)
    refine sP fun K hK => ?_
    exact rs_load rfl s1 (md_load kb HL.out) (hK _ _ { h with e0 := fun _ => rfl })
   ·intro L s w2 h hk hd hn
    have s3 := h.e0 hd.1
    refine sP fun K hK => ?_
    go_simp
    refine (rf_Right_bad HL.out HOK.out _).mono ?_
    rintro e w3 ⟨rfl, hb⟩
    exact .inl ⟨_, rfl, hK _ _ { h with mu := h.mu.step hb, e1 := fun _ => rfl }⟩
   ·intro L s w2 h hk hd hn
    have s4 := h.e1 hd.1
    refine sP fun K hK => ?_
    go_simp
    exact hK _ _ { h with e2 := fun _ => rfl }
  ·intro L s w2 h hk hl
   refine cA ?_ (hQ2 s w2 (⟨h.mu, h.e2 (hl 2 (by decide))⟩))
   exact frame_eq hk (by kernel_rfl) (by kernel_rfl)
  ·intro c s w2 hc
   exact hc.elim
 rotate_left
 ·rintro _ _ _ h
  exact h.elim
 rintro s1 V ⟨h1, k5⟩
 simp only [mergeL]
 rw [k5]
 replace HA := sm h1 HA
 replace HM := lh (HM.out.stepM h1 (by simp))
 clear h1 k5
 refine HK1.out _ _ ?_
 go_wp2_with fail
 exact bodyPost_ret (v := .int .i64 210) (by simp [results, Tryz.results35, go_sem]) rfl ⟨rfl, by rw [← HBW.out]; exact HM.out.to0⟩
theorem rf_Check (a : List (Int × Int)) (ha : a.length = 22) (w : World) : Calls Tryz.prog 35 #[mval a] w fun e w' => e = .returned (.int .i64 (tRight a).2) ∧ Below w.heap.size w w' := by
 by_cases h : ∀ s ∈ a, okS s
 ·rw [show (tRight a).2 = 0 from if_pos h]
  exact rf_Check_ok a ha h w
 ·rw [show (tRight a).2 = 210 from if_neg h]
  exact rf_Check_bad a ha h w
end Go.Proofs.YthhkcfpljgdnhaaGreat
