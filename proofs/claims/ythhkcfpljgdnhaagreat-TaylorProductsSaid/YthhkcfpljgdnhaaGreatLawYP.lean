/- The reference of layer 21: pairs. Printed by wip/genSU.py. -/
import Derived.Test.YthhkcfpljgdnhaaGreatTayArr
import Derived.Test.YthhkcfpljgdnhaaGreatDrU
import Derived.Test.YthhkcfpljgdnhaaGreatLawYX
namespace Go.Proofs.YthhkcfpljgdnhaaGreat
open Go.RowKit Mnc
attribute [local go_sem] RunSP_value RunSP_skip RunSP_enter evS_tmp evS_const evS_global evS_func
theorem ld_m20 {W : World} {B : Nat} {t : TypeId} {a b : List (Int × Int)} (h : W.heap[B]? = some (cobj t (a ++ b))) (ha : a.length = 22) : (Instr.loadAt 34 (.pointer (some ⟨B, 0, none⟩))).run Tryz.prog W = .ok (mval a) W := by
 obtain ⟨d, hd⟩ := Option.isSome_iff_exists.1 (show (Tryz.prog.underlying 34).isSome = true by kernel_rfl)
 have hr : d.isRow = true := by
  have hm : (Tryz.prog.underlying 34).map TypeDesc.isRow = some true := by kernel_rfl
  rw [hd] at hm
  exact Option.some.inj hm
 refine run_loadAt_mid W B 0 _ (mc a) d (fun j v hv => cobj_all h j v ?_) hd hr (by rw [mc_length, ha]; kernel_rfl)
 rw [mc_app, List.getElem?_append_left (List.getElem?_eq_some_iff.1 hv).1]
 exact hv
theorem ld_m21 {W : World} {B : Nat} {t : TypeId} {a b : List (Int × Int)} (h : W.heap[B]? = some (cobj t (a ++ b))) (ha : a.length = 22) (hb : b.length = 22) : (Instr.loadAt 34 (.pointer (some ⟨B, 44, none⟩))).run Tryz.prog W = .ok (mval b) W := by
 obtain ⟨d, hd⟩ := Option.isSome_iff_exists.1 (show (Tryz.prog.underlying 34).isSome = true by kernel_rfl)
 have hr : d.isRow = true := by
  have hm : (Tryz.prog.underlying 34).map TypeDesc.isRow = some true := by kernel_rfl
  rw [hd] at hm
  exact Option.some.inj hm
 refine run_loadAt_mid W B 44 _ (mc b) d (fun j v hv => ?_) hd hr (by rw [mc_length, hb]; kernel_rfl)
 have := cobj_all h (44 + j) v (by
  rw [mc_app, List.getElem?_append_right (by rw [mc_length, ha]; omega), mc_length, ha]
  rw [show 44 + j - 2 * 22 = j by omega]
  exact hv)
 simpa using this
theorem st_m2 {W : World} {B : Nat} {t : TypeId} {a : List (Int × Int)} (h : W.heap[B]? = some (cobj t a)) (hl : a.length = 44) (m : List (Int × Int)) (hm : m.length = 44) : (Instr.storeAt 35 (.pointer (some ⟨B, 0, none⟩)) (mval m)).run Tryz.prog W = .ok () (W.putObj B (cobj t m)) := by
 have hr := run_storeVar_row (P := Tryz.prog) W B t 35 (mc a).toArray (mc m).toArray h (by rw [List.size_toArray, mc_length, hm]; kernel_rfl) (by simp [mc_length, hl, hm]) (mc_one m)
 have e : W.setRow B (mc m).toArray = W.putObj B (cobj t m) := setRow_put h _
 rw [← e, ← hr]
 simp only [Instr.storeAt, Instr.sureAddr, Sem.run_bind, Sem.run_pure, Result.andThen_ok]
 rfl
theorem st_mp {W : World} {B : Nat} {t : TypeId} {a : List (Int × Int)} (h : W.heap[B]? = some (cobj t a)) (hl : a.length = 176) (m : List (Int × Int)) (hm : m.length = 176) : (Instr.storeAt 36 (.pointer (some ⟨B, 0, none⟩)) (mval m)).run Tryz.prog W = .ok () (W.putObj B (cobj t m)) := by
 have hr := run_storeVar_row (P := Tryz.prog) W B t 36 (mc a).toArray (mc m).toArray h (by rw [List.size_toArray, mc_length, hm]; kernel_rfl) (by simp [mc_length, hl, hm]) (mc_one m)
 have e : W.setRow B (mc m).toArray = W.putObj B (cobj t m) := setRow_put h _
 rw [← e, ← hr]
 simp only [Instr.storeAt, Instr.sureAddr, Sem.run_bind, Sem.run_pure, Result.andThen_ok]
 rfl
theorem lv_mp {W : World} {B : Nat} {t : TypeId} {a : List (Int × Int)} (h : W.heap[B]? = some (cobj t a)) (hl : a.length = 176) : (loadVar 36 ⟨B, 0, none⟩).run Tryz.prog W = .ok (mval a) W := by
 obtain ⟨d, hd⟩ := Option.isSome_iff_exists.1 (show (Tryz.prog.underlying 36).isSome = true by kernel_rfl)
 have hr : d.isRow = true := by
  have hm : (Tryz.prog.underlying 36).map TypeDesc.isRow = some true := by kernel_rfl
  rw [hd] at hm
  exact Option.some.inj hm
 exact run_loadVar_mid W B 0 _ _ d (cobj_all h) hd hr (by rw [mc_length, hl]; kernel_rfl)
theorem calls_as {f : FuncId} {args : Array Value} {w : World} {x y : List (Int × Int)} (h : x = y) (k : Calls Tryz.prog f args w fun e w' => e = .returned (mval x) ∧ Below w.heap.size w w') : Calls Tryz.prog f args w fun e w' => e = .returned (mval y) ∧ Below w.heap.size w w' := by
 subst h
 exact k
theorem res_cell {fn : Func} {tmps : Array Value} {i B : Nat} {t : TypeId} {W : World} {v : Value} (hf : fn.results = #[.cell i t]) (ht : tmps.getD i undef = .pointer (some ⟨B, 0, none⟩)) (hl : (loadVar t ⟨B, 0, none⟩).run Tryz.prog W = .ok v W) :
  (results fn tmps).run Tryz.prog W = .ok v W := by
 unfold results
 rw [hf]
 simp only [Array.mapM_eq_mapM_toList, List.mapM_cons, List.mapM_nil, ht, asAddr, pure_bind, map_eq_pure_bind, bind_assoc, Sem.run_bind, hl, Result.andThen, Sem.run_pure]
 rfl
structure Zg1 (V : World) (c : Int) (r : Int) (ts : List Tm) (ao : Option Addr) (cap : Nat) (c2 : Int) (r2 : Int) (ts2 : List Tm) (ao2 : Option Addr) (cap2 : Nat) (M1 : List (Int × Int)) (M2 : List (Int × Int)) (L : Nat → Bool) (s : Nat → Value) (w : World) : Prop where
 mu : Mut [] V w
 e0 : L 0 = true → s 9 = .agg #[.int .i16 c, .slice ao ts.length cap, .int .u16 r]
 e1 : L 1 = true → s 10 = mval M1
 e2 : L 2 = true → s 11 = .agg #[.int .i16 c2, .slice ao2 ts2.length cap2, .int .u16 r2]
 e3 : L 3 = true → s 12 = mval M2
 al_x : L 4 = true → ∃ g : Nat, s 7 = .pointer (some ⟨g, 0, none⟩) ∧ V.heap.size ≤ g ∧ g < w.heap.size ∧ (L 6 = false → w.heap[g]? = some (cobj 34 zeroM)) ∧ (L 6 = true → w.heap[g]? = some (cobj 34 M1))
 dn_x_y : L 4 = true → L 5 = true → s 7 ≠ s 8
 al_y : L 5 = true → ∃ g : Nat, s 8 = .pointer (some ⟨g, 0, none⟩) ∧ V.heap.size ≤ g ∧ g < w.heap.size ∧ (L 7 = false → w.heap[g]? = some (cobj 34 zeroM)) ∧ (L 7 = true → w.heap[g]? = some (cobj 34 M2))
 b6_4 : L 6 = true → L 4 = true
 b7_5 : L 7 = true → L 5 = true
structure Zg2 (V : World) (c : Int) (r : Int) (ts : List Tm) (ao : Option Addr) (cap : Nat) (c2 : Int) (r2 : Int) (ts2 : List Tm) (ao2 : Option Addr) (cap2 : Nat) (p : Int) (lo : Int) (hi : Int) (M1 : List (Int × Int)) (M2 : List (Int × Int)) (B1 : List (Int × Int)) (B2 : List (Int × Int)) (N1 : List (Int × Int)) (N2 : List (Int × Int)) (b : Nat) (L : Nat → Bool) (s : Nat → Value) (w : World) : Prop where
 mu : Mut [b + 1 + 1 + 1] V w
 kt_r : L 19 = false → w.heap[b + 1 + 1 + 1]? = some (cobj 36 (List.replicate 176 (0, 0)))
 kr_r : L 19 = true → w.heap[b + 1 + 1 + 1]? = some (cobj 36 (M1 ++ M2 ++ B1 ++ M2 ++ M1 ++ B2 ++ N1 ++ N2))
 e0 : L 0 = true → s 13 = mval M1
 e1 : L 1 = true → s 14 = mval M2
 e2 : L 2 = true → s 15 = mval (M1 ++ M2)
 e3 : L 3 = true → s 16 = .agg #[.int .u8 p, .int .i64 lo, .int .i64 hi]
 e4 : L 4 = true → s 17 = mval M1
 e5 : L 5 = true → s 18 = mval B1
 e6 : L 6 = true → s 19 = mval M2
 e7 : L 7 = true → s 20 = mval (B1 ++ M2)
 e8 : L 8 = true → s 21 = mval M1
 e9 : L 9 = true → s 22 = .agg #[.int .u8 p, .int .i64 lo, .int .i64 hi]
 e10 : L 10 = true → s 23 = mval M2
 e11 : L 11 = true → s 24 = mval B2
 e12 : L 12 = true → s 25 = mval (M1 ++ B2)
 e13 : L 13 = true → s 26 = .agg #[.int .i16 c, .slice ao ts.length cap, .int .u16 r]
 e14 : L 14 = true → s 27 = mval N1
 e15 : L 15 = true → s 28 = .agg #[.int .i16 c2, .slice ao2 ts2.length cap2, .int .u16 r2]
 e16 : L 16 = true → s 29 = mval N2
 e17 : L 17 = true → s 30 = mval (N1 ++ N2)
 e18 : L 18 = true → s 31 = mval (M1 ++ M2 ++ B1 ++ M2 ++ M1 ++ B2 ++ N1 ++ N2)
set_option maxRecDepth 100000 in
set_option maxHeartbeats 8000000 in
theorem law21_prs (c r : Int) (ts : List Tm) (ao : Option Addr) (cap : Nat) (c2 r2 : Int) (ts2 : List Tm) (ao2 : Option Addr) (cap2 : Nat) (p lo hi : Int) (hy : (-32768 ≤ c ∧ c ≤ 32767) ∧ (0 ≤ r ∧ r ≤ 65535) ∧ (-32768 ≤ c2 ∧ c2 ≤ 32767) ∧ (0 ≤ r2 ∧ r2 ≤ 65535) ∧ 0 ≤ p ∧ p ≤ 255) (w : World) (ht : TmSl w ao cap ts) (ht2 : TmSl w ao2 cap2 ts2) :
  Calls Tryz.prog 7 #[.agg #[.int .i16 c, .slice ao ts.length cap, .int .u16 r], .agg #[.int .i16 c2, .slice ao2 ts2.length cap2, .int .u16 r2], .agg #[.int .u8 p, .int .i64 lo, .int .i64 hi]] w fun e w' => e = .returned (mval ((dModel c ts r) ++ (dModel c2 ts2 r2) ++ (bendOf p (lo, hi) (dModel c ts r)) ++ (dModel c2 ts2 r2) ++ (dModel c ts r) ++ (bendOf p (lo, hi) (dModel c2 ts2 r2)) ++ (dNear c ts r) ++ (dNear c2 ts2 r2))) ∧ Below w.heap.size w w' := by
 have HY := lh hy
 have HT := lh ht
 have HT2 := lh ht2
 clear hy ht ht2
 obtain ⟨M1, hM1⟩ : ∃ x, dModel c ts r = x := ⟨_, rfl⟩
 have HLM1 := lh (show M1.length = 22 by rw [← hM1]; exact dModel_len _ _ _)
 have HEM1 := lh hM1
 obtain ⟨M2, hM2⟩ : ∃ x, dModel c2 ts2 r2 = x := ⟨_, rfl⟩
 have HLM2 := lh (show M2.length = 22 by rw [← hM2]; exact dModel_len _ _ _)
 have HEM2 := lh hM2
 obtain ⟨B1, hB1⟩ : ∃ x, bendOf p (lo, hi) (dModel c ts r) = x := ⟨_, rfl⟩
 have HLB1 := lh (show B1.length = 22 by rw [← hB1]; exact (bendOf_len p (lo, hi) (dModel c ts r)).trans (dModel_len _ _ _))
 have HEB1 := lh hB1
 obtain ⟨B2, hB2⟩ : ∃ x, bendOf p (lo, hi) (dModel c2 ts2 r2) = x := ⟨_, rfl⟩
 have HLB2 := lh (show B2.length = 22 by rw [← hB2]; exact (bendOf_len p (lo, hi) (dModel c2 ts2 r2)).trans (dModel_len _ _ _))
 have HEB2 := lh hB2
 obtain ⟨N1, hN1⟩ : ∃ x, dNear c ts r = x := ⟨_, rfl⟩
 have HLN1 := lh (show N1.length = 22 by rw [← hN1]; exact dNear_len _ _ _)
 have HEN1 := lh hN1
 obtain ⟨N2, hN2⟩ : ∃ x, dNear c2 ts2 r2 = x := ⟨_, rfl⟩
 have HLN2 := lh (show N2.length = 22 by rw [← hN2]; exact dNear_len _ _ _)
 have HEN2 := lh hN2
 rw [hB1, hB2, hN1, hN2, hM1, hM2]
 clear hM1 hM2 hB1 hB2 hN1 hN2
 go_enter Tryz.func7, Tryz.ntmps7
 refine wsk fun K0 HK0 => ?_
 go_wp2_with fail
 obtain ⟨b, hb⟩ : ∃ b, w.heap.size = b := ⟨_, rfl⟩
 refine HK0.out _ _ ?_
 refine wp_world (fun V => Mut [] w V ∧ V.heap[b]? = some (.cells #[.int .i16 c, .slice ao ts.length cap, .int .u16 r] 26 (0, 0)) ∧ V.heap[b + 1]? = some (.cells #[.int .i16 c2, .slice ao2 ts2.length cap2, .int .u16 r2] 26 (0, 0)) ∧ V.heap[b + 1 + 1]? = some (.cells #[.int .u8 p, .int .i64 lo, .int .i64 hi] 28 (0, 0)) ∧ V.heap[b + 1 + 1 + 1]? = some (cobj 36 (List.replicate 176 (0, 0)))) ?_
  (by
   rw [← hb]
   exact ⟨(((((Mut.refl _ _).alloc _).alloc _).alloc _).alloc _), heap_up _ (heap_up _ (heap_up _ (heap_at (.cells #[.int .i16 c, .slice ao ts.length cap, .int .u16 r] 26 (0, 0)) (by simp)))), heap_up _ (heap_up _ (heap_at (.cells #[.int .i16 c2, .slice ao2 ts2.length cap2, .int .u16 r2] 26 (0, 0)) (by simp))), heap_up _ (heap_at (.cells #[.int .u8 p, .int .i64 lo, .int .i64 hi] 28 (0, 0)) (by simp)), heap_at (cobj 36 (List.replicate 176 (0, 0))) (by simp)⟩)
 rintro V ⟨hm, hHD, hHD2, hHQ, hHR⟩
 rw [hb]
 have HM := lh hm
 have HBW := lh hb
 have HLT := lh trivial
 have HD := lh hHD
 have HD2 := lh hHD2
 have HQ := lh hHQ
 have HR := lh hHR
 clear hm hHD hHD2 hHQ hHR hb HK0
 refine wsk fun K1 HK1 => ?_
 refine wp_cut_mergeP (nn :: nn :: nn :: nn :: nn :: nn :: nn :: some 7 :: some 8 :: some 9 :: some 10 :: some 11 :: some 12 :: n8 (n8 (nn :: nn :: nn :: []))) (fun s w' => Mut [] V w' ∧ (∃ g : Nat, s 7 = .pointer (some ⟨g, 0, none⟩) ∧ V.heap.size ≤ g ∧ w'.heap[g]? = some (cobj 34 M1)) ∧ (∃ g : Nat, s 8 = .pointer (some ⟨g, 0, none⟩) ∧ V.heap.size ≤ g ∧ w'.heap[g]? = some (cobj 34 M2))) (fun _ _ => False) ?_ ?_ ?_
 ·intro Q2 hQ2 hP2
  refine wpG ?_
  refine wp_region_G (b := true) (Pn := (fun _ _ => False)) (Zg1 V c r ts ao cap c2 r2 ts2 ao2 cap2 M1 M2) (by kernel_rfl) (by kernel_rfl) ?_ ?_ ?_ ?_
  ·exact ⟨Mut.start _ true _, nB, nB, nB, nB, nB, nB, nB, nB, nB⟩
  ·refine AllSP.cons ?_ (AllSP.cons ?_ (AllSP.cons ?_ (AllSP.cons ?_ (AllSP.cons ?_ (AllSP.cons ?_ (AllSP.cons ?_ (AllSP.cons ?_ AllSP.nil)))))))
   ·intro L s w2 h hk hd hn
    have s3 : s 3 = _ := hk 3 (by kernel_rfl)
    have kqka := (h.mu.same _ (lt_of_block HD.out) (by simp)).trans HD.out
    have ka : w2.cell? ⟨b, 0, none⟩ = some (.int .i16 c) := by rw [cell_of_row w2 (b) 0 _ _ _ kqka]; rfl
    have kqkb := (h.mu.same _ (lt_of_block HD.out) (by simp)).trans HD.out
    have kb : w2.cell? ⟨b, 1, none⟩ = some (.slice ao ts.length cap) := by rw [cell_of_row w2 (b) 1 _ _ _ kqkb]; rfl
    have kqkc := (h.mu.same _ (lt_of_block HD.out) (by simp)).trans HD.out
    have kc : w2.cell? ⟨b, 2, none⟩ = some (.int .u16 r) := by rw [cell_of_row w2 (b) 2 _ _ _ kqkc]; rfl
    refine sP fun K hK => ?_
    go_simp
    exact hK _ _ { h with e0 := fun _ => rfl }
   ·intro L s w2 h hk hd hn
    have s9 := h.e0 hd.1
    refine sP fun K hK => ?_
    go_simp
    refine (calls_as HEM1.out (dr_Model c r ts ao cap HY.out.1 HY.out.2.1 _ (HT.out.on ((HM.out.stepM h.mu (by have := HBW.out; have := HLT.out; intro x hx; simp at hx <;> (right; omega))).to0)))).mono ?_
    rintro e w3 ⟨rfl, hb⟩
    exact .inl ⟨_, rfl, hK _ _ { h with mu := h.mu.step hb, al_x := fun a => let ⟨g, h0, h1, hl, h2, h3⟩ := h.al_x a; ⟨g, h0, h1, Nat.lt_of_lt_of_le hl hb.size, fun c => (hb.block _ (lt_of_block (h2 c))).trans (h2 c), fun c => (hb.block _ (lt_of_block (h3 c))).trans (h3 c)⟩, al_y := fun a => let ⟨g, h0, h1, hl, h2, h3⟩ := h.al_y a; ⟨g, h0, h1, Nat.lt_of_lt_of_le hl hb.size, fun c => (hb.block _ (lt_of_block (h2 c))).trans (h2 c), fun c => (hb.block _ (lt_of_block (h3 c))).trans (h3 c)⟩, e1 := fun _ => rfl }⟩
   ·intro L s w2 h hk hd hn
    have s4 : s 4 = _ := hk 4 (by kernel_rfl)
    have kqka := (h.mu.same _ (lt_of_block HD2.out) (by simp)).trans HD2.out
    have ka : w2.cell? ⟨b + 1, 0, none⟩ = some (.int .i16 c2) := by rw [cell_of_row w2 (b + 1) 0 _ _ _ kqka]; rfl
    have kqkb := (h.mu.same _ (lt_of_block HD2.out) (by simp)).trans HD2.out
    have kb : w2.cell? ⟨b + 1, 1, none⟩ = some (.slice ao2 ts2.length cap2) := by rw [cell_of_row w2 (b + 1) 1 _ _ _ kqkb]; rfl
    have kqkc := (h.mu.same _ (lt_of_block HD2.out) (by simp)).trans HD2.out
    have kc : w2.cell? ⟨b + 1, 2, none⟩ = some (.int .u16 r2) := by rw [cell_of_row w2 (b + 1) 2 _ _ _ kqkc]; rfl
    refine sP fun K hK => ?_
    go_simp
    exact hK _ _ { h with e2 := fun _ => rfl }
   ·intro L s w2 h hk hd hn
    have s11 := h.e2 hd.1
    refine sP fun K hK => ?_
    go_simp
    refine (calls_as HEM2.out (dr_Model c2 r2 ts2 ao2 cap2 HY.out.2.2.1 HY.out.2.2.2.1 _ (HT2.out.on ((HM.out.stepM h.mu (by have := HBW.out; have := HLT.out; intro x hx; simp at hx <;> (right; omega))).to0)))).mono ?_
    rintro e w3 ⟨rfl, hb⟩
    exact .inl ⟨_, rfl, hK _ _ { h with mu := h.mu.step hb, al_x := fun a => let ⟨g, h0, h1, hl, h2, h3⟩ := h.al_x a; ⟨g, h0, h1, Nat.lt_of_lt_of_le hl hb.size, fun c => (hb.block _ (lt_of_block (h2 c))).trans (h2 c), fun c => (hb.block _ (lt_of_block (h3 c))).trans (h3 c)⟩, al_y := fun a => let ⟨g, h0, h1, hl, h2, h3⟩ := h.al_y a; ⟨g, h0, h1, Nat.lt_of_lt_of_le hl hb.size, fun c => (hb.block _ (lt_of_block (h2 c))).trans (h2 c), fun c => (hb.block _ (lt_of_block (h3 c))).trans (h3 c)⟩, e3 := fun _ => rfl }⟩
   ·intro L s w2 h hk hd hn
    refine sP fun K hK => ?_
    go_simp
    exact hK _ _ { h with mu := h.mu.alloc _, al_y := fun a => let ⟨g, h0, h1, hl, h2, h3⟩ := h.al_y a; ⟨g, h0, h1, by simp; omega, fun c => heap_up _ (h2 c), fun c => heap_up _ (h3 c)⟩, dn_x_y := fun _ b => let ⟨g, h0, _, hl, _, _⟩ := h.al_y b; ptr_ne hl h0, al_x := fun _ => ⟨_, rfl, h.mu.size, by simp, fun _ => heap_at _ rfl, fun a => absurd (h.b6_4 a) (by rw [hn]; exact bft)⟩, b6_4 := fun _ => rfl }
   ·intro L s w2 h hk hd hn
    refine sP fun K hK => ?_
    go_simp
    exact hK _ _ { h with mu := h.mu.alloc _, al_x := fun a => let ⟨g, h0, h1, hl, h2, h3⟩ := h.al_x a; ⟨g, h0, h1, by simp; omega, fun c => heap_up _ (h2 c), fun c => heap_up _ (h3 c)⟩, dn_x_y := fun a _ => let ⟨g, h0, _, hl, _, _⟩ := h.al_x a; (ptr_ne hl h0).symm, al_y := fun _ => ⟨_, rfl, h.mu.size, by simp, fun _ => heap_at _ rfl, fun a => absurd (h.b7_5 a) (by rw [hn]; exact bft)⟩, b7_5 := fun _ => rfl }
   ·intro L s w2 h hk hd hn
    have s10 := h.e1 hd.2.1
    obtain ⟨g, hg0, hg1, hgl, hg2, hg3⟩ := h.al_x hd.1
    have kb := hg2 hn
    refine sP fun K hK => ?_
    exact rs_store rfl hg0 s10 (md_store kb rfl _ HLM1.out) (hK _ _ { h with mu := h.mu.putNew hg1 _, al_y := fun a => let ⟨g2, h0, h1, hl, h2, h3⟩ := h.al_y a; have hne := ptr_inj (h.dn_x_y hd.1 a) hg0 h0; ⟨g2, h0, h1, by simpa using hl, fun c => (World.putObj_heap_other (Ne.symm hne)).trans (h2 c), fun c => (World.putObj_heap_other (Ne.symm hne)).trans (h3 c)⟩, al_x := fun a => ⟨g, hg0, hg1, by simpa using hgl, nF, fun _ => pH kb⟩, b6_4 := fun _ => hd.1 })
   ·intro L s w2 h hk hd hn
    have s12 := h.e3 hd.2.1
    obtain ⟨g, hg0, hg1, hgl, hg2, hg3⟩ := h.al_y hd.1
    have kb := hg2 hn
    refine sP fun K hK => ?_
    exact rs_store rfl hg0 s12 (md_store kb rfl _ HLM2.out) (hK _ _ { h with mu := h.mu.putNew hg1 _, al_x := fun a => let ⟨g2, h0, h1, hl, h2, h3⟩ := h.al_x a; have hne := ptr_inj ((h.dn_x_y a hd.1).symm) hg0 h0; ⟨g2, h0, h1, by simpa using hl, fun c => (World.putObj_heap_other (Ne.symm hne)).trans (h2 c), fun c => (World.putObj_heap_other (Ne.symm hne)).trans (h3 c)⟩, al_y := fun a => ⟨g, hg0, hg1, by simpa using hgl, nF, fun _ => pH kb⟩, b7_5 := fun _ => hd.1 })
  ·intro L s w2 h hk hl
   refine cA ?_ (hQ2 s w2 (⟨h.mu, (let ⟨g, h0, h1, _, _, h3⟩ := h.al_x (hl 4 (by decide)); ⟨g, h0, h1, h3 (hl 6 (by decide))⟩), (let ⟨g, h0, h1, _, _, h3⟩ := h.al_y (hl 5 (by decide)); ⟨g, h0, h1, h3 (hl 7 (by decide))⟩)⟩))
   exact frame_eq hk (by kernel_rfl) (by kernel_rfl)
  ·intro c s w2 hc
   exact hc.elim
 rotate_left
 ·rintro _ _ _ h
  exact h.elim
 rintro s1 V ⟨h1, ⟨g0, k_x, g_x, c_x⟩, ⟨g1, k_y, g_y, c_y⟩⟩
 simp only [mergeL]
 rw [k_x]
 rw [k_y]
 replace HLT := lh (show b ≤ g0 ∧ b ≤ g1 ∧ b < g0 ∧ b + 1 < g0 ∧ b + 1 + 1 < g0 ∧ b + 1 + 1 + 1 < g0 ∧ b < g1 ∧ b + 1 < g1 ∧ b + 1 + 1 < g1 ∧ b + 1 + 1 + 1 < g1 from by
  have hlt := HLT.out
  have hbw := HM.out.size
  have hbw2 := HBW.out
  have := lt_of_block HD.out
  have := lt_of_block HD2.out
  have := lt_of_block HQ.out
  have := lt_of_block HR.out
  omega)
 replace HD := sm h1 HD
 replace HD2 := sm h1 HD2
 replace HQ := sm h1 HQ
 replace HR := sm h1 HR
 have HX := lh c_x
 have HYY := lh c_y
 replace HM := lh (HM.out.stepM h1 (by simp))
 clear h1 k_x g_x c_x k_y g_y c_y
 refine HK1.out _ _ ?_
 refine wsk fun K2 HK2 => ?_
 refine wp_cut_mergeP (n8 (nn :: nn :: nn :: nn :: nn :: some 13 :: some 14 :: some 15 :: some 16 :: some 17 :: some 18 :: some 19 :: some 20 :: some 21 :: some 22 :: some 23 :: some 24 :: some 25 :: some 26 :: some 27 :: some 28 :: some 29 :: some 30 :: some 31 :: [])) (fun _ w' => Mut [b + 1 + 1 + 1] V w' ∧ w'.heap[b + 1 + 1 + 1]? = some (cobj 36 (M1 ++ M2 ++ B1 ++ M2 ++ M1 ++ B2 ++ N1 ++ N2))) (fun _ _ => False) ?_ ?_ ?_
 ·intro Q2 hQ2 hP2
  refine wpG ?_
  refine wp_region_G (b := true) (Pn := (fun _ _ => False)) (Zg2 V c r ts ao cap c2 r2 ts2 ao2 cap2 p lo hi M1 M2 B1 B2 N1 N2 b) (by kernel_rfl) (by kernel_rfl) ?_ ?_ ?_ ?_
  ·exact ⟨Mut.start _ true _, fun _ => HR.out, nB, nB, nB, nB, nB, nB, nB, nB, nB, nB, nB, nB, nB, nB, nB, nB, nB, nB, nB, nB⟩
  ·refine AllSP.cons ?_ (AllSP.cons ?_ (AllSP.cons ?_ (AllSP.cons ?_ (AllSP.cons ?_ (AllSP.cons ?_ (AllSP.cons ?_ (AllSP.cons ?_ (AllSP.cons ?_ (AllSP.cons ?_ (AllSP.cons ?_ (AllSP.cons ?_ (AllSP.cons ?_ (AllSP.cons ?_ (AllSP.cons ?_ (AllSP.cons ?_ (AllSP.cons ?_ (AllSP.cons ?_ (AllSP.cons ?_ (AllSP.cons ?_ AllSP.nil)))))))))))))))))))
   ·intro L s w2 h hk hd hn
    have s7 : s 7 = _ := hk 7 (by kernel_rfl)
    have kb := ((h.mu.same _ ((Array.getElem?_eq_some_iff.1 HX.out).1) (notin1 (by have := HLT.out; omega))).trans HX.out)
    refine sP fun K hK => ?_
    exact rs_load rfl s7 (md_load kb HLM1.out) (hK _ _ { h with e0 := fun _ => rfl })
   ·intro L s w2 h hk hd hn
    have s8 : s 8 = _ := hk 8 (by kernel_rfl)
    have kb := ((h.mu.same _ ((Array.getElem?_eq_some_iff.1 HYY.out).1) (notin1 (by have := HLT.out; omega))).trans HYY.out)
    refine sP fun K hK => ?_
    exact rs_load rfl s8 (md_load kb HLM2.out) (hK _ _ { h with e1 := fun _ => rfl })
   ·intro L s w2 h hk hd hn
    have s13 := h.e0 hd.1
    have s14 := h.e1 hd.2.1
    refine sP fun K hK => ?_
    exact rs_bld rfl (by simp [evS_tmp, s13, s14]) (bd_m2 HLM1.out HLM2.out _) (hK _ _ { h with e2 := fun _ => rfl })
   ·intro L s w2 h hk hd hn
    have s5 : s 5 = _ := hk 5 (by kernel_rfl)
    have kqka := (h.mu.same _ (lt_of_block HQ.out) (notin1 (by omega))).trans HQ.out
    have ka : w2.cell? ⟨b + 1 + 1, 0, none⟩ = some (.int .u8 p) := by rw [cell_of_row w2 (b + 1 + 1) 0 _ _ _ kqka]; rfl
    have kqkb := (h.mu.same _ (lt_of_block HQ.out) (notin1 (by omega))).trans HQ.out
    have kb : w2.cell? ⟨b + 1 + 1, 1, none⟩ = some (.int .i64 lo) := by rw [cell_of_row w2 (b + 1 + 1) 1 _ _ _ kqkb]; rfl
    have kqkc := (h.mu.same _ (lt_of_block HQ.out) (notin1 (by omega))).trans HQ.out
    have kc : w2.cell? ⟨b + 1 + 1, 2, none⟩ = some (.int .i64 hi) := by rw [cell_of_row w2 (b + 1 + 1) 2 _ _ _ kqkc]; rfl
    refine sP fun K hK => ?_
    go_simp
    exact hK _ _ { h with e3 := fun _ => rfl }
   ·intro L s w2 h hk hd hn
    have s7 : s 7 = _ := hk 7 (by kernel_rfl)
    have kb := ((h.mu.same _ ((Array.getElem?_eq_some_iff.1 HX.out).1) (notin1 (by have := HLT.out; omega))).trans HX.out)
    refine sP fun K hK => ?_
    exact rs_load rfl s7 (md_load kb HLM1.out) (hK _ _ { h with e4 := fun _ => rfl })
   ·intro L s w2 h hk hd hn
    have s16 := h.e3 hd.1
    have s17 := h.e4 hd.2.1
    refine sP fun K hK => ?_
    go_simp
    refine (calls_as (HEM1.out ▸ HEB1.out) (dr_Of p lo hi M1 HY.out.2.2.2.2 HLM1.out _)).mono ?_
    rintro e w3 ⟨rfl, hb⟩
    exact .inl ⟨_, rfl, hK _ _ { h with mu := h.mu.step hb, kt_r := fun a => bk hb (h.kt_r a), kr_r := fun a => bk hb (h.kr_r a), e5 := fun _ => rfl }⟩
   ·intro L s w2 h hk hd hn
    have s8 : s 8 = _ := hk 8 (by kernel_rfl)
    have kb := ((h.mu.same _ ((Array.getElem?_eq_some_iff.1 HYY.out).1) (notin1 (by have := HLT.out; omega))).trans HYY.out)
    refine sP fun K hK => ?_
    exact rs_load rfl s8 (md_load kb HLM2.out) (hK _ _ { h with e6 := fun _ => rfl })
   ·intro L s w2 h hk hd hn
    have s18 := h.e5 hd.1
    have s19 := h.e6 hd.2.1
    refine sP fun K hK => ?_
    exact rs_bld rfl (by simp [evS_tmp, s18, s19]) (bd_m2 HLB1.out HLM2.out _) (hK _ _ { h with e7 := fun _ => rfl })
   ·intro L s w2 h hk hd hn
    have s7 : s 7 = _ := hk 7 (by kernel_rfl)
    have kb := ((h.mu.same _ ((Array.getElem?_eq_some_iff.1 HX.out).1) (notin1 (by have := HLT.out; omega))).trans HX.out)
    refine sP fun K hK => ?_
    exact rs_load rfl s7 (md_load kb HLM1.out) (hK _ _ { h with e8 := fun _ => rfl })
   ·intro L s w2 h hk hd hn
    have s5 : s 5 = _ := hk 5 (by kernel_rfl)
    have kqka := (h.mu.same _ (lt_of_block HQ.out) (notin1 (by omega))).trans HQ.out
    have ka : w2.cell? ⟨b + 1 + 1, 0, none⟩ = some (.int .u8 p) := by rw [cell_of_row w2 (b + 1 + 1) 0 _ _ _ kqka]; rfl
    have kqkb := (h.mu.same _ (lt_of_block HQ.out) (notin1 (by omega))).trans HQ.out
    have kb : w2.cell? ⟨b + 1 + 1, 1, none⟩ = some (.int .i64 lo) := by rw [cell_of_row w2 (b + 1 + 1) 1 _ _ _ kqkb]; rfl
    have kqkc := (h.mu.same _ (lt_of_block HQ.out) (notin1 (by omega))).trans HQ.out
    have kc : w2.cell? ⟨b + 1 + 1, 2, none⟩ = some (.int .i64 hi) := by rw [cell_of_row w2 (b + 1 + 1) 2 _ _ _ kqkc]; rfl
    refine sP fun K hK => ?_
    go_simp
    exact hK _ _ { h with e9 := fun _ => rfl }
   ·intro L s w2 h hk hd hn
    have s8 : s 8 = _ := hk 8 (by kernel_rfl)
    have kb := ((h.mu.same _ ((Array.getElem?_eq_some_iff.1 HYY.out).1) (notin1 (by have := HLT.out; omega))).trans HYY.out)
    refine sP fun K hK => ?_
    exact rs_load rfl s8 (md_load kb HLM2.out) (hK _ _ { h with e10 := fun _ => rfl })
   ·intro L s w2 h hk hd hn
    have s22 := h.e9 hd.1
    have s23 := h.e10 hd.2.1
    refine sP fun K hK => ?_
    go_simp
    refine (calls_as (HEM2.out ▸ HEB2.out) (dr_Of p lo hi M2 HY.out.2.2.2.2 HLM2.out _)).mono ?_
    rintro e w3 ⟨rfl, hb⟩
    exact .inl ⟨_, rfl, hK _ _ { h with mu := h.mu.step hb, kt_r := fun a => bk hb (h.kt_r a), kr_r := fun a => bk hb (h.kr_r a), e11 := fun _ => rfl }⟩
   ·intro L s w2 h hk hd hn
    have s21 := h.e8 hd.1
    have s24 := h.e11 hd.2.1
    refine sP fun K hK => ?_
    exact rs_bld rfl (by simp [evS_tmp, s21, s24]) (bd_m2 HLM1.out HLB2.out _) (hK _ _ { h with e12 := fun _ => rfl })
   ·intro L s w2 h hk hd hn
    have s3 : s 3 = _ := hk 3 (by kernel_rfl)
    have kqka := (h.mu.same _ (lt_of_block HD.out) (notin1 (by omega))).trans HD.out
    have ka : w2.cell? ⟨b, 0, none⟩ = some (.int .i16 c) := by rw [cell_of_row w2 (b) 0 _ _ _ kqka]; rfl
    have kqkb := (h.mu.same _ (lt_of_block HD.out) (notin1 (by omega))).trans HD.out
    have kb : w2.cell? ⟨b, 1, none⟩ = some (.slice ao ts.length cap) := by rw [cell_of_row w2 (b) 1 _ _ _ kqkb]; rfl
    have kqkc := (h.mu.same _ (lt_of_block HD.out) (notin1 (by omega))).trans HD.out
    have kc : w2.cell? ⟨b, 2, none⟩ = some (.int .u16 r) := by rw [cell_of_row w2 (b) 2 _ _ _ kqkc]; rfl
    refine sP fun K hK => ?_
    go_simp
    exact hK _ _ { h with e13 := fun _ => rfl }
   ·intro L s w2 h hk hd hn
    have s26 := h.e13 hd.1
    refine sP fun K hK => ?_
    go_simp
    refine (calls_as HEN1.out (dr_Near c r ts ao cap HY.out.1 HY.out.2.1 _ (HT.out.on ((HM.out.stepM h.mu (by have := HBW.out; have := HLT.out; intro x hx; simp at hx <;> (right; omega))).to0)))).mono ?_
    rintro e w3 ⟨rfl, hb⟩
    exact .inl ⟨_, rfl, hK _ _ { h with mu := h.mu.step hb, kt_r := fun a => bk hb (h.kt_r a), kr_r := fun a => bk hb (h.kr_r a), e14 := fun _ => rfl }⟩
   ·intro L s w2 h hk hd hn
    have s4 : s 4 = _ := hk 4 (by kernel_rfl)
    have kqka := (h.mu.same _ (lt_of_block HD2.out) (notin1 (by omega))).trans HD2.out
    have ka : w2.cell? ⟨b + 1, 0, none⟩ = some (.int .i16 c2) := by rw [cell_of_row w2 (b + 1) 0 _ _ _ kqka]; rfl
    have kqkb := (h.mu.same _ (lt_of_block HD2.out) (notin1 (by omega))).trans HD2.out
    have kb : w2.cell? ⟨b + 1, 1, none⟩ = some (.slice ao2 ts2.length cap2) := by rw [cell_of_row w2 (b + 1) 1 _ _ _ kqkb]; rfl
    have kqkc := (h.mu.same _ (lt_of_block HD2.out) (notin1 (by omega))).trans HD2.out
    have kc : w2.cell? ⟨b + 1, 2, none⟩ = some (.int .u16 r2) := by rw [cell_of_row w2 (b + 1) 2 _ _ _ kqkc]; rfl
    refine sP fun K hK => ?_
    go_simp
    exact hK _ _ { h with e15 := fun _ => rfl }
   ·intro L s w2 h hk hd hn
    have s28 := h.e15 hd.1
    refine sP fun K hK => ?_
    go_simp
    refine (calls_as HEN2.out (dr_Near c2 r2 ts2 ao2 cap2 HY.out.2.2.1 HY.out.2.2.2.1 _ (HT2.out.on ((HM.out.stepM h.mu (by have := HBW.out; have := HLT.out; intro x hx; simp at hx <;> (right; omega))).to0)))).mono ?_
    rintro e w3 ⟨rfl, hb⟩
    exact .inl ⟨_, rfl, hK _ _ { h with mu := h.mu.step hb, kt_r := fun a => bk hb (h.kt_r a), kr_r := fun a => bk hb (h.kr_r a), e16 := fun _ => rfl }⟩
   ·intro L s w2 h hk hd hn
    have s27 := h.e14 hd.1
    have s29 := h.e16 hd.2.1
    refine sP fun K hK => ?_
    exact rs_bld rfl (by simp [evS_tmp, s27, s29]) (bd_m2 HLN1.out HLN2.out _) (hK _ _ { h with e17 := fun _ => rfl })
   ·intro L s w2 h hk hd hn
    have s15 := h.e2 hd.1
    have s20 := h.e7 hd.2.1
    have s25 := h.e12 hd.2.2.1
    have s30 := h.e17 hd.2.2.2.1
    refine sP fun K hK => ?_
    exact rs_bld rfl (by simp [evS_tmp, s15, s20, s25, s30]) (bd_mp HLM1.out HLM2.out HLB1.out HLM2.out HLM1.out HLB2.out HLN1.out HLN2.out _) (hK _ _ { h with e18 := fun _ => rfl })
   ·intro L s w2 h hk hd hn
    have s6 : s 6 = _ := hk 6 (by kernel_rfl)
    have s31 := h.e18 hd.1
    have kb := h.kt_r hn
    refine sP fun K hK => ?_
    exact rs_store rfl s6 s31 (st_mp kb (by simp) _ (by simp [HLM1.out, HLM2.out, HLB1.out, HLB2.out, HLN1.out, HLN2.out])) (hK _ _ { h with mu := h.mu.put (List.Mem.head _) _, kt_r := nF, kr_r := fun _ => pH kb })
  ·intro L s w2 h hk hl
   refine cA ?_ (hQ2 s w2 (⟨h.mu, h.kr_r (hl 19 (by decide))⟩))
   exact frame_eq hk (by kernel_rfl) (by kernel_rfl)
  ·intro c s w2 hc
   exact hc.elim
 rotate_left
 ·rintro _ _ _ h
  exact h.elim
 rintro s2 V ⟨h1, c_r⟩
 simp only [mergeL]
 replace HD := lh ((h1.same _ (lt_of_block HD.out) (notin1 (by have := HLT.out; omega))).trans HD.out)
 replace HD2 := lh ((h1.same _ (lt_of_block HD2.out) (notin1 (by have := HLT.out; omega))).trans HD2.out)
 replace HQ := lh ((h1.same _ (lt_of_block HQ.out) (notin1 (by have := HLT.out; omega))).trans HQ.out)
 replace HR := lh c_r
 replace HX := lh ((h1.same _ (lt_of_block HX.out) (notin1 (by have := HLT.out; omega))).trans HX.out)
 replace HYY := lh ((h1.same _ (lt_of_block HYY.out) (notin1 (by have := HLT.out; omega))).trans HYY.out)
 replace HM := lh (HM.out.stepM h1 (by have := HBW.out; have := HLT.out; intro x hx; simp at hx; right; omega))
 clear h1 c_r
 refine HK2.out _ _ ?_
 refine wp_ret ?_
 exact bodyPost_ret (v := mval (M1 ++ M2 ++ B1 ++ M2 ++ M1 ++ B2 ++ N1 ++ N2)) (res_cell Tryz.results7 rfl (lv_mp HR.out (by simp [HLM1.out, HLM2.out, HLB1.out, HLB2.out, HLN1.out, HLN2.out]))) rfl ⟨rfl, by rw [← HBW.out]; exact HM.out.to0⟩
end Go.Proofs.YthhkcfpljgdnhaaGreat
