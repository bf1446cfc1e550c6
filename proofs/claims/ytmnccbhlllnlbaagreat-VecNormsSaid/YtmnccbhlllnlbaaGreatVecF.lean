/- Package vec: contracts of Scale, Cross, Unit. Printed by wip/genVF.py. -/
import Derived.Deep.DeepCutAuto
import Derived.Test.YtmnccbhlllnlbaaGreatVecE
namespace Go.Proofs.YtmnccbhlllnlbaaGreat
open Go.RowKit Mnc
attribute [local go_sem] RunS_value RunS_skip RunS_enter evS_tmp evS_const evS_global evS_func
structure Uq (W0 : World) (S K1 K2 : Nat) (e0 e1 e2 : Int) (a p3 : V3) (m : Int × Int) (q : V3 × Int) (L : Nat → Bool) (s : Nat → Value) (w : World) : Prop where
  s0 : L 4 = false → Al W0 w S (e0) [(K2, vobj (vl v30)), (K1, vobj (vl a))]
  s1 : L 4 = true → L 8 = false → Al W0 w S (e1) [(K2, vobj (vl v30)), (K1, vobj (vl a))]
  s2 : L 8 = true → L 12 = false → Al W0 w S (e2) [(K2, vobj (vl v30)), (K1, vobj (vl a))]
  sf : L 12 = true → Al W0 w S (e2) [(K2, vobj (vl q.1)), (K1, vobj (vl a))]
  o1 : L 8 = true → L 4 = true
  of : L 12 = true → L 8 = true
  bk : L 12 = false → ∀ q ∈ [(K2, vobj (vl v30)), (K1, vobj (vl a))], w.heap[q.1]? = some q.2
  l1 : L 12 = true → L 1 = true
  l3 : L 12 = true → L 3 = true
  l9 : L 12 = true → L 9 = true
  b5 : L 5 = true → L 4 = true
  e0 : L 0 = true → s 8 = .pointer (some ⟨S, 0, none⟩)
  e2 : L 2 = true → s 10 = .pointer (some ⟨S, 0, none⟩)
  e6 : L 6 = true → s 14 = .pointer (some ⟨S, 0, none⟩)
  e1 : L 1 = true → s 9 = .agg #[.int .i64 a.1.1, .int .i64 a.1.2, .int .i64 a.2.1.1, .int .i64 a.2.1.2, .int .i64 a.2.2.1, .int .i64 a.2.2.2]
  e3 : L 3 = true → s 11 = .agg #[.int .i64 a.1.1, .int .i64 a.1.2, .int .i64 a.2.1.1, .int .i64 a.2.1.2, .int .i64 a.2.2.1, .int .i64 a.2.2.2]
  e4 : L 4 = true → s 12 = .agg #[.int .i64 m.1, .int .i64 m.2]
  e5 : L 5 = true → s 13 = .agg #[.int .i64 (alikeV m).1.1, .int .i64 (alikeV m).1.2, .int .i64 (alikeV m).2.1.1, .int .i64 (alikeV m).2.1.2, .int .i64 (alikeV m).2.2.1, .int .i64 (alikeV m).2.2.2]
  e7 : L 7 = true → s 15 = .func (.func 58) #[.pointer (some ⟨S, 0, none⟩)] #[]
  e8 : L 8 = true → s 16 = .agg #[.int .i64 p3.1.1, .int .i64 p3.1.2, .int .i64 p3.2.1.1, .int .i64 p3.2.1.2, .int .i64 p3.2.2.1, .int .i64 p3.2.2.2]
  e9 : L 9 = true → s 17 = .tuple #[.agg #[.int .i64 q.1.1.1, .int .i64 q.1.1.2, .int .i64 q.1.2.1.1, .int .i64 q.1.2.1.2, .int .i64 q.1.2.2.1, .int .i64 q.1.2.2.2], .int .i64 q.2]
  e10 : L 10 = true → s 18 = .agg #[.int .i64 q.1.1.1, .int .i64 q.1.1.2, .int .i64 q.1.2.1.1, .int .i64 q.1.2.1.2, .int .i64 q.1.2.2.1, .int .i64 q.1.2.2.2]
  e11 : L 11 = true → s 19 = .int .i64 q.2
  e13 : L 13 = true → s 3 = .int .i64 q.2
set_option maxRecDepth 100000 in
set_option maxHeartbeats 4000000 in
theorem vec_Unit (a : V3) (w : World) :
    Calls Tryz.prog 25 #[.agg #[.int .i64 a.1.1, .int .i64 a.1.2, .int .i64 a.2.1.1, .int .i64 a.2.1.2, .int .i64 a.2.2.1, .int .i64 a.2.2.2]] w fun r w' => r = .returned (.tuple #[(vUnit a).1.val, .int .i64 (vUnit a).2]) ∧ Below w.heap.size w w' := by
  have hK : Kv w (((w.alloc (.cells #[.int .i64 a.1.1, .int .i64 a.1.2, .int .i64 a.2.1.1, .int .i64 a.2.1.2, .int .i64 a.2.2.1, .int .i64 a.2.2.2] 25)).alloc (.cells #[.int .i64 0, .int .i64 0, .int .i64 0, .int .i64 0, .int .i64 0, .int .i64 0] 25)).alloc (.cells #[.int .i64 a.1.1, .int .i64 a.1.2, .int .i64 a.2.1.1, .int .i64 a.2.1.2, .int .i64 a.2.2.1, .int .i64 a.2.2.2] 25)) [(w.heap.size + 1 + 1, .cells (vfl [a]).toArray 25 (0, 0)), (w.heap.size + 1, vobj (vl v30)), (w.heap.size, vobj (vl a))] :=
    (((Kv.start w).al (vobj (vl a)) (n := w.heap.size) (by simp)).al (vobj (vl v30)) (n := w.heap.size + 1) (by simp)).al (.cells (vfl [a]).toArray 25 (0, 0)) (n := w.heap.size + 1 + 1) (by simp)
  have HK := Lib.hid hK
  clear hK
  go_enter Tryz.func25, Tryz.ntmps25
  go_wp2_with fail
  refine (vec_all [a] 1 _ _ rfl (by decide) (HK.out.blk _ (List.mem_cons_self ..))).mono ?_; rintro r w1 ⟨S, rfl, hA0⟩
  obtain ⟨e0, he0⟩ : ∃ e0, vNote 0 a = e0 := ⟨_, rfl⟩
  have hA : Al w w1 S (vNote 0 a) [(w.heap.size + 1, vobj (vl v30)), (w.heap.size, vobj (vl a))] := hA0.up (HK.out.sub (by simp))
  rw [he0] at hA
  have HV := Lib.hid hA
  have HC1 := Lib.hid (fun (W : World) h => vec_norm S e0 a W h)
  obtain ⟨m, hm⟩ : ∃ m, normS a = m := ⟨_, rfl⟩
  obtain ⟨e1, he1⟩ : ∃ e, normE e0 a = e := ⟨_, rfl⟩
  have HC2 := Lib.hid (fun (W : World) h => each_div S e1 a (alikeV m) W h)
  obtain ⟨p3, hp3⟩ : ∃ p, each3 sDiv a (alikeV m) = p := ⟨_, rfl⟩
  obtain ⟨e2, he2⟩ : ∃ e, err3 sDiv e1 a (alikeV m) = e := ⟨_, rfl⟩
  have HTD := Lib.hid (fun (W : World) h => vec_toldV S e2 p3 W h)
  obtain ⟨q, hq⟩ : ∃ q, toldV p3 e2 = q := ⟨_, rfl⟩
  have HQ : Hid (vUnit a = q) := Lib.hid (by rw [← hq, ← hp3, ← he2, ← he1, ← he0, ← hm]; rfl)
  rw [hm, he1] at HC1
  rw [hp3, he2] at HC2
  rw [hq] at HTD
  simp only [V3.val] at HC1 HC2 HTD
  have HK2 : Hid (w.heap.size ≤ w.heap.size + 1) := Lib.hid (by omega)
  have HKn : Hid (∀ p ∈ [(w.heap.size, vobj (vl a))], p.1 ≠ w.heap.size + 1) := Lib.hid (by simp)
  clear hA0 hA HK he0 hm he1 hp3 he2 hq
  go_upto_region 2 with (fail)
  go_cut [2, 3] (fun p v wx => p = .pointer (some ⟨w.heap.size + 1, 0, none⟩) ∧ v = .int .i64 q.2 ∧ Hid (Al w wx S e2 [(w.heap.size + 1, vobj (vl q.1)), (w.heap.size, vobj (vl a))]))
  case first =>
    refine wp_region_inv (Uq w S w.heap.size (w.heap.size + 1) e0 e1 e2 a p3 m q) (by kernel_rfl) (by kernel_rfl) ?_ ?_ ?_
    · exact ⟨fun _ => HV.out.on (Below.refl _ _).drew, fun h => absurd h Bool.false_ne_true, fun h => absurd h Bool.false_ne_true, fun h => absurd h Bool.false_ne_true, fun h => absurd h Bool.false_ne_true, fun h => absurd h Bool.false_ne_true, fun _ q hq => ((HV.out.on (Below.refl _ _).drew).blk q hq).2, fun h => absurd h Bool.false_ne_true, fun h => absurd h Bool.false_ne_true, fun h => absurd h Bool.false_ne_true, fun h => absurd h Bool.false_ne_true, fun h => absurd h Bool.false_ne_true, fun h => absurd h Bool.false_ne_true, fun h => absurd h Bool.false_ne_true, fun h => absurd h Bool.false_ne_true, fun h => absurd h Bool.false_ne_true, fun h => absurd h Bool.false_ne_true, fun h => absurd h Bool.false_ne_true, fun h => absurd h Bool.false_ne_true, fun h => absurd h Bool.false_ne_true, fun h => absurd h Bool.false_ne_true, fun h => absurd h Bool.false_ne_true, fun h => absurd h Bool.false_ne_true, fun h => absurd h Bool.false_ne_true⟩
    · refine AllS.consN 1 (some 8) rfl rfl ?_ (AllS.consN 2 (some 9) rfl rfl ?_ (AllS.consN 3 (some 10) rfl rfl ?_ (AllS.consN 4 (some 11) rfl rfl ?_ (AllS.consN 5 (some 12) rfl rfl ?_ (AllS.consN 6 (some 13) rfl rfl ?_ (AllS.consN 7 (some 14) rfl rfl ?_ (AllS.consN 8 (some 15) rfl rfl ?_ (AllS.consN 9 (some 16) rfl rfl ?_ (AllS.consN 10 (some 17) rfl rfl ?_ (AllS.consN 11 (some 18) rfl rfl ?_ (AllS.consN 12 (some 19) rfl rfl ?_ (AllS.consN 13 none rfl rfl ?_ (AllS.consN 14 (some 3) rfl rfl ?_ AllS.nil)))))))))))))
      · intro L s w2 h hk hd hn
        have s4 : s 4 = _ := hk 4 (by kernel_rfl)
        refine stepS rfl fun K hK => ?_
        go_simp
        exact hK _ _ { h with e0 := fun _ => rfl }
      · intro L s w2 h hk hd hn
        have s1 : s 1 = _ := hk 1 (by kernel_rfl)
        have hz : L 12 = false := (Bool.eq_false_or_eq_true (L 12)).elim (fun e => absurd (h.l1 e) (by rw [hn]; exact Bool.false_ne_true)) id
        obtain ⟨c0, c1, c2, c3, c4, c5⟩ := vobj_six (h.bk hz _ (List.mem_cons_of_mem _ (List.mem_cons_self ..)))
        refine stepS rfl fun K hK => ?_
        go_simp
        exact hK _ _ { h with e1 := fun _ => rfl, l1 := fun _ => rfl }
      · intro L s w2 h hk hd hn
        have s4 : s 4 = _ := hk 4 (by kernel_rfl)
        refine stepS rfl fun K hK => ?_
        go_simp
        exact hK _ _ { h with e2 := fun _ => rfl }
      · intro L s w2 h hk hd hn
        have s1 : s 1 = _ := hk 1 (by kernel_rfl)
        have hz : L 12 = false := (Bool.eq_false_or_eq_true (L 12)).elim (fun e => absurd (h.l3 e) (by rw [hn]; exact Bool.false_ne_true)) id
        obtain ⟨c0, c1, c2, c3, c4, c5⟩ := vobj_six (h.bk hz _ (List.mem_cons_of_mem _ (List.mem_cons_self ..)))
        refine stepS rfl fun K hK => ?_
        go_simp
        exact hK _ _ { h with e3 := fun _ => rfl, l3 := fun _ => rfl }
      · intro L s w2 h hk hd hn
        have s10 := h.e2 hd.1
        have s11 := h.e3 hd.2.1
        have hv := h.s0 hn
        refine stepS rfl fun K hK => ?_
        go_simp
        refine (HC1.out _ hv.st).mono ?_
        rintro e w3 ⟨rfl, hm⟩
        have hv2 := hv.next hm
        exact ⟨_, rfl, hK _ _ { h with b5 := fun _ => rfl, s0 := fun a => absurd a.symm Bool.false_ne_true, s1 := fun _ _ => hv2, s2 := fun a => absurd (h.o1 a) (by rw [hn]; exact Bool.false_ne_true), sf := fun a => absurd (h.o1 (h.of a)) (by rw [hn]; exact Bool.false_ne_true), o1 := fun _ => rfl, bk := fun _ q hq => (hv2.blk q hq).2, e4 := fun _ => rfl }⟩
      · intro L s w2 h hk hd hn
        have s12 := h.e4 hd.1
        refine stepS rfl fun K hK => ?_
        go_simp
        refine (vec_alike m _).mono ?_
        rintro e w3 ⟨rfl, hb⟩
        exact ⟨_, rfl, hK _ _ { h with b5 := fun _ => hd.1, s0 := fun a => (h.s0 a).on hb, s1 := fun a b => (h.s1 a b).on hb, s2 := fun a b => (h.s2 a b).on hb, sf := fun a => (h.sf a).on hb, bk := fun a q hq => (hb.block _ (lt_of_block (h.bk a q hq))).trans (h.bk a q hq), e5 := fun _ => rfl }⟩
      · intro L s w2 h hk hd hn
        have s4 : s 4 = _ := hk 4 (by kernel_rfl)
        refine stepS rfl fun K hK => ?_
        go_simp
        exact hK _ _ { h with e6 := fun _ => rfl }
      · intro L s w2 h hk hd hn
        have s14 := h.e6 hd.1
        refine stepS rfl fun K hK => ?_
        go_simp
        exact hK _ _ { h with e7 := fun _ => rfl }
      · intro L s w2 h hk hd hn
        have s9 := h.e1 hd.1
        have s13 := h.e5 hd.2.1
        have s15 := h.e7 hd.2.2.1
        have t0 : L 4 = true := h.b5 hd.2.1
        have hv := h.s1 t0 hn
        refine stepS rfl fun K hK => ?_
        go_simp
        refine (HC2.out _ hv.st).mono ?_
        rintro e w3 ⟨rfl, hm⟩
        have hv2 := hv.next hm
        exact ⟨_, rfl, hK _ _ { h with s0 := fun a => absurd (t0.symm.trans a) (fun c => Bool.noConfusion c), s1 := fun _ a => absurd a.symm Bool.false_ne_true, s2 := fun _ _ => hv2, sf := fun a => absurd (h.of a) (by rw [hn]; exact Bool.false_ne_true), o1 := fun _ => t0, of := fun _ => rfl, bk := fun _ q hq => (hv2.blk q hq).2, e8 := fun _ => rfl }⟩
      · intro L s w2 h hk hd hn
        have s8 := h.e0 hd.1
        have s16 := h.e8 hd.2.1
        have hz : L 12 = false := (Bool.eq_false_or_eq_true (L 12)).elim (fun e => absurd (h.l9 e) (by rw [hn]; exact Bool.false_ne_true)) id
        have hv := h.s2 hd.2.1 hz
        refine stepS rfl fun K hK => ?_
        go_simp
        refine (HTD.out _ hv.st).mono ?_
        rintro e w3 ⟨rfl, hb⟩
        exact ⟨_, rfl, hK _ _ { h with s0 := fun a => (h.s0 a).on hb, s1 := fun a b => (h.s1 a b).on hb, s2 := fun a b => (h.s2 a b).on hb, sf := fun a => (h.sf a).on hb, bk := fun a q hq => (hb.block _ (lt_of_block (h.bk a q hq))).trans (h.bk a q hq), e9 := fun _ => rfl, l9 := fun _ => rfl }⟩
      · intro L s w2 h hk hd hn
        have s17 := h.e9 hd.1
        refine stepS rfl fun K hK => ?_
        go_simp
        exact hK _ _ { h with e10 := fun _ => rfl }
      · intro L s w2 h hk hd hn
        have s17 := h.e9 hd.1
        refine stepS rfl fun K hK => ?_
        go_simp
        exact hK _ _ { h with e11 := fun _ => rfl }
      · intro L s w2 h hk hd hn
        have s18 := h.e10 hd.1
        have s2 : s 2 = _ := hk 2 (by kernel_rfl)
        have tl : L 8 = true := hd.2.2.2.2.2.2.2.2.2.2.1
        have t0 : L 4 = true := h.o1 tl
        have hv := h.s2 tl hn
        have b := (hv.blk _ (List.mem_cons_self ..)).2
        obtain ⟨c0, c1, c2, c3, c4, c5⟩ := vobj_six b
        have f0 := vobj_free b 0
        have f1 := vobj_free b 1
        have f2 := vobj_free b 2
        have f3 := vobj_free b 3
        have f4 := vobj_free b 4
        have f5 := vobj_free b 5
        have lb := lt_of_block b
        refine stepS rfl fun K hK => ?_
        go_simp
        exact hK _ _ { h with s0 := fun a => absurd (t0.symm.trans a) (fun c => Bool.noConfusion c), s1 := fun _ a => absurd (tl.symm.trans a) (fun c => Bool.noConfusion c), s2 := fun _ a => absurd a.symm Bool.false_ne_true, sf := fun _ => hv.set6 HK2.out HKn.out q.1, of := fun _ => tl, bk := fun a => absurd a.symm Bool.false_ne_true, l1 := fun _ => hd.2.2.2.1, l3 := fun _ => hd.2.2.2.2.2.1, l9 := fun _ => hd.2.1 }
      · intro L s w2 h hk hd hn
        have s19 := h.e11 hd.1
        refine stepS rfl fun K hK => ?_
        go_simp
        exact hK _ _ { h with e13 := fun _ => rfl }
    · intro L s w2 h hk hl
      rename_i J K' hR hM
      refine hM _ _ (Met.intro (hR _ _ ?_))
      repeat apply Exists.intro
      refine ⟨⟨hk 2 (by kernel_rfl), h.e13 (hl 13 (by decide)), Lib.hid (h.sf (hl 12 (by decide)))⟩, ?_⟩
      refine congrArg (fun l => (⟨List.toArray l, []⟩ : Act)) ?_
      show [s 0, s 1, s 2, s 3, s 4, s 5, s 6, s 7, s 8, s 9, s 10, s 11, s 12, s 13, s 14, s 15, s 16, s 17, s 18, s 19] = _
      exact lc (hk 0 (by kernel_rfl)) (lc (hk 1 (by kernel_rfl)) (lc rfl (lc rfl (lc (hk 4 (by kernel_rfl)) (lc (hk 5 (by kernel_rfl)) (lc (hk 6 (by kernel_rfl)) (lc (hk 7 (by kernel_rfl)) (lc rfl (lc rfl (lc rfl (lc rfl (lc rfl (lc rfl (lc rfl (lc rfl (lc rfl (lc rfl (lc rfl (lc rfl rfl)))))))))))))))))))

  case rest =>
    obtain ⟨rfl, rfl, HX⟩ := hcut
    have bz := (HX.out.blk _ (List.mem_cons_self ..)).2
    obtain ⟨g0, g1, g2, g3, g4, g5⟩ := vobj_six bz
    clear bz
    go_wp2_with fail
    exact bodyPost_ret (v := .tuple #[q.1.val, .int .i64 q.2]) (by simp [results, Tryz.results25, go_sem, V3.val, g0, g1, g2, g3, g4, g5]) rfl ⟨by rw [HQ.out], HX.out.bel⟩
structure Sq1 (W0 : World) (K2 K3 K4 : Nat) (E0 : Int) (a : V3) (t : Int × Int) (L : Nat → Bool) (s : Nat → Value) (w : World) : Prop where
  kv : Kv W0 w [(K4, vobj (vl v30)), (K3, .cells #[.int .i64 t.1, .int .i64 t.2] 23 (0, 0)), (K2, vobj (vl a))]
  e0 : L 0 = true → s 7 = .agg #[.int .i64 a.1.1, .int .i64 a.1.2, .int .i64 a.2.1.1, .int .i64 a.2.1.2, .int .i64 a.2.2.1, .int .i64 a.2.2.2]
  e1 : L 1 = true → s 8 = .agg #[.int .i64 t.1, .int .i64 t.2]
  e2 : L 2 = true → s 9 = .agg #[.int .i64 (alikeV t).1.1, .int .i64 (alikeV t).1.2, .int .i64 (alikeV t).2.1.1, .int .i64 (alikeV t).2.1.2, .int .i64 (alikeV t).2.2.1, .int .i64 (alikeV t).2.2.2]
  e3 : L 3 = true → ∃ g, s 10 = .slice (some ⟨g, 0, none⟩) 2 2 ∧ w.heap[g]? = some (.cells (vfl [a, alikeV t]).toArray 25 (0, 0))
  e4 : L 4 = true → ∃ S, s 11 = .pointer (some ⟨S, 0, none⟩) ∧ Al W0 w S E0 [(K4, vobj (vl v30)), (K3, .cells #[.int .i64 t.1, .int .i64 t.2] 23 (0, 0)), (K2, vobj (vl a))]
  e5 : L 5 = true → s 6 = s 11
  d5 : L 5 = true → L 4 = true
structure Sq2 (W0 : World) (S K2 K3 K4 : Nat) (e0 e1 : Int) (a p3 : V3) (t : Int × Int) (q : V3 × Int) (L : Nat → Bool) (s : Nat → Value) (w : World) : Prop where
  s0 : L 6 = false → Al W0 w S (e0) [(K4, vobj (vl v30)), (K3, .cells #[.int .i64 t.1, .int .i64 t.2] 23 (0, 0)), (K2, vobj (vl a))]
  s1 : L 6 = true → L 10 = false → Al W0 w S (e1) [(K4, vobj (vl v30)), (K3, .cells #[.int .i64 t.1, .int .i64 t.2] 23 (0, 0)), (K2, vobj (vl a))]
  sf : L 10 = true → Al W0 w S (e1) [(K4, vobj (vl q.1)), (K3, .cells #[.int .i64 t.1, .int .i64 t.2] 23 (0, 0)), (K2, vobj (vl a))]
  of : L 10 = true → L 6 = true
  bk : L 10 = false → ∀ q ∈ [(K4, vobj (vl v30)), (K3, .cells #[.int .i64 t.1, .int .i64 t.2] 23 (0, 0)), (K2, vobj (vl a))], w.heap[q.1]? = some q.2
  l1 : L 10 = true → L 1 = true
  l2 : L 10 = true → L 2 = true
  l7 : L 10 = true → L 7 = true
  e0 : L 0 = true → s 12 = .pointer (some ⟨S, 0, none⟩)
  e4 : L 4 = true → s 16 = .pointer (some ⟨S, 0, none⟩)
  e1 : L 1 = true → s 13 = .agg #[.int .i64 a.1.1, .int .i64 a.1.2, .int .i64 a.2.1.1, .int .i64 a.2.1.2, .int .i64 a.2.2.1, .int .i64 a.2.2.2]
  e2 : L 2 = true → s 14 = .agg #[.int .i64 t.1, .int .i64 t.2]
  e3 : L 3 = true → s 15 = .agg #[.int .i64 (alikeV t).1.1, .int .i64 (alikeV t).1.2, .int .i64 (alikeV t).2.1.1, .int .i64 (alikeV t).2.1.2, .int .i64 (alikeV t).2.2.1, .int .i64 (alikeV t).2.2.2]
  e5 : L 5 = true → s 17 = .func (.func 47) #[.pointer (some ⟨S, 0, none⟩)] #[]
  e6 : L 6 = true → s 18 = .agg #[.int .i64 p3.1.1, .int .i64 p3.1.2, .int .i64 p3.2.1.1, .int .i64 p3.2.1.2, .int .i64 p3.2.2.1, .int .i64 p3.2.2.2]
  e7 : L 7 = true → s 19 = .tuple #[.agg #[.int .i64 q.1.1.1, .int .i64 q.1.1.2, .int .i64 q.1.2.1.1, .int .i64 q.1.2.1.2, .int .i64 q.1.2.2.1, .int .i64 q.1.2.2.2], .int .i64 q.2]
  e8 : L 8 = true → s 20 = .agg #[.int .i64 q.1.1.1, .int .i64 q.1.1.2, .int .i64 q.1.2.1.1, .int .i64 q.1.2.1.2, .int .i64 q.1.2.2.1, .int .i64 q.1.2.2.2]
  e9 : L 9 = true → s 21 = .int .i64 q.2
  e11 : L 11 = true → s 5 = .int .i64 q.2
set_option maxRecDepth 100000 in
set_option maxHeartbeats 4000000 in
theorem vec_Scale (a : V3) (t : Int × Int) (w : World) :
    Calls Tryz.prog 17 #[.agg #[.int .i64 a.1.1, .int .i64 a.1.2, .int .i64 a.2.1.1, .int .i64 a.2.1.2, .int .i64 a.2.2.1, .int .i64 a.2.2.2], .agg #[.int .i64 t.1, .int .i64 t.2]] w fun r w' => r = .returned (.tuple #[(vScale a t).1.val, .int .i64 (vScale a t).2]) ∧ Below w.heap.size w w' := by
  have hK : Kv w (((w.alloc (.cells #[.int .i64 a.1.1, .int .i64 a.1.2, .int .i64 a.2.1.1, .int .i64 a.2.1.2, .int .i64 a.2.2.1, .int .i64 a.2.2.2] 25)).alloc (.cells #[.int .i64 t.1, .int .i64 t.2] 23)).alloc (.cells #[.int .i64 0, .int .i64 0, .int .i64 0, .int .i64 0, .int .i64 0, .int .i64 0] 25)) [(w.heap.size + 1 + 1, vobj (vl v30)), (w.heap.size + 1, .cells #[.int .i64 t.1, .int .i64 t.2] 23 (0, 0)), (w.heap.size, vobj (vl a))] :=
    (((Kv.start w).al (vobj (vl a)) (n := w.heap.size) (by simp)).al (.cells #[.int .i64 t.1, .int .i64 t.2] 23 (0, 0)) (n := w.heap.size + 1) (by simp)).al (vobj (vl v30)) (n := w.heap.size + 1 + 1) (by simp)
  have HK := Lib.hid hK
  obtain ⟨e0, he0⟩ : ∃ e0, vNote (vNote 0 a) (alikeV t) = e0 := ⟨_, rfl⟩
  have HE0 : Hid (eAt [a, alikeV t] 2 = e0) := Lib.hid he0
  obtain ⟨p3, hp3⟩ : ∃ p, each3 sMul a (alikeV t) = p := ⟨_, rfl⟩
  obtain ⟨e1, he1⟩ : ∃ e, err3 sMul e0 a (alikeV t) = e := ⟨_, rfl⟩
  obtain ⟨q, hq⟩ : ∃ q, toldV p3 e1 = q := ⟨_, rfl⟩
  have HQ : Hid (vScale a t = q) := Lib.hid (by rw [← hq, ← hp3, ← he1, ← he0]; rfl)
  have HP := Lib.hid hp3
  have HE1 := Lib.hid he1
  have HQ2 := Lib.hid hq
  have HK4 : Hid (w.heap.size ≤ w.heap.size + 1 + 1) := Lib.hid (by omega)
  have HKn : Hid (∀ p ∈ [(w.heap.size + 1, Obj.cells #[.int .i64 t.1, .int .i64 t.2] 23 (0, 0)), (w.heap.size, vobj (vl a))], p.1 ≠ w.heap.size + 1 + 1) := Lib.hid (by simp; omega)
  clear hK he0 hp3 he1 hq
  go_enter Tryz.func17, Tryz.ntmps17
  go_upto_region 1 with (fail)
  go_cut [6] (fun p wx => ∃ S, p = .pointer (some ⟨S, 0, none⟩) ∧ Hid (Al w wx S e0 [(w.heap.size + 1 + 1, vobj (vl v30)), (w.heap.size + 1, .cells #[.int .i64 t.1, .int .i64 t.2] 23 (0, 0)), (w.heap.size, vobj (vl a))]))
  case first =>
    refine wp_region_inv (Sq1 w w.heap.size (w.heap.size + 1) (w.heap.size + 1 + 1) e0 a t) (by kernel_rfl) (by kernel_rfl) ?_ ?_ ?_
    · exact ⟨HK.out.on (Below.refl _ _).drew, fun h => absurd h Bool.false_ne_true, fun h => absurd h Bool.false_ne_true, fun h => absurd h Bool.false_ne_true, fun h => absurd h Bool.false_ne_true, fun h => absurd h Bool.false_ne_true, fun h => absurd h Bool.false_ne_true, fun h => absurd h Bool.false_ne_true⟩
    · refine AllS.consN 1 (some 7) rfl rfl ?_ (AllS.consN 2 (some 8) rfl rfl ?_ (AllS.consN 3 (some 9) rfl rfl ?_ (AllS.consN 4 (some 10) rfl rfl ?_ (AllS.consN 5 (some 11) rfl rfl ?_ (AllS.consN 6 (some 6) rfl rfl ?_ AllS.nil)))))
      · intro L s w2 h hk hd hn
        have s2 : s 2 = _ := hk 2 (by kernel_rfl)
        obtain ⟨c0, c1, c2, c3, c4, c5⟩ := vobj_six (h.kv.blk _ (List.mem_cons_of_mem _ (List.mem_cons_of_mem _ (List.mem_cons_self ..))))
        refine stepS rfl fun K hK => ?_
        go_simp
        exact hK _ _ { h with e0 := fun _ => rfl }
      · intro L s w2 h hk hd hn
        have s3 : s 3 = _ := hk 3 (by kernel_rfl)
        have b := h.kv.blk _ (List.mem_cons_of_mem _ (List.mem_cons_self ..))
        have c0 := cell_two0 b
        have c1 := cell_two1 b
        refine stepS rfl fun K hK => ?_
        go_simp
        exact hK _ _ { h with e1 := fun _ => rfl }
      · intro L s w2 h hk hd hn
        have s8 := h.e1 hd.1
        refine stepS rfl fun K hK => ?_
        go_simp
        refine (vec_alike t _).mono ?_
        rintro e w3 ⟨rfl, hb⟩
        exact ⟨_, rfl, hK _ _ { h with kv := h.kv.on hb, e3 := fun z => let ⟨g, h1, h2⟩ := h.e3 z; ⟨g, h1, (hb.block _ (lt_of_block h2)).trans h2⟩, e4 := fun z => let ⟨S, h1, h2⟩ := h.e4 z; ⟨S, h1, h2.on hb⟩, e2 := fun _ => rfl }⟩
      · intro L s w2 h hk hd hn
        have s7 := h.e0 hd.1
        have s9 := h.e2 hd.2.1
        refine stepS rfl fun K hK => ?_
        go_simp
        have hb := below_alloc (Below.refl w2.heap.size w2) (.cells #[.int .i64 a.1.1, .int .i64 a.1.2, .int .i64 a.2.1.1, .int .i64 a.2.1.2, .int .i64 a.2.2.1, .int .i64 a.2.2.2, .int .i64 (alikeV t).1.1, .int .i64 (alikeV t).1.2, .int .i64 (alikeV t).2.1.1, .int .i64 (alikeV t).2.1.2, .int .i64 (alikeV t).2.2.1, .int .i64 (alikeV t).2.2.2] 25)
        exact hK _ _ { h with kv := h.kv.on hb, e4 := fun z => let ⟨S, h1, h2⟩ := h.e4 z; ⟨S, h1, h2.on hb⟩, e3 := fun _ => ⟨_, rfl, heap_at _ rfl⟩ }
      · intro L s w2 h hk hd hn
        obtain ⟨g, s10, hg⟩ := h.e3 hd.1
        refine stepS rfl fun K hK => ?_
        go_simp
        refine (vec_all [a, alikeV t] 2 g _ rfl (by decide) hg).mono ?_
        rintro r w3 ⟨S, rfl, hA0⟩
        have hb : Below w2.heap.size w2 w3 := hA0.bel
        have hA := hA0.up h.kv
        have e : eAt [a, alikeV t] 2 = e0 := HE0.out
        rw [e] at hA
        exact ⟨_, rfl, hK _ _ { h with kv := h.kv.on hb, e3 := fun z => let ⟨g, h1, h2⟩ := h.e3 z; ⟨g, h1, (hb.block _ (lt_of_block h2)).trans h2⟩, e4 := fun _ => ⟨S, rfl, hA⟩, d5 := fun _ => rfl, e5 := fun z => absurd (h.d5 z) (by rw [hn]; exact Bool.false_ne_true) }⟩
      · intro L s w2 h hk hd hn
        obtain ⟨S, s11, hA⟩ := h.e4 hd.1
        refine stepS rfl fun K hK => ?_
        go_simp
        exact hK _ _ { h with e5 := fun _ => s11.symm, d5 := fun _ => hd.1 }
    · intro L s w2 h hk hl
      obtain ⟨S, s11, hA⟩ := h.e4 (hl 4 (by decide))
      rename_i J K' hR hM
      refine hM _ _ (Met.intro (hR _ _ ?_))
      repeat apply Exists.intro
      refine ⟨⟨S, (h.e5 (hl 5 (by decide))).trans s11, Lib.hid hA⟩, ?_⟩
      refine congrArg (fun l => (⟨List.toArray l, []⟩ : Act)) ?_
      show [s 0, s 1, s 2, s 3, s 4, s 5, s 6, s 7, s 8, s 9, s 10, s 11, s 12, s 13, s 14, s 15, s 16, s 17, s 18, s 19, s 20, s 21] = _
      exact lc (hk 0 (by kernel_rfl)) (lc (hk 1 (by kernel_rfl)) (lc (hk 2 (by kernel_rfl)) (lc (hk 3 (by kernel_rfl)) (lc (hk 4 (by kernel_rfl)) (lc (hk 5 (by kernel_rfl)) (lc rfl (lc rfl (lc rfl (lc rfl (lc rfl (lc rfl (lc (hk 12 (by kernel_rfl)) (lc (hk 13 (by kernel_rfl)) (lc (hk 14 (by kernel_rfl)) (lc (hk 15 (by kernel_rfl)) (lc (hk 16 (by kernel_rfl)) (lc (hk 17 (by kernel_rfl)) (lc (hk 18 (by kernel_rfl)) (lc (hk 19 (by kernel_rfl)) (lc (hk 20 (by kernel_rfl)) (lc (hk 21 (by kernel_rfl)) rfl)))))))))))))))))))))

  case rest =>
    obtain ⟨S, rfl, HV⟩ := hcut
    have HC1 := Lib.hid (fun (W : World) h => each_mul S e0 a (alikeV t) W h)
    have HTD := Lib.hid (fun (W : World) h => vec_toldV S e1 p3 W h)
    rw [HP.out, HE1.out] at HC1
    rw [HQ2.out] at HTD
    simp only [V3.val] at HC1 HTD
    go_upto_region 2 with (fail)
    go_cut [4, 5] (fun p v wx => p = .pointer (some ⟨w.heap.size + 1 + 1, 0, none⟩) ∧ v = .int .i64 q.2 ∧ Hid (Al w wx S e1 [(w.heap.size + 1 + 1, vobj (vl q.1)), (w.heap.size + 1, .cells #[.int .i64 t.1, .int .i64 t.2] 23 (0, 0)), (w.heap.size, vobj (vl a))]))
    case first =>
      refine wp_region_inv (Sq2 w S w.heap.size (w.heap.size + 1) (w.heap.size + 1 + 1) e0 e1 a p3 t q) (by kernel_rfl) (by kernel_rfl) ?_ ?_ ?_
      · exact ⟨fun _ => HV.out.on (Below.refl _ _).drew, fun h => absurd h Bool.false_ne_true, fun h => absurd h Bool.false_ne_true, fun h => absurd h Bool.false_ne_true, fun _ q hq => ((HV.out.on (Below.refl _ _).drew).blk q hq).2, fun h => absurd h Bool.false_ne_true, fun h => absurd h Bool.false_ne_true, fun h => absurd h Bool.false_ne_true, fun h => absurd h Bool.false_ne_true, fun h => absurd h Bool.false_ne_true, fun h => absurd h Bool.false_ne_true, fun h => absurd h Bool.false_ne_true, fun h => absurd h Bool.false_ne_true, fun h => absurd h Bool.false_ne_true, fun h => absurd h Bool.false_ne_true, fun h => absurd h Bool.false_ne_true, fun h => absurd h Bool.false_ne_true, fun h => absurd h Bool.false_ne_true, fun h => absurd h Bool.false_ne_true⟩
      · refine AllS.consN 1 (some 12) rfl rfl ?_ (AllS.consN 2 (some 13) rfl rfl ?_ (AllS.consN 3 (some 14) rfl rfl ?_ (AllS.consN 4 (some 15) rfl rfl ?_ (AllS.consN 5 (some 16) rfl rfl ?_ (AllS.consN 6 (some 17) rfl rfl ?_ (AllS.consN 7 (some 18) rfl rfl ?_ (AllS.consN 8 (some 19) rfl rfl ?_ (AllS.consN 9 (some 20) rfl rfl ?_ (AllS.consN 10 (some 21) rfl rfl ?_ (AllS.consN 11 none rfl rfl ?_ (AllS.consN 12 (some 5) rfl rfl ?_ AllS.nil)))))))))))
        · intro L s w2 h hk hd hn
          have s6 : s 6 = _ := hk 6 (by kernel_rfl)
          refine stepS rfl fun K hK => ?_
          go_simp
          exact hK _ _ { h with e0 := fun _ => rfl }
        · intro L s w2 h hk hd hn
          have s2 : s 2 = _ := hk 2 (by kernel_rfl)
          have hz : L 10 = false := (Bool.eq_false_or_eq_true (L 10)).elim (fun e => absurd (h.l1 e) (by rw [hn]; exact Bool.false_ne_true)) id
          obtain ⟨c0, c1, c2, c3, c4, c5⟩ := vobj_six (h.bk hz _ (List.mem_cons_of_mem _ (List.mem_cons_of_mem _ (List.mem_cons_self ..))))
          refine stepS rfl fun K hK => ?_
          go_simp
          exact hK _ _ { h with e1 := fun _ => rfl, l1 := fun _ => rfl }
        · intro L s w2 h hk hd hn
          have s3 : s 3 = _ := hk 3 (by kernel_rfl)
          have hz : L 10 = false := (Bool.eq_false_or_eq_true (L 10)).elim (fun e => absurd (h.l2 e) (by rw [hn]; exact Bool.false_ne_true)) id
          have b := h.bk hz _ (List.mem_cons_of_mem _ (List.mem_cons_self ..))
          have c0 := cell_two0 b
          have c1 := cell_two1 b
          refine stepS rfl fun K hK => ?_
          go_simp
          exact hK _ _ { h with e2 := fun _ => rfl, l2 := fun _ => rfl }
        · intro L s w2 h hk hd hn
          have s14 := h.e2 hd.1
          refine stepS rfl fun K hK => ?_
          go_simp
          refine (vec_alike t _).mono ?_
          rintro e w3 ⟨rfl, hb⟩
          exact ⟨_, rfl, hK _ _ { h with s0 := fun a => (h.s0 a).on hb, s1 := fun a b => (h.s1 a b).on hb, sf := fun a => (h.sf a).on hb, bk := fun a q hq => (hb.block _ (lt_of_block (h.bk a q hq))).trans (h.bk a q hq), e3 := fun _ => rfl }⟩
        · intro L s w2 h hk hd hn
          have s6 : s 6 = _ := hk 6 (by kernel_rfl)
          refine stepS rfl fun K hK => ?_
          go_simp
          exact hK _ _ { h with e4 := fun _ => rfl }
        · intro L s w2 h hk hd hn
          have s16 := h.e4 hd.1
          refine stepS rfl fun K hK => ?_
          go_simp
          exact hK _ _ { h with e5 := fun _ => rfl }
        · intro L s w2 h hk hd hn
          have s13 := h.e1 hd.1
          have s15 := h.e3 hd.2.1
          have s17 := h.e5 hd.2.2.1
          have hv := h.s0 hn
          refine stepS rfl fun K hK => ?_
          go_simp
          refine (HC1.out _ hv.st).mono ?_
          rintro e w3 ⟨rfl, hm⟩
          have hv2 := hv.next hm
          exact ⟨_, rfl, hK _ _ { h with s0 := fun a => absurd a.symm Bool.false_ne_true, s1 := fun _ _ => hv2, sf := fun a => absurd (h.of a) (by rw [hn]; exact Bool.false_ne_true), of := fun _ => rfl, bk := fun _ q hq => (hv2.blk q hq).2, e6 := fun _ => rfl }⟩
        · intro L s w2 h hk hd hn
          have s12 := h.e0 hd.1
          have s18 := h.e6 hd.2.1
          have hz : L 10 = false := (Bool.eq_false_or_eq_true (L 10)).elim (fun e => absurd (h.l7 e) (by rw [hn]; exact Bool.false_ne_true)) id
          have hv := h.s1 hd.2.1 hz
          refine stepS rfl fun K hK => ?_
          go_simp
          refine (HTD.out _ hv.st).mono ?_
          rintro e w3 ⟨rfl, hb⟩
          exact ⟨_, rfl, hK _ _ { h with s0 := fun a => (h.s0 a).on hb, s1 := fun a b => (h.s1 a b).on hb, sf := fun a => (h.sf a).on hb, bk := fun a q hq => (hb.block _ (lt_of_block (h.bk a q hq))).trans (h.bk a q hq), e7 := fun _ => rfl, l7 := fun _ => rfl }⟩
        · intro L s w2 h hk hd hn
          have s19 := h.e7 hd.1
          refine stepS rfl fun K hK => ?_
          go_simp
          exact hK _ _ { h with e8 := fun _ => rfl }
        · intro L s w2 h hk hd hn
          have s19 := h.e7 hd.1
          refine stepS rfl fun K hK => ?_
          go_simp
          exact hK _ _ { h with e9 := fun _ => rfl }
        · intro L s w2 h hk hd hn
          have s20 := h.e8 hd.1
          have s4 : s 4 = _ := hk 4 (by kernel_rfl)
          have tl : L 6 = true := hd.2.2.2.2.2.2.2.2.1
          have hv := h.s1 tl hn
          have b := (hv.blk _ (List.mem_cons_self ..)).2
          obtain ⟨c0, c1, c2, c3, c4, c5⟩ := vobj_six b
          have f0 := vobj_free b 0
          have f1 := vobj_free b 1
          have f2 := vobj_free b 2
          have f3 := vobj_free b 3
          have f4 := vobj_free b 4
          have f5 := vobj_free b 5
          have lb := lt_of_block b
          refine stepS rfl fun K hK => ?_
          go_simp
          exact hK _ _ { h with s0 := fun a => absurd (tl.symm.trans a) (fun c => Bool.noConfusion c), s1 := fun _ a => absurd a.symm Bool.false_ne_true, sf := fun _ => hv.set6 HK4.out HKn.out q.1, of := fun _ => tl, bk := fun a => absurd a.symm Bool.false_ne_true, l1 := fun _ => hd.2.2.2.1, l2 := fun _ => hd.2.2.2.2.1, l7 := fun _ => hd.2.1 }
        · intro L s w2 h hk hd hn
          have s21 := h.e9 hd.1
          refine stepS rfl fun K hK => ?_
          go_simp
          exact hK _ _ { h with e11 := fun _ => rfl }
      · intro L s w2 h hk hl
        rename_i J K' hR hM
        refine hM _ _ (Met.intro (hR _ _ ?_))
        repeat apply Exists.intro
        refine ⟨⟨hk 4 (by kernel_rfl), h.e11 (hl 11 (by decide)), Lib.hid (h.sf (hl 10 (by decide)))⟩, ?_⟩
        refine congrArg (fun l => (⟨List.toArray l, []⟩ : Act)) ?_
        show [s 0, s 1, s 2, s 3, s 4, s 5, s 6, s 7, s 8, s 9, s 10, s 11, s 12, s 13, s 14, s 15, s 16, s 17, s 18, s 19, s 20, s 21] = _
        exact lc (hk 0 (by kernel_rfl)) (lc (hk 1 (by kernel_rfl)) (lc (hk 2 (by kernel_rfl)) (lc (hk 3 (by kernel_rfl)) (lc rfl (lc rfl (lc (hk 6 (by kernel_rfl)) (lc (hk 7 (by kernel_rfl)) (lc (hk 8 (by kernel_rfl)) (lc (hk 9 (by kernel_rfl)) (lc (hk 10 (by kernel_rfl)) (lc (hk 11 (by kernel_rfl)) (lc rfl (lc rfl (lc rfl (lc rfl (lc rfl (lc rfl (lc rfl (lc rfl (lc rfl (lc rfl rfl)))))))))))))))))))))

    case rest =>
      obtain ⟨rfl, rfl, HX⟩ := hcut
      have bz := (HX.out.blk _ (List.mem_cons_self ..)).2
      obtain ⟨g0, g1, g2, g3, g4, g5⟩ := vobj_six bz
      clear bz
      go_wp2_with fail
      exact bodyPost_ret (v := .tuple #[q.1.val, .int .i64 q.2]) (by simp [results, Tryz.results17, go_sem, V3.val, g0, g1, g2, g3, g4, g5]) rfl ⟨by rw [HQ.out], HX.out.bel⟩
structure Cq (W0 : World) (S K2 K3 K4 : Nat) (e0 e1 e2 e3 : Int) (a b p1 p2 p3 : V3) (q : V3 × Int) (L : Nat → Bool) (s : Nat → Value) (w : World) : Prop where
  s0 : L 8 = false → Al W0 w S (e0) [(K4, vobj (vl v30)), (K3, vobj (vl b)), (K2, vobj (vl a))]
  s1 : L 8 = true → L 16 = false → Al W0 w S (e1) [(K4, vobj (vl v30)), (K3, vobj (vl b)), (K2, vobj (vl a))]
  s2 : L 16 = true → L 19 = false → Al W0 w S (e2) [(K4, vobj (vl v30)), (K3, vobj (vl b)), (K2, vobj (vl a))]
  s3 : L 19 = true → L 23 = false → Al W0 w S (e3) [(K4, vobj (vl v30)), (K3, vobj (vl b)), (K2, vobj (vl a))]
  sf : L 23 = true → Al W0 w S (e3) [(K4, vobj (vl q.1)), (K3, vobj (vl b)), (K2, vobj (vl a))]
  o1 : L 16 = true → L 8 = true
  o2 : L 19 = true → L 16 = true
  of : L 23 = true → L 19 = true
  bk : L 23 = false → ∀ q ∈ [(K4, vobj (vl v30)), (K3, vobj (vl b)), (K2, vobj (vl a))], w.heap[q.1]? = some q.2
  l1 : L 23 = true → L 1 = true
  l3 : L 23 = true → L 3 = true
  l9 : L 23 = true → L 9 = true
  l12 : L 23 = true → L 12 = true
  l20 : L 23 = true → L 20 = true
  b13 : L 13 = true → L 11 = true
  b11 : L 11 = true → L 10 = true
  b10 : L 10 = true → L 8 = true
  e0 : L 0 = true → s 11 = .pointer (some ⟨S, 0, none⟩)
  e6 : L 6 = true → s 17 = .pointer (some ⟨S, 0, none⟩)
  e14 : L 14 = true → s 25 = .pointer (some ⟨S, 0, none⟩)
  e17 : L 17 = true → s 28 = .pointer (some ⟨S, 0, none⟩)
  e1 : L 1 = true → s 12 = .agg #[.int .i64 a.1.1, .int .i64 a.1.2, .int .i64 a.2.1.1, .int .i64 a.2.1.2, .int .i64 a.2.2.1, .int .i64 a.2.2.2]
  e3 : L 3 = true → s 14 = .agg #[.int .i64 b.1.1, .int .i64 b.1.2, .int .i64 b.2.1.1, .int .i64 b.2.1.2, .int .i64 b.2.2.1, .int .i64 b.2.2.2]
  e9 : L 9 = true → s 20 = .agg #[.int .i64 a.1.1, .int .i64 a.1.2, .int .i64 a.2.1.1, .int .i64 a.2.1.2, .int .i64 a.2.2.1, .int .i64 a.2.2.2]
  e12 : L 12 = true → s 23 = .agg #[.int .i64 b.1.1, .int .i64 b.1.2, .int .i64 b.2.1.1, .int .i64 b.2.1.2, .int .i64 b.2.2.1, .int .i64 b.2.2.2]
  e2 : L 2 = true → s 13 = .agg #[.int .i64 (turnV a).1.1, .int .i64 (turnV a).1.2, .int .i64 (turnV a).2.1.1, .int .i64 (turnV a).2.1.2, .int .i64 (turnV a).2.2.1, .int .i64 (turnV a).2.2.2]
  e4 : L 4 = true → s 15 = .agg #[.int .i64 (turnV b).1.1, .int .i64 (turnV b).1.2, .int .i64 (turnV b).2.1.1, .int .i64 (turnV b).2.1.2, .int .i64 (turnV b).2.2.1, .int .i64 (turnV b).2.2.2]
  e5 : L 5 = true → s 16 = .agg #[.int .i64 (turnV (turnV b)).1.1, .int .i64 (turnV (turnV b)).1.2, .int .i64 (turnV (turnV b)).2.1.1, .int .i64 (turnV (turnV b)).2.1.2, .int .i64 (turnV (turnV b)).2.2.1, .int .i64 (turnV (turnV b)).2.2.2]
  e10 : L 10 = true → s 21 = .agg #[.int .i64 (turnV a).1.1, .int .i64 (turnV a).1.2, .int .i64 (turnV a).2.1.1, .int .i64 (turnV a).2.1.2, .int .i64 (turnV a).2.2.1, .int .i64 (turnV a).2.2.2]
  e11 : L 11 = true → s 22 = .agg #[.int .i64 (turnV (turnV a)).1.1, .int .i64 (turnV (turnV a)).1.2, .int .i64 (turnV (turnV a)).2.1.1, .int .i64 (turnV (turnV a)).2.1.2, .int .i64 (turnV (turnV a)).2.2.1, .int .i64 (turnV (turnV a)).2.2.2]
  e13 : L 13 = true → s 24 = .agg #[.int .i64 (turnV b).1.1, .int .i64 (turnV b).1.2, .int .i64 (turnV b).2.1.1, .int .i64 (turnV b).2.1.2, .int .i64 (turnV b).2.2.1, .int .i64 (turnV b).2.2.2]
  e7 : L 7 = true → s 18 = .func (.func 47) #[.pointer (some ⟨S, 0, none⟩)] #[]
  e15 : L 15 = true → s 26 = .func (.func 47) #[.pointer (some ⟨S, 0, none⟩)] #[]
  e18 : L 18 = true → s 29 = .func (.func 42) #[.pointer (some ⟨S, 0, none⟩)] #[]
  e8 : L 8 = true → s 19 = .agg #[.int .i64 p1.1.1, .int .i64 p1.1.2, .int .i64 p1.2.1.1, .int .i64 p1.2.1.2, .int .i64 p1.2.2.1, .int .i64 p1.2.2.2]
  e16 : L 16 = true → s 27 = .agg #[.int .i64 p2.1.1, .int .i64 p2.1.2, .int .i64 p2.2.1.1, .int .i64 p2.2.1.2, .int .i64 p2.2.2.1, .int .i64 p2.2.2.2]
  e19 : L 19 = true → s 30 = .agg #[.int .i64 p3.1.1, .int .i64 p3.1.2, .int .i64 p3.2.1.1, .int .i64 p3.2.1.2, .int .i64 p3.2.2.1, .int .i64 p3.2.2.2]
  e20 : L 20 = true → s 31 = .tuple #[.agg #[.int .i64 q.1.1.1, .int .i64 q.1.1.2, .int .i64 q.1.2.1.1, .int .i64 q.1.2.1.2, .int .i64 q.1.2.2.1, .int .i64 q.1.2.2.2], .int .i64 q.2]
  e21 : L 21 = true → s 32 = .agg #[.int .i64 q.1.1.1, .int .i64 q.1.1.2, .int .i64 q.1.2.1.1, .int .i64 q.1.2.1.2, .int .i64 q.1.2.2.1, .int .i64 q.1.2.2.2]
  e22 : L 22 = true → s 33 = .int .i64 q.2
  e24 : L 24 = true → s 5 = .int .i64 q.2
set_option maxRecDepth 100000 in
set_option maxHeartbeats 4000000 in
theorem vec_Cross (a b : V3) (w : World) :
    Calls Tryz.prog 21 #[.agg #[.int .i64 a.1.1, .int .i64 a.1.2, .int .i64 a.2.1.1, .int .i64 a.2.1.2, .int .i64 a.2.2.1, .int .i64 a.2.2.2], .agg #[.int .i64 b.1.1, .int .i64 b.1.2, .int .i64 b.2.1.1, .int .i64 b.2.1.2, .int .i64 b.2.2.1, .int .i64 b.2.2.2]] w fun r w' => r = .returned (.tuple #[(vCross a b).1.val, .int .i64 (vCross a b).2]) ∧ Below w.heap.size w w' := by
  have hK : Kv w ((((w.alloc (.cells #[.int .i64 a.1.1, .int .i64 a.1.2, .int .i64 a.2.1.1, .int .i64 a.2.1.2, .int .i64 a.2.2.1, .int .i64 a.2.2.2] 25)).alloc (.cells #[.int .i64 b.1.1, .int .i64 b.1.2, .int .i64 b.2.1.1, .int .i64 b.2.1.2, .int .i64 b.2.2.1, .int .i64 b.2.2.2] 25)).alloc (.cells #[.int .i64 0, .int .i64 0, .int .i64 0, .int .i64 0, .int .i64 0, .int .i64 0] 25)).alloc (.cells #[.int .i64 a.1.1, .int .i64 a.1.2, .int .i64 a.2.1.1, .int .i64 a.2.1.2, .int .i64 a.2.2.1, .int .i64 a.2.2.2, .int .i64 b.1.1, .int .i64 b.1.2, .int .i64 b.2.1.1, .int .i64 b.2.1.2, .int .i64 b.2.2.1, .int .i64 b.2.2.2] 25)) [(w.heap.size + 1 + 1 + 1, .cells (vfl [a, b]).toArray 25 (0, 0)), (w.heap.size + 1 + 1, vobj (vl v30)), (w.heap.size + 1, vobj (vl b)), (w.heap.size, vobj (vl a))] :=
    ((((Kv.start w).al (vobj (vl a)) (n := w.heap.size) (by simp)).al (vobj (vl b)) (n := w.heap.size + 1) (by simp)).al (vobj (vl v30)) (n := w.heap.size + 1 + 1) (by simp)).al (.cells (vfl [a, b]).toArray 25 (0, 0)) (n := w.heap.size + 1 + 1 + 1) (by simp)
  have HK := Lib.hid hK
  clear hK
  go_enter Tryz.func21, Tryz.ntmps21
  go_wp2_with fail
  refine (vec_all [a, b] 2 _ _ rfl (by decide) (HK.out.blk _ (List.mem_cons_self ..))).mono ?_; rintro r w1 ⟨S, rfl, hA0⟩
  obtain ⟨e0, he0⟩ : ∃ e0, vNote (vNote 0 a) b = e0 := ⟨_, rfl⟩
  have hA : Al w w1 S (vNote (vNote 0 a) b) [(w.heap.size + 1 + 1, vobj (vl v30)), (w.heap.size + 1, vobj (vl b)), (w.heap.size, vobj (vl a))] := hA0.up (HK.out.sub (by simp))
  rw [he0] at hA
  have HV := Lib.hid hA
  have HC1 := Lib.hid (fun (W : World) h => each_mul S e0 (turnV a) (turnV (turnV b)) W h)
  obtain ⟨p1, hp1⟩ : ∃ p, each3 sMul (turnV a) (turnV (turnV b)) = p := ⟨_, rfl⟩
  obtain ⟨e1, he1⟩ : ∃ e, err3 sMul e0 (turnV a) (turnV (turnV b)) = e := ⟨_, rfl⟩
  have HC2 := Lib.hid (fun (W : World) h => each_mul S e1 (turnV (turnV a)) (turnV b) W h)
  obtain ⟨p2, hp2⟩ : ∃ p, each3 sMul (turnV (turnV a)) (turnV b) = p := ⟨_, rfl⟩
  obtain ⟨e2, he2⟩ : ∃ e, err3 sMul e1 (turnV (turnV a)) (turnV b) = e := ⟨_, rfl⟩
  have HC3 := Lib.hid (fun (W : World) h => each_sub S e2 p1 p2 W h)
  obtain ⟨p3, hp3⟩ : ∃ p, each3 sSub p1 p2 = p := ⟨_, rfl⟩
  obtain ⟨e3, he3⟩ : ∃ e, err3 sSub e2 p1 p2 = e := ⟨_, rfl⟩
  have HTD := Lib.hid (fun (W : World) h => vec_toldV S e3 p3 W h)
  obtain ⟨q, hq⟩ : ∃ q, toldV p3 e3 = q := ⟨_, rfl⟩
  have HQ : Hid (vCross a b = q) := Lib.hid (by rw [← hq, ← hp3, ← he3, ← he2, ← he1, ← he0, ← hp1, ← hp2]; rfl)
  rw [hp1, he1] at HC1
  rw [hp2, he2] at HC2
  rw [hp3, he3] at HC3
  rw [hq] at HTD
  simp only [V3.val] at HC1 HC2 HC3 HTD
  have HK4 : Hid (w.heap.size ≤ w.heap.size + 1 + 1) := Lib.hid (by omega)
  have HKn : Hid (∀ p ∈ [(w.heap.size + 1, vobj (vl b)), (w.heap.size, vobj (vl a))], p.1 ≠ w.heap.size + 1 + 1) := Lib.hid (by simp; omega)
  clear hA0 hA HK he0 hp1 he1 hp2 he2 hp3 he3 hq
  go_upto_region 2 with (fail)
  --M1
  go_cut [4, 5] (fun p v wx => p = .pointer (some ⟨w.heap.size + 1 + 1, 0, none⟩) ∧ v = .int .i64 q.2 ∧ Hid (Al w wx S e3 [(w.heap.size + 1 + 1, vobj (vl q.1)), (w.heap.size + 1, vobj (vl b)), (w.heap.size, vobj (vl a))]))
  case first =>
    refine wp_region_inv (Cq w S w.heap.size (w.heap.size + 1) (w.heap.size + 1 + 1) e0 e1 e2 e3 a b p1 p2 p3 q) (by kernel_rfl) (by kernel_rfl) ?_ ?_ ?_
    · exact ⟨fun _ => HV.out.on (Below.refl _ _).drew, fun h => absurd h Bool.false_ne_true, fun h => absurd h Bool.false_ne_true, fun h => absurd h Bool.false_ne_true, fun h => absurd h Bool.false_ne_true, fun h => absurd h Bool.false_ne_true, fun h => absurd h Bool.false_ne_true, fun h => absurd h Bool.false_ne_true, fun _ q hq => ((HV.out.on (Below.refl _ _).drew).blk q hq).2, fun h => absurd h Bool.false_ne_true, fun h => absurd h Bool.false_ne_true, fun h => absurd h Bool.false_ne_true, fun h => absurd h Bool.false_ne_true, fun h => absurd h Bool.false_ne_true, fun h => absurd h Bool.false_ne_true, fun h => absurd h Bool.false_ne_true, fun h => absurd h Bool.false_ne_true, fun h => absurd h Bool.false_ne_true, fun h => absurd h Bool.false_ne_true, fun h => absurd h Bool.false_ne_true, fun h => absurd h Bool.false_ne_true, fun h => absurd h Bool.false_ne_true, fun h => absurd h Bool.false_ne_true, fun h => absurd h Bool.false_ne_true, fun h => absurd h Bool.false_ne_true, fun h => absurd h Bool.false_ne_true, fun h => absurd h Bool.false_ne_true, fun h => absurd h Bool.false_ne_true, fun h => absurd h Bool.false_ne_true, fun h => absurd h Bool.false_ne_true, fun h => absurd h Bool.false_ne_true, fun h => absurd h Bool.false_ne_true, fun h => absurd h Bool.false_ne_true, fun h => absurd h Bool.false_ne_true, fun h => absurd h Bool.false_ne_true, fun h => absurd h Bool.false_ne_true, fun h => absurd h Bool.false_ne_true, fun h => absurd h Bool.false_ne_true, fun h => absurd h Bool.false_ne_true, fun h => absurd h Bool.false_ne_true, fun h => absurd h Bool.false_ne_true⟩
    · refine AllS.consN 1 (some 11) rfl rfl ?_ (AllS.consN 2 (some 12) rfl rfl ?_ (AllS.consN 3 (some 13) rfl rfl ?_ (AllS.consN 4 (some 14) rfl rfl ?_ (AllS.consN 5 (some 15) rfl rfl ?_ (AllS.consN 6 (some 16) rfl rfl ?_ (AllS.consN 7 (some 17) rfl rfl ?_ (AllS.consN 8 (some 18) rfl rfl ?_ (AllS.consN 9 (some 19) rfl rfl ?_ (AllS.consN 10 (some 20) rfl rfl ?_ (AllS.consN 11 (some 21) rfl rfl ?_ (AllS.consN 12 (some 22) rfl rfl ?_ (AllS.consN 13 (some 23) rfl rfl ?_ (AllS.consN 14 (some 24) rfl rfl ?_ (AllS.consN 15 (some 25) rfl rfl ?_ (AllS.consN 16 (some 26) rfl rfl ?_ (AllS.consN 17 (some 27) rfl rfl ?_ (AllS.consN 18 (some 28) rfl rfl ?_ (AllS.consN 19 (some 29) rfl rfl ?_ (AllS.consN 20 (some 30) rfl rfl ?_ (AllS.consN 21 (some 31) rfl rfl ?_ (AllS.consN 22 (some 32) rfl rfl ?_ (AllS.consN 23 (some 33) rfl rfl ?_ (AllS.consN 24 none rfl rfl ?_ (AllS.consN 25 (some 5) rfl rfl ?_ AllS.nil))))))))))))))))))))))))
      · intro L s w2 h hk hd hn
        have s6 : s 6 = _ := hk 6 (by kernel_rfl)
        refine stepS rfl fun K hK => ?_
        go_simp
        exact hK _ _ { h with e0 := fun _ => rfl }
      · intro L s w2 h hk hd hn
        have s2 : s 2 = _ := hk 2 (by kernel_rfl)
        have hz : L 23 = false := (Bool.eq_false_or_eq_true (L 23)).elim (fun e => absurd (h.l1 e) (by rw [hn]; exact Bool.false_ne_true)) id
        obtain ⟨c0, c1, c2, c3, c4, c5⟩ := vobj_six (h.bk hz _ (List.mem_cons_of_mem _ (List.mem_cons_of_mem _ (List.mem_cons_self ..))))
        refine stepS rfl fun K hK => ?_
        go_simp
        exact hK _ _ { h with e1 := fun _ => rfl, l1 := fun _ => rfl }
      · intro L s w2 h hk hd hn
        have s12 := h.e1 hd.1
        refine stepS rfl fun K hK => ?_
        go_simp
        refine (vec_turned a _).mono ?_
        rintro e w3 ⟨rfl, hb⟩
        exact ⟨_, rfl, hK _ _ { h with s0 := fun a => (h.s0 a).on hb, s1 := fun a b => (h.s1 a b).on hb, s2 := fun a b => (h.s2 a b).on hb, s3 := fun a b => (h.s3 a b).on hb, sf := fun a => (h.sf a).on hb, bk := fun a q hq => (hb.block _ (lt_of_block (h.bk a q hq))).trans (h.bk a q hq), e2 := fun _ => rfl }⟩
      · intro L s w2 h hk hd hn
        have s3 : s 3 = _ := hk 3 (by kernel_rfl)
        have hz : L 23 = false := (Bool.eq_false_or_eq_true (L 23)).elim (fun e => absurd (h.l3 e) (by rw [hn]; exact Bool.false_ne_true)) id
        obtain ⟨c0, c1, c2, c3, c4, c5⟩ := vobj_six (h.bk hz _ (List.mem_cons_of_mem _ (List.mem_cons_self ..)))
        refine stepS rfl fun K hK => ?_
        go_simp
        exact hK _ _ { h with e3 := fun _ => rfl, l3 := fun _ => rfl }
      · intro L s w2 h hk hd hn
        have s14 := h.e3 hd.1
        refine stepS rfl fun K hK => ?_
        go_simp
        refine (vec_turned b _).mono ?_
        rintro e w3 ⟨rfl, hb⟩
        exact ⟨_, rfl, hK _ _ { h with s0 := fun a => (h.s0 a).on hb, s1 := fun a b => (h.s1 a b).on hb, s2 := fun a b => (h.s2 a b).on hb, s3 := fun a b => (h.s3 a b).on hb, sf := fun a => (h.sf a).on hb, bk := fun a q hq => (hb.block _ (lt_of_block (h.bk a q hq))).trans (h.bk a q hq), e4 := fun _ => rfl }⟩
      · intro L s w2 h hk hd hn
        have s15 := h.e4 hd.1
        refine stepS rfl fun K hK => ?_
        go_simp
        refine (vec_turned (turnV b) _).mono ?_
        rintro e w3 ⟨rfl, hb⟩
        exact ⟨_, rfl, hK _ _ { h with s0 := fun a => (h.s0 a).on hb, s1 := fun a b => (h.s1 a b).on hb, s2 := fun a b => (h.s2 a b).on hb, s3 := fun a b => (h.s3 a b).on hb, sf := fun a => (h.sf a).on hb, bk := fun a q hq => (hb.block _ (lt_of_block (h.bk a q hq))).trans (h.bk a q hq), e5 := fun _ => rfl }⟩
      · intro L s w2 h hk hd hn
        have s6 : s 6 = _ := hk 6 (by kernel_rfl)
        refine stepS rfl fun K hK => ?_
        go_simp
        exact hK _ _ { h with e6 := fun _ => rfl }
      · intro L s w2 h hk hd hn
        have s17 := h.e6 hd.1
        refine stepS rfl fun K hK => ?_
        go_simp
        exact hK _ _ { h with e7 := fun _ => rfl }
      · intro L s w2 h hk hd hn
        have s13 := h.e2 hd.1
        have s16 := h.e5 hd.2.1
        have s18 := h.e7 hd.2.2.1
        have hv := h.s0 hn
        refine stepS rfl fun K hK => ?_
        go_simp
        refine (HC1.out _ hv.st).mono ?_
        rintro e w3 ⟨rfl, hm⟩
        have hv2 := hv.next hm
        exact ⟨_, rfl, hK _ _ { h with b10 := fun _ => rfl, s0 := fun a => absurd a.symm Bool.false_ne_true, s1 := fun _ _ => hv2, s2 := fun a => absurd (h.o1 a) (by rw [hn]; exact Bool.false_ne_true), s3 := fun a => absurd (h.o1 (h.o2 a)) (by rw [hn]; exact Bool.false_ne_true), sf := fun a => absurd (h.o1 (h.o2 (h.of a))) (by rw [hn]; exact Bool.false_ne_true), o1 := fun _ => rfl, bk := fun _ q hq => (hv2.blk q hq).2, e8 := fun _ => rfl }⟩
      · intro L s w2 h hk hd hn
        have s2 : s 2 = _ := hk 2 (by kernel_rfl)
        have hz : L 23 = false := (Bool.eq_false_or_eq_true (L 23)).elim (fun e => absurd (h.l9 e) (by rw [hn]; exact Bool.false_ne_true)) id
        obtain ⟨c0, c1, c2, c3, c4, c5⟩ := vobj_six (h.bk hz _ (List.mem_cons_of_mem _ (List.mem_cons_of_mem _ (List.mem_cons_self ..))))
        refine stepS rfl fun K hK => ?_
        go_simp
        exact hK _ _ { h with e9 := fun _ => rfl, l9 := fun _ => rfl }
      · intro L s w2 h hk hd hn
        have s20 := h.e9 hd.1
        refine stepS rfl fun K hK => ?_
        go_simp
        refine (vec_turned a _).mono ?_
        rintro e w3 ⟨rfl, hb⟩
        exact ⟨_, rfl, hK _ _ { h with b10 := fun _ => hd.2.1, b11 := fun _ => rfl, s0 := fun a => (h.s0 a).on hb, s1 := fun a b => (h.s1 a b).on hb, s2 := fun a b => (h.s2 a b).on hb, s3 := fun a b => (h.s3 a b).on hb, sf := fun a => (h.sf a).on hb, bk := fun a q hq => (hb.block _ (lt_of_block (h.bk a q hq))).trans (h.bk a q hq), e10 := fun _ => rfl }⟩
      · intro L s w2 h hk hd hn
        have s21 := h.e10 hd.1
        refine stepS rfl fun K hK => ?_
        go_simp
        refine (vec_turned (turnV a) _).mono ?_
        rintro e w3 ⟨rfl, hb⟩
        exact ⟨_, rfl, hK _ _ { h with b11 := fun _ => hd.1, b13 := fun _ => rfl, s0 := fun a => (h.s0 a).on hb, s1 := fun a b => (h.s1 a b).on hb, s2 := fun a b => (h.s2 a b).on hb, s3 := fun a b => (h.s3 a b).on hb, sf := fun a => (h.sf a).on hb, bk := fun a q hq => (hb.block _ (lt_of_block (h.bk a q hq))).trans (h.bk a q hq), e11 := fun _ => rfl }⟩
      · intro L s w2 h hk hd hn
        have s3 : s 3 = _ := hk 3 (by kernel_rfl)
        have hz : L 23 = false := (Bool.eq_false_or_eq_true (L 23)).elim (fun e => absurd (h.l12 e) (by rw [hn]; exact Bool.false_ne_true)) id
        obtain ⟨c0, c1, c2, c3, c4, c5⟩ := vobj_six (h.bk hz _ (List.mem_cons_of_mem _ (List.mem_cons_self ..)))
        refine stepS rfl fun K hK => ?_
        go_simp
        exact hK _ _ { h with e12 := fun _ => rfl, l12 := fun _ => rfl }
      · intro L s w2 h hk hd hn
        have s23 := h.e12 hd.1
        refine stepS rfl fun K hK => ?_
        go_simp
        refine (vec_turned b _).mono ?_
        rintro e w3 ⟨rfl, hb⟩
        exact ⟨_, rfl, hK _ _ { h with b13 := fun _ => hd.2.1, s0 := fun a => (h.s0 a).on hb, s1 := fun a b => (h.s1 a b).on hb, s2 := fun a b => (h.s2 a b).on hb, s3 := fun a b => (h.s3 a b).on hb, sf := fun a => (h.sf a).on hb, bk := fun a q hq => (hb.block _ (lt_of_block (h.bk a q hq))).trans (h.bk a q hq), e13 := fun _ => rfl }⟩
      · intro L s w2 h hk hd hn
        have s6 : s 6 = _ := hk 6 (by kernel_rfl)
        refine stepS rfl fun K hK => ?_
        go_simp
        exact hK _ _ { h with e14 := fun _ => rfl }
      · intro L s w2 h hk hd hn
        have s25 := h.e14 hd.1
        refine stepS rfl fun K hK => ?_
        go_simp
        exact hK _ _ { h with e15 := fun _ => rfl }
      · intro L s w2 h hk hd hn
        have s22 := h.e11 hd.1
        have s24 := h.e13 hd.2.1
        have s26 := h.e15 hd.2.2.1
        have t0 : L 8 = true := h.b10 (h.b11 hd.1)
        have hv := h.s1 t0 hn
        refine stepS rfl fun K hK => ?_
        go_simp
        refine (HC2.out _ hv.st).mono ?_
        rintro e w3 ⟨rfl, hm⟩
        have hv2 := hv.next hm
        exact ⟨_, rfl, hK _ _ { h with s0 := fun a => absurd (t0.symm.trans a) (fun c => Bool.noConfusion c), s1 := fun _ a => absurd a.symm Bool.false_ne_true, s2 := fun _ _ => hv2, s3 := fun a => absurd (h.o2 a) (by rw [hn]; exact Bool.false_ne_true), sf := fun a => absurd (h.o2 (h.of a)) (by rw [hn]; exact Bool.false_ne_true), o1 := fun _ => t0, o2 := fun _ => rfl, bk := fun _ q hq => (hv2.blk q hq).2, e16 := fun _ => rfl }⟩
      · intro L s w2 h hk hd hn
        have s6 : s 6 = _ := hk 6 (by kernel_rfl)
        refine stepS rfl fun K hK => ?_
        go_simp
        exact hK _ _ { h with e17 := fun _ => rfl }
      · intro L s w2 h hk hd hn
        have s28 := h.e17 hd.1
        refine stepS rfl fun K hK => ?_
        go_simp
        exact hK _ _ { h with e18 := fun _ => rfl }
      · intro L s w2 h hk hd hn
        have s19 := h.e8 hd.1
        have s27 := h.e16 hd.2.1
        have s29 := h.e18 hd.2.2.1
        have t1 : L 16 = true := hd.2.1
        have t0 : L 8 = true := h.o1 t1
        have hv := h.s2 t1 hn
        refine stepS rfl fun K hK => ?_
        go_simp
        refine (HC3.out _ hv.st).mono ?_
        rintro e w3 ⟨rfl, hm⟩
        have hv2 := hv.next hm
        exact ⟨_, rfl, hK _ _ { h with s0 := fun a => absurd (t0.symm.trans a) (fun c => Bool.noConfusion c), s1 := fun _ a => absurd (t1.symm.trans a) (fun c => Bool.noConfusion c), s2 := fun _ a => absurd a.symm Bool.false_ne_true, s3 := fun _ _ => hv2, sf := fun a => absurd (h.of a) (by rw [hn]; exact Bool.false_ne_true), o2 := fun _ => t1, of := fun _ => rfl, bk := fun _ q hq => (hv2.blk q hq).2, e19 := fun _ => rfl }⟩
      · intro L s w2 h hk hd hn
        have s11 := h.e0 hd.1
        have s30 := h.e19 hd.2.1
        have hz : L 23 = false := (Bool.eq_false_or_eq_true (L 23)).elim (fun e => absurd (h.l20 e) (by rw [hn]; exact Bool.false_ne_true)) id
        have hv := h.s3 hd.2.1 hz
        refine stepS rfl fun K hK => ?_
        go_simp
        refine (HTD.out _ hv.st).mono ?_
        rintro e w3 ⟨rfl, hb⟩
        exact ⟨_, rfl, hK _ _ { h with s0 := fun a => (h.s0 a).on hb, s1 := fun a b => (h.s1 a b).on hb, s2 := fun a b => (h.s2 a b).on hb, s3 := fun a b => (h.s3 a b).on hb, sf := fun a => (h.sf a).on hb, bk := fun a q hq => (hb.block _ (lt_of_block (h.bk a q hq))).trans (h.bk a q hq), e20 := fun _ => rfl, l20 := fun _ => rfl }⟩
      · intro L s w2 h hk hd hn
        have s31 := h.e20 hd.1
        refine stepS rfl fun K hK => ?_
        go_simp
        exact hK _ _ { h with e21 := fun _ => rfl }
      · intro L s w2 h hk hd hn
        have s31 := h.e20 hd.1
        refine stepS rfl fun K hK => ?_
        go_simp
        exact hK _ _ { h with e22 := fun _ => rfl }
      · intro L s w2 h hk hd hn
        have s32 := h.e21 hd.1
        have s4 : s 4 = _ := hk 4 (by kernel_rfl)
        have tl : L 19 = true := hd.2.2.2.2.2.2.2.2.2.2.2.2.2.2.2.2.2.2.2.2.2.1
        have t1 : L 16 = true := h.o2 tl
        have t0 : L 8 = true := h.o1 t1
        have hv := h.s3 tl hn
        have b := (hv.blk _ (List.mem_cons_self ..)).2
        obtain ⟨c0, c1, c2, c3, c4, c5⟩ := vobj_six b
        have f0 := vobj_free b 0
        have f1 := vobj_free b 1
        have f2 := vobj_free b 2
        have f3 := vobj_free b 3
        have f4 := vobj_free b 4
        have f5 := vobj_free b 5
        have lb := lt_of_block b
        refine stepS rfl fun K hK => ?_
        go_simp
        exact hK _ _ { h with s0 := fun a => absurd (t0.symm.trans a) (fun c => Bool.noConfusion c), s1 := fun _ a => absurd (t1.symm.trans a) (fun c => Bool.noConfusion c), s2 := fun _ a => absurd (tl.symm.trans a) (fun c => Bool.noConfusion c), s3 := fun _ a => absurd a.symm Bool.false_ne_true, sf := fun _ => hv.set6 HK4.out HKn.out q.1, of := fun _ => tl, bk := fun a => absurd a.symm Bool.false_ne_true, l1 := fun _ => hd.2.2.2.1, l3 := fun _ => hd.2.2.2.2.2.1, l9 := fun _ => hd.2.2.2.2.2.2.2.2.2.2.2.1, l12 := fun _ => hd.2.2.2.2.2.2.2.2.2.2.2.2.2.2.1, l20 := fun _ => hd.2.1 }
      · intro L s w2 h hk hd hn
        have s33 := h.e22 hd.1
        refine stepS rfl fun K hK => ?_
        go_simp
        exact hK _ _ { h with e24 := fun _ => rfl }
    · intro L s w2 h hk hl
      rename_i J K' hR hM
      refine hM _ _ (Met.intro (hR _ _ ?_))
      repeat apply Exists.intro
      refine ⟨⟨hk 4 (by kernel_rfl), h.e24 (hl 24 (by decide)), Lib.hid (h.sf (hl 23 (by decide)))⟩, ?_⟩
      refine congrArg (fun l => (⟨List.toArray l, []⟩ : Act)) ?_
      show [s 0, s 1, s 2, s 3, s 4, s 5, s 6, s 7, s 8, s 9, s 10, s 11, s 12, s 13, s 14, s 15, s 16, s 17, s 18, s 19, s 20, s 21, s 22, s 23, s 24, s 25, s 26, s 27, s 28, s 29, s 30, s 31, s 32, s 33] = _
      exact lc (hk 0 (by kernel_rfl)) (lc (hk 1 (by kernel_rfl)) (lc (hk 2 (by kernel_rfl)) (lc (hk 3 (by kernel_rfl)) (lc rfl (lc rfl (lc (hk 6 (by kernel_rfl)) (lc (hk 7 (by kernel_rfl)) (lc (hk 8 (by kernel_rfl)) (lc (hk 9 (by kernel_rfl)) (lc (hk 10 (by kernel_rfl)) (lc rfl (lc rfl (lc rfl (lc rfl (lc rfl (lc rfl (lc rfl (lc rfl (lc rfl (lc rfl (lc rfl (lc rfl (lc rfl (lc rfl (lc rfl (lc rfl (lc rfl (lc rfl (lc rfl (lc rfl (lc rfl (lc rfl (lc rfl rfl)))))))))))))))))))))))))))))))))

  case rest =>
    obtain ⟨rfl, rfl, HX⟩ := hcut
    have bz := (HX.out.blk _ (List.mem_cons_self ..)).2
    obtain ⟨g0, g1, g2, g3, g4, g5⟩ := vobj_six bz
    clear bz
    go_wp2_with fail
    exact bodyPost_ret (v := .tuple #[q.1.val, .int .i64 q.2]) (by simp [results, Tryz.results21, go_sem, V3.val, g0, g1, g2, g3, g4, g5]) rfl ⟨by rw [HQ.out], HX.out.bel⟩
end Go.Proofs.YtmnccbhlllnlbaaGreat
