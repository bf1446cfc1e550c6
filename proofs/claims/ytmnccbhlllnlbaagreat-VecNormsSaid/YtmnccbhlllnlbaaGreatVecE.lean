/- Package vec: contracts of dot, norm, Add, Sub, Neg, Check, Dot, Norm. Printed by wip/genVE.py. -/
import Derived.Deep.DeepCutAuto
import Derived.Test.YtmnccbhlllnlbaaGreatVecD
namespace Go.Proofs.YtmnccbhlllnlbaaGreat
open Go.RowKit Mnc
attribute [local go_sem] RunS_value RunS_skip RunS_enter evS_tmp evS_const evS_global evS_func

/-- Blocks of one's own. -/
structure Kv (w W : World) (bs : List (Nat × Obj)) : Prop where
  bel : Below w.heap.size w W
  blk : ∀ p ∈ bs, W.heap[p.1]? = some p.2
section
variable {w W W' : World} {S n : Nat} {e : Int} {bs cs : List (Nat × Obj)}
theorem Kv.start (w : World) : Kv w w [] := ⟨Below.refl _ _, fun p hp => by simp at hp⟩
theorem Kv.al (h : Kv w W bs) (o : Obj) {n : Nat} (hn : W.heap.size = n) : Kv w (W.alloc o) ((n, o) :: bs) := by
  subst hn
  refine ⟨below_alloc h.bel _, fun p hp => ?_⟩
  rcases List.mem_cons.1 hp with rfl | hp
  · exact heap_at _ rfl
  · exact heap_up _ (h.blk p hp)
theorem Kv.on (h : Kv w W bs) (k : Below W.heap.size W W') : Kv w W' bs := ⟨below_step h.bel k, fun p hp => (k.block _ (lt_of_block (h.blk p hp))).trans (h.blk p hp)⟩
theorem Kv.sub (h : Kv w W bs) (k : ∀ p ∈ cs, p ∈ bs) : Kv w W cs := ⟨h.bel, fun p hp => h.blk p (k p hp)⟩
theorem Al.up (h : Al W W' S e []) (k : Kv w W bs) : Al w W' S e bs :=
  ⟨k.bel.trans (h.bel.mono k.bel.size), Nat.le_trans k.bel.size h.ge, h.st, fun p hp => ⟨Nat.ne_of_lt (Nat.lt_of_lt_of_le (lt_of_block (k.blk p hp)) h.ge), (h.bel.block _ (lt_of_block (k.blk p hp))).trans (k.blk p hp)⟩⟩
end
structure Dq (W0 : World) (S K6 K7 : Nat) (e : Int) (p : V3) (r1 r2 : (Int × Int) × Int) (L : Nat → Bool) (s : Nat → Value) (w : World) : Prop where
  s0 : L 6 = false → Vk W0 w S (e) [(K6, .cells #[.int .i64 0, .int .i64 0] 23 (0, 0)), (K7, vobj (vl p))]
  s1 : L 6 = true → L 9 = false → Vk W0 w S (fst2 e r1.2) [(K6, .cells #[.int .i64 0, .int .i64 0] 23 (0, 0)), (K7, vobj (vl p))]
  s2 : L 9 = true → L 10 = false → Vk W0 w S (fst2 (fst2 e r1.2) r2.2) [(K6, .cells #[.int .i64 0, .int .i64 0] 23 (0, 0)), (K7, vobj (vl p))]
  sf : L 10 = true → Vk W0 w S (fst2 (fst2 e r1.2) r2.2) [(K6, .cells #[.int .i64 r2.1.1, .int .i64 r2.1.2] 23 (0, 0)), (K7, vobj (vl p))]
  o1 : L 9 = true → L 6 = true
  of : L 10 = true → L 9 = true
  bk : L 10 = false → ∀ q ∈ [(K6, .cells #[.int .i64 0, .int .i64 0] 23 (0, 0)), (K7, vobj (vl p))], w.heap[q.1]? = some q.2
  l3 : L 10 = true → L 3 = true
  l5 : L 10 = true → L 5 = true
  l8 : L 10 = true → L 8 = true
  e0 : L 0 = true → s 13 = .pointer (some ⟨S, 0, none⟩)
  e1 : L 1 = true → s 14 = .pointer (some ⟨S, 0, none⟩)
  e2 : L 2 = true → s 15 = .pointer (some ⟨K7, 0, none⟩)
  e3 : L 3 = true → s 16 = .agg #[.int .i64 p.1.1, .int .i64 p.1.2]
  e4 : L 4 = true → s 17 = .pointer (some ⟨K7, 2, none⟩)
  e5 : L 5 = true → s 18 = .agg #[.int .i64 p.2.1.1, .int .i64 p.2.1.2]
  e7 : L 7 = true → s 20 = .pointer (some ⟨K7, 4, none⟩)
  e8 : L 8 = true → s 21 = .agg #[.int .i64 p.2.2.1, .int .i64 p.2.2.2]
  e6 : L 6 = true → s 19 = .agg #[.int .i64 r1.1.1, .int .i64 r1.1.2]
  e9 : L 9 = true → s 22 = .agg #[.int .i64 r2.1.1, .int .i64 r2.1.2]
set_option maxRecDepth 100000 in
set_option maxHeartbeats 2000000 in
theorem vec_dot (S : Nat) (e : Int) (a b : V3) (w : World) (h : w.heap[S]? = some (stp e)) :
    Calls Tryz.prog 51 #[.pointer (some ⟨S, 0, none⟩), .agg #[.int .i64 a.1.1, .int .i64 a.1.2, .int .i64 a.2.1.1, .int .i64 a.2.1.2, .int .i64 a.2.2.1, .int .i64 a.2.2.2], .agg #[.int .i64 b.1.1, .int .i64 b.1.2, .int .i64 b.2.1.1, .int .i64 b.2.1.2, .int .i64 b.2.2.1, .int .i64 b.2.2.2]] w fun r w' => r = .returned (.agg #[.int .i64 (dotS a b).1, .int .i64 (dotS a b).2]) ∧ Mv w w' S (dotE e a b) := by
  have hV : Vk w (((w.alloc (.cells #[.int .i64 a.1.1, .int .i64 a.1.2, .int .i64 a.2.1.1, .int .i64 a.2.1.2, .int .i64 a.2.2.1, .int .i64 a.2.2.2] 25)).alloc (.cells #[.int .i64 b.1.1, .int .i64 b.1.2, .int .i64 b.2.1.1, .int .i64 b.2.1.2, .int .i64 b.2.2.1, .int .i64 b.2.2.2] 25)).alloc (.cells #[.int .i64 0, .int .i64 0] 23)) S e [(w.heap.size + 1 + 1, .cells #[.int .i64 0, .int .i64 0] 23 (0, 0))] :=
    ((((Vk.start h).al (vobj (vl a))).alN (vobj (vl b)) (n := w.heap.size + 1) (by simp)).alN (.cells #[.int .i64 0, .int .i64 0] 23 (0, 0)) (n := w.heap.size + 1 + 1) (by simp)).sub (by simp)
  have HS := Lib.hid hV
  clear h hV
  go_enter Tryz.func51, Tryz.ntmps51
  go_wp2_with fail
  refine (each_mul S e a b _ HS.out.mv.st).mono ?_; rintro r w2 ⟨rfl, hm⟩
  obtain ⟨p, hp⟩ : ∃ p, each3 sMul a b = p := ⟨_, rfl⟩
  obtain ⟨e1, he1⟩ : ∃ e1, err3 sMul e a b = e1 := ⟨_, rfl⟩
  have HR1 : Hid (dotS a b = (sAdd (sAdd p.1 p.2.1).1 p.2.2).1) := Lib.hid (by rw [← hp]; rfl)
  have HR2 : Hid (dotE e a b = fst2 (fst2 e1 (sAdd p.1 p.2.1).2) (sAdd (sAdd p.1 p.2.1).1 p.2.2).2) := Lib.hid (by rw [← hp, ← he1]; rfl)
  rw [he1] at hm
  rw [hp]
  simp only [V3.val]
  have hV : Vk w (w2.alloc (.cells #[.int .i64 p.1.1, .int .i64 p.1.2, .int .i64 p.2.1.1, .int .i64 p.2.1.2, .int .i64 p.2.2.1, .int .i64 p.2.2.2] 25)) S e1 [(w2.heap.size, vobj (vl p)), (w.heap.size + 1 + 1, .cells #[.int .i64 0, .int .i64 0] 23 (0, 0))] := (HS.out.next hm).al (vobj (vl p))
  have HV := Lib.hid (hV.sub (cs := [(w.heap.size + 1 + 1, .cells #[.int .i64 0, .int .i64 0] 23 (0, 0)), (w2.heap.size, vobj (vl p))]) (by simp))
  have hlt := lt_of_block ((HS.out.next hm).blk _ (List.mem_cons_self ..)).2
  have HK6 : Hid (w.heap.size ≤ w.heap.size + 1 + 1) := Lib.hid (by omega)
  have HK7 : Hid (∀ q ∈ [(w2.heap.size, vobj (vl p))], q.1 ≠ w.heap.size + 1 + 1) := Lib.hid (by simp at hlt ⊢; omega)
  have HT1 := Lib.hid (fun (W : World) h => vec_add S e1 p.1 p.2.1 W h)
  obtain ⟨r1, hr1⟩ : ∃ r1, sAdd p.1 p.2.1 = r1 := ⟨_, rfl⟩
  rw [hr1] at HR1 HR2 HT1
  have HT2 := Lib.hid (fun (W : World) h => vec_add S (fst2 e1 r1.2) r1.1 p.2.2 W h)
  obtain ⟨r2, hr2⟩ : ∃ r2, sAdd r1.1 p.2.2 = r2 := ⟨_, rfl⟩
  rw [hr2] at HR1 HR2 HT2
  clear HS hm hp he1 hr1 hr2 hV hlt
  go_upto_region 2 with (fail)
  obtain ⟨K7, hK7⟩ : ∃ K7, K7 = w2.heap.size := ⟨_, rfl⟩
  rw [← hK7] at HV HK7 ⊢
  clear hK7
  generalize w2.alloc (.cells #[.int .i64 p.1.1, .int .i64 p.1.2, .int .i64 p.2.1.1, .int .i64 p.2.1.2, .int .i64 p.2.2.1, .int .i64 p.2.2.2] 25) = W3 at *
  go_cut [6] (fun v wx => v = .pointer (some ⟨w.heap.size + 1 + 1, 0, none⟩) ∧ Hid (Vk w wx S (fst2 (fst2 e1 r1.2) r2.2) [(w.heap.size + 1 + 1, .cells #[.int .i64 r2.1.1, .int .i64 r2.1.2] 23 (0, 0))]))
  case first =>
    refine wp_region_inv (Dq w S (w.heap.size + 1 + 1) K7 e1 p r1 r2) (by kernel_rfl) (by kernel_rfl) ?_ ?_ ?_
    · exact ⟨fun _ => HV.out.on (Below.refl _ _).drew, fun h => absurd h Bool.false_ne_true, fun h => absurd h Bool.false_ne_true, fun h => absurd h Bool.false_ne_true, fun h => absurd h Bool.false_ne_true, fun h => absurd h Bool.false_ne_true, fun _ q hq => ((HV.out.on (Below.refl _ _).drew).blk q hq).2, fun h => absurd h Bool.false_ne_true, fun h => absurd h Bool.false_ne_true, fun h => absurd h Bool.false_ne_true, fun h => absurd h Bool.false_ne_true, fun h => absurd h Bool.false_ne_true, fun h => absurd h Bool.false_ne_true, fun h => absurd h Bool.false_ne_true, fun h => absurd h Bool.false_ne_true, fun h => absurd h Bool.false_ne_true, fun h => absurd h Bool.false_ne_true, fun h => absurd h Bool.false_ne_true, fun h => absurd h Bool.false_ne_true, fun h => absurd h Bool.false_ne_true⟩
    · refine AllS.consN 1 (some 13) rfl rfl ?_ (AllS.consN 2 (some 14) rfl rfl ?_ (AllS.consN 3 (some 15) rfl rfl ?_ (AllS.consN 4 (some 16) rfl rfl ?_ (AllS.consN 5 (some 17) rfl rfl ?_ (AllS.consN 6 (some 18) rfl rfl ?_ (AllS.consN 7 (some 19) rfl rfl ?_ (AllS.consN 8 (some 20) rfl rfl ?_ (AllS.consN 9 (some 21) rfl rfl ?_ (AllS.consN 10 (some 22) rfl rfl ?_ (AllS.consN 11 none rfl rfl ?_ AllS.nil))))))))))
      · intro L s w2 h hk hd hn
        have s0 : s 0 = _ := hk 0 (by kernel_rfl)
        refine stepS rfl fun K hK => ?_
        go_simp
        exact hK _ _ { h with e0 := fun _ => rfl }
      · intro L s w2 h hk hd hn
        have s0 : s 0 = _ := hk 0 (by kernel_rfl)
        refine stepS rfl fun K hK => ?_
        go_simp
        exact hK _ _ { h with e1 := fun _ => rfl }
      · intro L s w2 h hk hd hn
        have s7 : s 7 = _ := hk 7 (by kernel_rfl)
        refine stepS rfl fun K hK => ?_
        go_simp
        exact hK _ _ { h with e2 := fun _ => rfl }
      · intro L s w2 h hk hd hn
        have s15 := h.e2 hd.1
        have hz : L 10 = false := (Bool.eq_false_or_eq_true (L 10)).elim (fun e => absurd (h.l3 e) (by rw [hn]; exact Bool.false_ne_true)) id
        obtain ⟨c0, c1, c2, c3, c4, c5⟩ := vobj_six (h.bk hz _ (List.mem_cons_of_mem _ (List.mem_cons_self ..)))
        refine stepS rfl fun K hK => ?_
        go_simp
        exact hK _ _ { h with e3 := fun _ => rfl, l3 := fun _ => rfl }
      · intro L s w2 h hk hd hn
        have s7 : s 7 = _ := hk 7 (by kernel_rfl)
        refine stepS rfl fun K hK => ?_
        go_simp
        exact hK _ _ { h with e4 := fun _ => rfl }
      · intro L s w2 h hk hd hn
        have s17 := h.e4 hd.1
        have hz : L 10 = false := (Bool.eq_false_or_eq_true (L 10)).elim (fun e => absurd (h.l5 e) (by rw [hn]; exact Bool.false_ne_true)) id
        obtain ⟨c0, c1, c2, c3, c4, c5⟩ := vobj_six (h.bk hz _ (List.mem_cons_of_mem _ (List.mem_cons_self ..)))
        refine stepS rfl fun K hK => ?_
        go_simp
        exact hK _ _ { h with e5 := fun _ => rfl, l5 := fun _ => rfl }
      · intro L s w2 h hk hd hn
        have s14 := h.e1 hd.1
        have s16 := h.e3 hd.2.1
        have s18 := h.e5 hd.2.2.1
        have hv := h.s0 hn
        refine stepS rfl fun K hK => ?_
        go_simp
        refine (HT1.out _ hv.mv.st).mono ?_
        rintro e w3 ⟨rfl, hm⟩
        have hv2 := hv.next hm
        exact ⟨_, rfl, hK _ _ { h with s0 := fun a => absurd a.symm Bool.false_ne_true, s1 := fun _ _ => hv2, s2 := fun a => absurd (h.o1 a) (by rw [hn]; exact Bool.false_ne_true), sf := fun a => absurd (h.o1 (h.of a)) (by rw [hn]; exact Bool.false_ne_true), o1 := fun _ => rfl, bk := fun _ q hq => (hv2.blk q hq).2, e6 := fun _ => rfl }⟩
      · intro L s w2 h hk hd hn
        have s7 : s 7 = _ := hk 7 (by kernel_rfl)
        refine stepS rfl fun K hK => ?_
        go_simp
        exact hK _ _ { h with e7 := fun _ => rfl }
      · intro L s w2 h hk hd hn
        have s20 := h.e7 hd.1
        have hz : L 10 = false := (Bool.eq_false_or_eq_true (L 10)).elim (fun e => absurd (h.l8 e) (by rw [hn]; exact Bool.false_ne_true)) id
        obtain ⟨c0, c1, c2, c3, c4, c5⟩ := vobj_six (h.bk hz _ (List.mem_cons_of_mem _ (List.mem_cons_self ..)))
        refine stepS rfl fun K hK => ?_
        go_simp
        exact hK _ _ { h with e8 := fun _ => rfl, l8 := fun _ => rfl }
      · intro L s w2 h hk hd hn
        have s13 := h.e0 hd.1
        have s19 := h.e6 hd.2.1
        have s21 := h.e8 hd.2.2.1
        have t0 : L 6 = true := hd.2.1
        have hv := h.s1 t0 hn
        refine stepS rfl fun K hK => ?_
        go_simp
        refine (HT2.out _ hv.mv.st).mono ?_
        rintro e w3 ⟨rfl, hm⟩
        have hv2 := hv.next hm
        exact ⟨_, rfl, hK _ _ { h with s0 := fun a => absurd (t0.symm.trans a) (fun c => Bool.noConfusion c), s1 := fun _ a => absurd a.symm Bool.false_ne_true, s2 := fun _ _ => hv2, sf := fun a => absurd (h.of a) (by rw [hn]; exact Bool.false_ne_true), o1 := fun _ => t0, of := fun _ => rfl, bk := fun _ q hq => (hv2.blk q hq).2, e9 := fun _ => rfl }⟩
      · intro L s w2 h hk hd hn
        have s22 := h.e9 hd.1
        have s6 : s 6 = _ := hk 6 (by kernel_rfl)
        have tl : L 9 = true := hd.1
        have t0 : L 6 = true := h.o1 tl
        have hv := h.s2 tl hn
        have b := (hv.blk _ (List.mem_cons_self ..)).2
        have c0 := cell_two0 b
        have c1 := cell_two1 b
        have f0 := free_two (i := 0) b
        have f1 := free_two (i := 1) b
        have lb := lt_of_block b
        refine stepS rfl fun K hK => ?_
        go_simp
        exact hK _ _ { h with s0 := fun a => absurd (t0.symm.trans a) (fun c => Bool.noConfusion c), s1 := fun _ a => absurd (tl.symm.trans a) (fun c => Bool.noConfusion c), s2 := fun _ a => absurd a.symm Bool.false_ne_true, sf := fun _ => hv.st2 HK6.out HK7.out _ _, of := fun _ => tl, bk := fun a => absurd a.symm Bool.false_ne_true, l3 := fun _ => hd.2.2.2.2.2.1, l5 := fun _ => hd.2.2.2.2.2.2.2.1, l8 := fun _ => hd.2.2.2.2.2.2.2.2.2.2.1 }
    · intro L s w2 h hk hl
      rename_i J K' hR hM
      refine hM _ _ (Met.intro (hR _ _ ?_))
      repeat apply Exists.intro
      refine ⟨⟨hk 6 (by kernel_rfl), Lib.hid ((h.sf (hl 10 (by decide))).sub (by simp))⟩, ?_⟩
      refine congrArg (fun l => (⟨List.toArray l, []⟩ : Act)) ?_
      show [s 0, s 1, s 2, s 3, s 4, s 5, s 6, s 7, s 8, s 9, s 10, s 11, s 12, s 13, s 14, s 15, s 16, s 17, s 18, s 19, s 20, s 21, s 22] = _
      exact lc (hk 0 (by kernel_rfl)) (lc (hk 1 (by kernel_rfl)) (lc (hk 2 (by kernel_rfl)) (lc (hk 3 (by kernel_rfl)) (lc (hk 4 (by kernel_rfl)) (lc (hk 5 (by kernel_rfl)) (lc rfl (lc (hk 7 (by kernel_rfl)) (lc (hk 8 (by kernel_rfl)) (lc (hk 9 (by kernel_rfl)) (lc (hk 10 (by kernel_rfl)) (lc (hk 11 (by kernel_rfl)) (lc (hk 12 (by kernel_rfl)) (lc rfl (lc rfl (lc rfl (lc rfl (lc rfl (lc rfl (lc rfl (lc rfl (lc rfl (lc rfl rfl))))))))))))))))))))))

  case rest =>
    obtain ⟨rfl, HX⟩ := hcut
    have b := (HX.out.blk _ (List.mem_cons_self ..)).2
    have c0 := cell_two0 b
    have c1 := cell_two1 b
    clear b
    go_wp2_with fail
    exact bodyPost_ret (v := .agg #[.int .i64 r2.1.1, .int .i64 r2.1.2]) (by simp [results, Tryz.results51, go_sem, c0, c1]) rfl ⟨by rw [HR1.out], by rw [HR2.out]; exact HX.out.mv⟩
structure Mq (W0 : World) (S K2 K4 K5 : Nat) (e : Int) (p : V3) (r1 r2 r3 : (Int × Int) × Int) (L : Nat → Bool) (s : Nat → Value) (w : World) : Prop where
  s0 : L 7 = false → Vk W0 w S (e) [(K4, .cells #[.int .i64 0, .int .i64 0] 23 (0, 0)), (K5, vobj (vl p)), (K2, .cells #[.pointer (some ⟨S, 0, none⟩)] 59 (0, 0))]
  s1 : L 7 = true → L 10 = false → Vk W0 w S (fst2 e r1.2) [(K4, .cells #[.int .i64 0, .int .i64 0] 23 (0, 0)), (K5, vobj (vl p)), (K2, .cells #[.pointer (some ⟨S, 0, none⟩)] 59 (0, 0))]
  s2 : L 10 = true → L 14 = false → Vk W0 w S (fst2 (fst2 e r1.2) r2.2) [(K4, .cells #[.int .i64 0, .int .i64 0] 23 (0, 0)), (K5, vobj (vl p)), (K2, .cells #[.pointer (some ⟨S, 0, none⟩)] 59 (0, 0))]
  s3 : L 14 = true → L 15 = false → Vk W0 w S (fst2 (fst2 (fst2 e r1.2) r2.2) r3.2) [(K4, .cells #[.int .i64 0, .int .i64 0] 23 (0, 0)), (K5, vobj (vl p)), (K2, .cells #[.pointer (some ⟨S, 0, none⟩)] 59 (0, 0))]
  sf : L 15 = true → Vk W0 w S (fst2 (fst2 (fst2 e r1.2) r2.2) r3.2) [(K4, .cells #[.int .i64 r3.1.1, .int .i64 r3.1.2] 23 (0, 0)), (K5, vobj (vl p)), (K2, .cells #[.pointer (some ⟨S, 0, none⟩)] 59 (0, 0))]
  o1 : L 10 = true → L 7 = true
  o2 : L 14 = true → L 10 = true
  of : L 15 = true → L 14 = true
  bk : L 15 = false → ∀ q ∈ [(K4, .cells #[.int .i64 0, .int .i64 0] 23 (0, 0)), (K5, vobj (vl p)), (K2, .cells #[.pointer (some ⟨S, 0, none⟩)] 59 (0, 0))], w.heap[q.1]? = some q.2
  l0 : L 15 = true → L 0 = true
  l1 : L 15 = true → L 1 = true
  l2 : L 15 = true → L 2 = true
  l4 : L 15 = true → L 4 = true
  l6 : L 15 = true → L 6 = true
  l9 : L 15 = true → L 9 = true
  b11 : L 11 = true → L 10 = true
  e0 : L 0 = true → s 10 = .pointer (some ⟨S, 0, none⟩)
  e1 : L 1 = true → s 11 = .pointer (some ⟨S, 0, none⟩)
  e2 : L 2 = true → s 12 = .pointer (some ⟨S, 0, none⟩)
  e3 : L 3 = true → s 13 = .pointer (some ⟨K5, 0, none⟩)
  e4 : L 4 = true → s 14 = .agg #[.int .i64 p.1.1, .int .i64 p.1.2]
  e5 : L 5 = true → s 15 = .pointer (some ⟨K5, 2, none⟩)
  e6 : L 6 = true → s 16 = .agg #[.int .i64 p.2.1.1, .int .i64 p.2.1.2]
  e8 : L 8 = true → s 18 = .pointer (some ⟨K5, 4, none⟩)
  e9 : L 9 = true → s 19 = .agg #[.int .i64 p.2.2.1, .int .i64 p.2.2.2]
  e7 : L 7 = true → s 17 = .agg #[.int .i64 r1.1.1, .int .i64 r1.1.2]
  e10 : L 10 = true → s 20 = .agg #[.int .i64 r2.1.1, .int .i64 r2.1.2]
  e11 : L 11 = true → s 21 = .tuple #[.agg #[.int .i64 r3.1.1, .int .i64 r3.1.2], .int .i64 r3.2]
  e12 : L 12 = true → s 22 = .agg #[.int .i64 r3.1.1, .int .i64 r3.1.2]
  e13 : L 13 = true → s 23 = .int .i64 r3.2
  e14 : L 14 = true → s 24 = .agg #[.int .i64 r3.1.1, .int .i64 r3.1.2]
set_option maxRecDepth 100000 in
set_option maxHeartbeats 2000000 in
theorem vec_norm (S : Nat) (e : Int) (a : V3) (w : World) (h : w.heap[S]? = some (stp e)) :
    Calls Tryz.prog 55 #[.pointer (some ⟨S, 0, none⟩), .agg #[.int .i64 a.1.1, .int .i64 a.1.2, .int .i64 a.2.1.1, .int .i64 a.2.1.2, .int .i64 a.2.2.1, .int .i64 a.2.2.2]] w fun r w' => r = .returned (.agg #[.int .i64 (normS a).1, .int .i64 (normS a).2]) ∧ Mv w w' S (normE e a) := by
  have hV : Vk w (((w.alloc (.cells #[.pointer (some ⟨S, 0, none⟩)] 59)).alloc (.cells #[.int .i64 a.1.1, .int .i64 a.1.2, .int .i64 a.2.1.1, .int .i64 a.2.1.2, .int .i64 a.2.2.1, .int .i64 a.2.2.2] 25)).alloc (.cells #[.int .i64 0, .int .i64 0] 23)) S e [(w.heap.size + 1 + 1, .cells #[.int .i64 0, .int .i64 0] 23 (0, 0)), (w.heap.size, .cells #[.pointer (some ⟨S, 0, none⟩)] 59 (0, 0))] :=
    ((((Vk.start h).al (.cells #[.pointer (some ⟨S, 0, none⟩)] 59 (0, 0))).alN (vobj (vl a)) (n := w.heap.size + 1) (by simp)).alN (.cells #[.int .i64 0, .int .i64 0] 23 (0, 0)) (n := w.heap.size + 1 + 1) (by simp)).sub (by simp)
  have HS := Lib.hid hV
  clear h hV
  go_enter Tryz.func55, Tryz.ntmps55
  go_wp2_with fail
  refine (each_norm1 S w.heap.size e a a _ HS.out.mv.st (HS.out.blk _ (List.mem_cons_of_mem _ (List.mem_cons_self ..))).2).mono ?_; rintro r w2 ⟨rfl, hm⟩
  obtain ⟨p, hp⟩ : ∃ p, each3 sqrF a a = p := ⟨_, rfl⟩
  obtain ⟨e1, he1⟩ : ∃ e1, err3 sqrF e a a = e1 := ⟨_, rfl⟩
  have HR1 : Hid (normS a = (sSqrt (sAdd (sAdd p.1 p.2.1).1 p.2.2).1).1) := Lib.hid (by rw [← hp]; rfl)
  have HR2 : Hid (normE e a = fst2 (fst2 (fst2 e1 (sAdd p.1 p.2.1).2) (sAdd (sAdd p.1 p.2.1).1 p.2.2).2) (sSqrt (sAdd (sAdd p.1 p.2.1).1 p.2.2).1).2) := Lib.hid (by rw [← hp, ← he1]; rfl)
  rw [he1] at hm
  rw [hp]
  simp only [V3.val]
  have hV : Vk w (w2.alloc (.cells #[.int .i64 p.1.1, .int .i64 p.1.2, .int .i64 p.2.1.1, .int .i64 p.2.1.2, .int .i64 p.2.2.1, .int .i64 p.2.2.2] 25)) S e1 [(w2.heap.size, vobj (vl p)), (w.heap.size + 1 + 1, .cells #[.int .i64 0, .int .i64 0] 23 (0, 0)), (w.heap.size, .cells #[.pointer (some ⟨S, 0, none⟩)] 59 (0, 0))] := (HS.out.next hm).al (vobj (vl p))
  have HV := Lib.hid (hV.sub (cs := [(w.heap.size + 1 + 1, .cells #[.int .i64 0, .int .i64 0] 23 (0, 0)), (w2.heap.size, vobj (vl p)), (w.heap.size, .cells #[.pointer (some ⟨S, 0, none⟩)] 59 (0, 0))]) (by simp))
  have hlt := lt_of_block ((HS.out.next hm).blk _ (List.mem_cons_self ..)).2
  have HK4 : Hid (w.heap.size ≤ w.heap.size + 1 + 1) := Lib.hid (by omega)
  have HK5 : Hid (∀ q ∈ [(w2.heap.size, vobj (vl p)), (w.heap.size, Obj.cells #[.pointer (some ⟨S, 0, none⟩)] 59 (0, 0))], q.1 ≠ w.heap.size + 1 + 1) := Lib.hid (by simp at hlt ⊢; omega)
  have HT1 := Lib.hid (fun (W : World) h => vec_add S e1 p.1 p.2.1 W h)
  obtain ⟨r1, hr1⟩ : ∃ r1, sAdd p.1 p.2.1 = r1 := ⟨_, rfl⟩
  rw [hr1] at HR1 HR2 HT1
  have HT2 := Lib.hid (fun (W : World) h => vec_add S (fst2 e1 r1.2) r1.1 p.2.2 W h)
  obtain ⟨r2, hr2⟩ : ∃ r2, sAdd r1.1 p.2.2 = r2 := ⟨_, rfl⟩
  rw [hr2] at HR1 HR2 HT2
  have HSQ := Lib.hid (fun (W : World) => span_Sqrt r2.1 W)
  obtain ⟨r3, hr3⟩ : ∃ r3, sSqrt r2.1 = r3 := ⟨_, rfl⟩
  rw [hr3] at HR1 HR2 HSQ
  have HT3 := Lib.hid (fun (W : World) h => vec_take S (fst2 (fst2 e1 r1.2) r2.2) r3.2 r3.1 W h)
  clear HS hm hp he1 hr1 hr2 hr3 hV hlt
  go_upto_region 2 with (fail)
  obtain ⟨K5, hK5⟩ : ∃ K5, K5 = w2.heap.size := ⟨_, rfl⟩
  rw [← hK5] at HV HK5 ⊢
  clear hK5
  generalize w2.alloc (.cells #[.int .i64 p.1.1, .int .i64 p.1.2, .int .i64 p.2.1.1, .int .i64 p.2.1.2, .int .i64 p.2.2.1, .int .i64 p.2.2.2] 25) = W3 at *
  go_cut [4] (fun v wx => v = .pointer (some ⟨w.heap.size + 1 + 1, 0, none⟩) ∧ Hid (Vk w wx S (fst2 (fst2 (fst2 e1 r1.2) r2.2) r3.2) [(w.heap.size + 1 + 1, .cells #[.int .i64 r3.1.1, .int .i64 r3.1.2] 23 (0, 0))]))
  case first =>
    refine wp_region_inv (Mq w S w.heap.size (w.heap.size + 1 + 1) K5 e1 p r1 r2 r3) (by kernel_rfl) (by kernel_rfl) ?_ ?_ ?_
    · exact ⟨fun _ => HV.out.on (Below.refl _ _).drew, fun h => absurd h Bool.false_ne_true, fun h => absurd h Bool.false_ne_true, fun h => absurd h Bool.false_ne_true, fun h => absurd h Bool.false_ne_true, fun h => absurd h Bool.false_ne_true, fun h => absurd h Bool.false_ne_true, fun h => absurd h Bool.false_ne_true, fun _ q hq => ((HV.out.on (Below.refl _ _).drew).blk q hq).2, fun h => absurd h Bool.false_ne_true, fun h => absurd h Bool.false_ne_true, fun h => absurd h Bool.false_ne_true, fun h => absurd h Bool.false_ne_true, fun h => absurd h Bool.false_ne_true, fun h => absurd h Bool.false_ne_true, fun h => absurd h Bool.false_ne_true, fun h => absurd h Bool.false_ne_true, fun h => absurd h Bool.false_ne_true, fun h => absurd h Bool.false_ne_true, fun h => absurd h Bool.false_ne_true, fun h => absurd h Bool.false_ne_true, fun h => absurd h Bool.false_ne_true, fun h => absurd h Bool.false_ne_true, fun h => absurd h Bool.false_ne_true, fun h => absurd h Bool.false_ne_true, fun h => absurd h Bool.false_ne_true, fun h => absurd h Bool.false_ne_true, fun h => absurd h Bool.false_ne_true, fun h => absurd h Bool.false_ne_true, fun h => absurd h Bool.false_ne_true, fun h => absurd h Bool.false_ne_true⟩
    · refine AllS.consN 1 (some 10) rfl rfl ?_ (AllS.consN 2 (some 11) rfl rfl ?_ (AllS.consN 3 (some 12) rfl rfl ?_ (AllS.consN 4 (some 13) rfl rfl ?_ (AllS.consN 5 (some 14) rfl rfl ?_ (AllS.consN 6 (some 15) rfl rfl ?_ (AllS.consN 7 (some 16) rfl rfl ?_ (AllS.consN 8 (some 17) rfl rfl ?_ (AllS.consN 9 (some 18) rfl rfl ?_ (AllS.consN 10 (some 19) rfl rfl ?_ (AllS.consN 11 (some 20) rfl rfl ?_ (AllS.consN 12 (some 21) rfl rfl ?_ (AllS.consN 13 (some 22) rfl rfl ?_ (AllS.consN 14 (some 23) rfl rfl ?_ (AllS.consN 15 (some 24) rfl rfl ?_ (AllS.consN 16 none rfl rfl ?_ AllS.nil)))))))))))))))
      · intro L s w2 h hk hd hn
        have s2 : s 2 = _ := hk 2 (by kernel_rfl)
        have hz : L 15 = false := (Bool.eq_false_or_eq_true (L 15)).elim (fun e => absurd (h.l0 e) (by rw [hn]; exact Bool.false_ne_true)) id
        have c0 := cell_of_one (h.bk hz _ (List.mem_cons_of_mem _ (List.mem_cons_of_mem _ (List.mem_cons_self ..))))
        refine stepS rfl fun K hK => ?_
        go_simp
        exact hK _ _ { h with e0 := fun _ => rfl, l0 := fun _ => rfl }
      · intro L s w2 h hk hd hn
        have s2 : s 2 = _ := hk 2 (by kernel_rfl)
        have hz : L 15 = false := (Bool.eq_false_or_eq_true (L 15)).elim (fun e => absurd (h.l1 e) (by rw [hn]; exact Bool.false_ne_true)) id
        have c0 := cell_of_one (h.bk hz _ (List.mem_cons_of_mem _ (List.mem_cons_of_mem _ (List.mem_cons_self ..))))
        refine stepS rfl fun K hK => ?_
        go_simp
        exact hK _ _ { h with e1 := fun _ => rfl, l1 := fun _ => rfl }
      · intro L s w2 h hk hd hn
        have s2 : s 2 = _ := hk 2 (by kernel_rfl)
        have hz : L 15 = false := (Bool.eq_false_or_eq_true (L 15)).elim (fun e => absurd (h.l2 e) (by rw [hn]; exact Bool.false_ne_true)) id
        have c0 := cell_of_one (h.bk hz _ (List.mem_cons_of_mem _ (List.mem_cons_of_mem _ (List.mem_cons_self ..))))
        refine stepS rfl fun K hK => ?_
        go_simp
        exact hK _ _ { h with e2 := fun _ => rfl, l2 := fun _ => rfl }
      · intro L s w2 h hk hd hn
        have s5 : s 5 = _ := hk 5 (by kernel_rfl)
        refine stepS rfl fun K hK => ?_
        go_simp
        exact hK _ _ { h with e3 := fun _ => rfl }
      · intro L s w2 h hk hd hn
        have s13 := h.e3 hd.1
        have hz : L 15 = false := (Bool.eq_false_or_eq_true (L 15)).elim (fun e => absurd (h.l4 e) (by rw [hn]; exact Bool.false_ne_true)) id
        obtain ⟨c0, c1, c2, c3, c4, c5⟩ := vobj_six (h.bk hz _ (List.mem_cons_of_mem _ (List.mem_cons_self ..)))
        refine stepS rfl fun K hK => ?_
        go_simp
        exact hK _ _ { h with e4 := fun _ => rfl, l4 := fun _ => rfl }
      · intro L s w2 h hk hd hn
        have s5 : s 5 = _ := hk 5 (by kernel_rfl)
        refine stepS rfl fun K hK => ?_
        go_simp
        exact hK _ _ { h with e5 := fun _ => rfl }
      · intro L s w2 h hk hd hn
        have s15 := h.e5 hd.1
        have hz : L 15 = false := (Bool.eq_false_or_eq_true (L 15)).elim (fun e => absurd (h.l6 e) (by rw [hn]; exact Bool.false_ne_true)) id
        obtain ⟨c0, c1, c2, c3, c4, c5⟩ := vobj_six (h.bk hz _ (List.mem_cons_of_mem _ (List.mem_cons_self ..)))
        refine stepS rfl fun K hK => ?_
        go_simp
        exact hK _ _ { h with e6 := fun _ => rfl, l6 := fun _ => rfl }
      · intro L s w2 h hk hd hn
        have s12 := h.e2 hd.1
        have s14 := h.e4 hd.2.1
        have s16 := h.e6 hd.2.2.1
        have hv := h.s0 hn
        refine stepS rfl fun K hK => ?_
        go_simp
        refine (HT1.out _ hv.mv.st).mono ?_
        rintro e w3 ⟨rfl, hm⟩
        have hv2 := hv.next hm
        exact ⟨_, rfl, hK _ _ { h with s0 := fun a => absurd a.symm Bool.false_ne_true, s1 := fun _ _ => hv2, s2 := fun a => absurd (h.o1 a) (by rw [hn]; exact Bool.false_ne_true), s3 := fun a => absurd (h.o1 (h.o2 a)) (by rw [hn]; exact Bool.false_ne_true), sf := fun a => absurd (h.o1 (h.o2 (h.of a))) (by rw [hn]; exact Bool.false_ne_true), o1 := fun _ => rfl, bk := fun _ q hq => (hv2.blk q hq).2, e7 := fun _ => rfl }⟩
      · intro L s w2 h hk hd hn
        have s5 : s 5 = _ := hk 5 (by kernel_rfl)
        refine stepS rfl fun K hK => ?_
        go_simp
        exact hK _ _ { h with e8 := fun _ => rfl }
      · intro L s w2 h hk hd hn
        have s18 := h.e8 hd.1
        have hz : L 15 = false := (Bool.eq_false_or_eq_true (L 15)).elim (fun e => absurd (h.l9 e) (by rw [hn]; exact Bool.false_ne_true)) id
        obtain ⟨c0, c1, c2, c3, c4, c5⟩ := vobj_six (h.bk hz _ (List.mem_cons_of_mem _ (List.mem_cons_self ..)))
        refine stepS rfl fun K hK => ?_
        go_simp
        exact hK _ _ { h with e9 := fun _ => rfl, l9 := fun _ => rfl }
      · intro L s w2 h hk hd hn
        have s11 := h.e1 hd.1
        have s17 := h.e7 hd.2.1
        have s19 := h.e9 hd.2.2.1
        have t0 : L 7 = true := hd.2.1
        have hv := h.s1 t0 hn
        refine stepS rfl fun K hK => ?_
        go_simp
        refine (HT2.out _ hv.mv.st).mono ?_
        rintro e w3 ⟨rfl, hm⟩
        have hv2 := hv.next hm
        exact ⟨_, rfl, hK _ _ { h with b11 := fun _ => rfl, s0 := fun a => absurd (t0.symm.trans a) (fun c => Bool.noConfusion c), s1 := fun _ a => absurd a.symm Bool.false_ne_true, s2 := fun _ _ => hv2, s3 := fun a => absurd (h.o2 a) (by rw [hn]; exact Bool.false_ne_true), sf := fun a => absurd (h.o2 (h.of a)) (by rw [hn]; exact Bool.false_ne_true), o1 := fun _ => t0, o2 := fun _ => rfl, bk := fun _ q hq => (hv2.blk q hq).2, e10 := fun _ => rfl }⟩
      · intro L s w2 h hk hd hn
        have s20 := h.e10 hd.1
        refine stepS rfl fun K hK => ?_
        go_simp
        refine (HSQ.out _).mono ?_
        rintro e w3 ⟨rfl, hb⟩
        exact ⟨_, rfl, hK _ _ { h with b11 := fun _ => hd.1, s0 := fun a => (h.s0 a).on hb, s1 := fun a b => (h.s1 a b).on hb, s2 := fun a b => (h.s2 a b).on hb, s3 := fun a b => (h.s3 a b).on hb, sf := fun a => (h.sf a).on hb, bk := fun a q hq => (hb.block _ (lt_of_block (h.bk a q hq))).trans (h.bk a q hq), e11 := fun _ => rfl }⟩
      · intro L s w2 h hk hd hn
        have s21 := h.e11 hd.1
        refine stepS rfl fun K hK => ?_
        go_simp
        exact hK _ _ { h with e12 := fun _ => rfl }
      · intro L s w2 h hk hd hn
        have s21 := h.e11 hd.1
        refine stepS rfl fun K hK => ?_
        go_simp
        exact hK _ _ { h with e13 := fun _ => rfl }
      · intro L s w2 h hk hd hn
        have s10 := h.e0 hd.1
        have s22 := h.e12 hd.2.1
        have s23 := h.e13 hd.2.2.1
        have t1 : L 10 = true := h.b11 hd.2.2.2.1
        have t0 : L 7 = true := h.o1 t1
        have hv := h.s2 t1 hn
        refine stepS rfl fun K hK => ?_
        go_simp
        refine (HT3.out _ hv.mv.st).mono ?_
        rintro e w3 ⟨rfl, hm⟩
        have hv2 := hv.next hm
        exact ⟨_, rfl, hK _ _ { h with s0 := fun a => absurd (t0.symm.trans a) (fun c => Bool.noConfusion c), s1 := fun _ a => absurd (t1.symm.trans a) (fun c => Bool.noConfusion c), s2 := fun _ a => absurd a.symm Bool.false_ne_true, s3 := fun _ _ => hv2, sf := fun a => absurd (h.of a) (by rw [hn]; exact Bool.false_ne_true), o2 := fun _ => t1, of := fun _ => rfl, bk := fun _ q hq => (hv2.blk q hq).2, e14 := fun _ => rfl }⟩
      · intro L s w2 h hk hd hn
        have s24 := h.e14 hd.1
        have s4 : s 4 = _ := hk 4 (by kernel_rfl)
        have tl : L 14 = true := hd.1
        have t1 : L 10 = true := h.o2 tl
        have t0 : L 7 = true := h.o1 t1
        have hv := h.s3 tl hn
        have b := (hv.blk _ (List.mem_cons_self ..)).2
        have c0 := cell_two0 b
        have c1 := cell_two1 b
        have f0 := free_two (i := 0) b
        have f1 := free_two (i := 1) b
        have lb := lt_of_block b
        refine stepS rfl fun K hK => ?_
        go_simp
        exact hK _ _ { h with s0 := fun a => absurd (t0.symm.trans a) (fun c => Bool.noConfusion c), s1 := fun _ a => absurd (t1.symm.trans a) (fun c => Bool.noConfusion c), s2 := fun _ a => absurd (tl.symm.trans a) (fun c => Bool.noConfusion c), s3 := fun _ a => absurd a.symm Bool.false_ne_true, sf := fun _ => hv.st2 HK4.out HK5.out _ _, of := fun _ => tl, bk := fun a => absurd a.symm Bool.false_ne_true, l0 := fun _ => hd.2.2.1, l1 := fun _ => hd.2.2.2.1, l2 := fun _ => hd.2.2.2.2.1, l4 := fun _ => hd.2.2.2.2.2.2.1, l6 := fun _ => hd.2.2.2.2.2.2.2.2.1, l9 := fun _ => hd.2.2.2.2.2.2.2.2.2.2.2.1 }
    · intro L s w2 h hk hl
      rename_i J K' hR hM
      refine hM _ _ (Met.intro (hR _ _ ?_))
      repeat apply Exists.intro
      refine ⟨⟨hk 4 (by kernel_rfl), Lib.hid ((h.sf (hl 15 (by decide))).sub (by simp))⟩, ?_⟩
      refine congrArg (fun l => (⟨List.toArray l, []⟩ : Act)) ?_
      show [s 0, s 1, s 2, s 3, s 4, s 5, s 6, s 7, s 8, s 9, s 10, s 11, s 12, s 13, s 14, s 15, s 16, s 17, s 18, s 19, s 20, s 21, s 22, s 23, s 24] = _
      exact lc (hk 0 (by kernel_rfl)) (lc (hk 1 (by kernel_rfl)) (lc (hk 2 (by kernel_rfl)) (lc (hk 3 (by kernel_rfl)) (lc rfl (lc (hk 5 (by kernel_rfl)) (lc (hk 6 (by kernel_rfl)) (lc (hk 7 (by kernel_rfl)) (lc (hk 8 (by kernel_rfl)) (lc (hk 9 (by kernel_rfl)) (lc rfl (lc rfl (lc rfl (lc rfl (lc rfl (lc rfl (lc rfl (lc rfl (lc rfl (lc rfl (lc rfl (lc rfl (lc rfl (lc rfl (lc rfl rfl))))))))))))))))))))))))

  case rest =>
    obtain ⟨rfl, HX⟩ := hcut
    have b := (HX.out.blk _ (List.mem_cons_self ..)).2
    have c0 := cell_two0 b
    have c1 := cell_two1 b
    clear b
    go_wp2_with fail
    exact bodyPost_ret (v := .agg #[.int .i64 r3.1.1, .int .i64 r3.1.2]) (by simp [results, Tryz.results55, go_sem, c0, c1]) rfl ⟨by rw [HR1.out], by rw [HR2.out]; exact HX.out.mv⟩
set_option maxRecDepth 100000 in
set_option maxHeartbeats 2000000 in
theorem vec_Add (a b : V3) (w : World) :
    Calls Tryz.prog 8 #[.agg #[.int .i64 a.1.1, .int .i64 a.1.2, .int .i64 a.2.1.1, .int .i64 a.2.1.2, .int .i64 a.2.2.1, .int .i64 a.2.2.2], .agg #[.int .i64 b.1.1, .int .i64 b.1.2, .int .i64 b.2.1.1, .int .i64 b.2.1.2, .int .i64 b.2.2.1, .int .i64 b.2.2.2]] w fun r w' => r = .returned (.tuple #[(vAdd a b).1.val, .int .i64 (vAdd a b).2]) ∧ Below w.heap.size w w' := by
  have hK : Kv w ((((w.alloc (.cells #[.int .i64 a.1.1, .int .i64 a.1.2, .int .i64 a.2.1.1, .int .i64 a.2.1.2, .int .i64 a.2.2.1, .int .i64 a.2.2.2] 25)).alloc (.cells #[.int .i64 b.1.1, .int .i64 b.1.2, .int .i64 b.2.1.1, .int .i64 b.2.1.2, .int .i64 b.2.2.1, .int .i64 b.2.2.2] 25)).alloc (.cells #[.int .i64 0, .int .i64 0, .int .i64 0, .int .i64 0, .int .i64 0, .int .i64 0] 25)).alloc (.cells #[.int .i64 a.1.1, .int .i64 a.1.2, .int .i64 a.2.1.1, .int .i64 a.2.1.2, .int .i64 a.2.2.1, .int .i64 a.2.2.2, .int .i64 b.1.1, .int .i64 b.1.2, .int .i64 b.2.1.1, .int .i64 b.2.1.2, .int .i64 b.2.2.1, .int .i64 b.2.2.2] 25)) [(w.heap.size + 1 + 1 + 1, .cells (vfl [a, b]).toArray 25 (0, 0)), (w.heap.size + 1 + 1, vobj (vl v30)), (w.heap.size + 1, vobj (vl b)), (w.heap.size, vobj (vl a))] := ((((Kv.start w).al (vobj (vl a)) (n := w.heap.size) (by simp)).al (vobj (vl b)) (n := w.heap.size + 1) (by simp)).al (vobj (vl v30)) (n := w.heap.size + 1 + 1) (by simp)).al (.cells (vfl [a, b]).toArray 25 (0, 0)) (n := w.heap.size + 1 + 1 + 1) (by simp)
  have HK := Lib.hid hK
  clear hK
  go_enter Tryz.func8, Tryz.ntmps8
  go_wp2_with fail
  refine (vec_all [a, b] 2 _ _ rfl (by decide) (HK.out.blk _ (List.mem_cons_self ..))).mono ?_; rintro r w1 ⟨S, rfl, hA0⟩
  have hA : Al w w1 S (vNote (vNote 0 a) b) [(w.heap.size + 1 + 1, vobj (vl v30)), (w.heap.size, vobj (vl a)), (w.heap.size + 1, vobj (vl b))] := hA0.up (HK.out.sub (by simp))
  clear hA0 HK
  obtain ⟨c0, c1, c2, c3, c4, c5⟩ := vobj_six (hA.blk (w.heap.size, vobj (vl a)) (by simp)).2
  obtain ⟨d0, d1, d2, d3, d4, d5⟩ := vobj_six (hA.blk (w.heap.size + 1, vobj (vl b)) (by simp)).2
  go_wp2_with fail
  refine (each_add S _ a b _ hA.st).mono ?_; rintro r w2 ⟨rfl, hm⟩
  replace hA := hA.next hm
  clear hm c0 c1 c2 c3 c4 c5 d0 d1 d2 d3 d4 d5
  obtain ⟨p, hp⟩ : ∃ p, each3 sAdd a b = p := ⟨_, rfl⟩
  obtain ⟨e1, he1⟩ : ∃ e1, err3 sAdd (vNote (vNote 0 a) b) a b = e1 := ⟨_, rfl⟩
  have HR : Hid (vAdd a b = toldV p e1) := Lib.hid (by rw [← hp, ← he1]; rfl)
  rw [he1] at hA
  rw [hp]
  clear hp he1
  simp only [V3.val]
  go_wp2_with fail
  refine (vec_toldV S e1 p _ hA.st).mono ?_; rintro r w3 ⟨rfl, hb⟩
  replace hA := hA.on hb
  clear hb
  rw [← HR.out]
  have bz := (hA.blk _ (List.mem_cons_self ..)).2
  obtain ⟨c0, c1, c2, c3, c4, c5⟩ := vobj_six bz
  have f0 := vobj_free bz 0
  have f1 := vobj_free bz 1
  have f2 := vobj_free bz 2
  have f3 := vobj_free bz 3
  have f4 := vobj_free bz 4
  have f5 := vobj_free bz 5
  --T1
  have lb := lt_of_block bz
  obtain ⟨q, hq⟩ : ∃ q, vAdd a b = q := ⟨_, rfl⟩
  rw [hq]
  have HQ := Lib.hid hq
  clear hq
  have HE := Lib.hid ((hA.sub (cs := [(w.heap.size + 1 + 1, vobj (vl v30))]) (by simp)).set6 (by omega) (by simp) q.1)
  obtain ⟨g0, g1, g2, g3, g4, g5⟩ := vobj_six (HE.out.blk _ (List.mem_cons_self ..)).2
  clear bz hA HR
  simp only [V3.val]
  go_wp2_with fail
  exact bodyPost_ret (v := .tuple #[q.1.val, .int .i64 q.2]) (by simp [results, Tryz.results8, go_sem, V3.val, g0, g1, g2, g3, g4, g5]) rfl ⟨by rw [HQ.out], HE.out.bel⟩
set_option maxRecDepth 100000 in
set_option maxHeartbeats 2000000 in
theorem vec_Sub (a b : V3) (w : World) :
    Calls Tryz.prog 10 #[.agg #[.int .i64 a.1.1, .int .i64 a.1.2, .int .i64 a.2.1.1, .int .i64 a.2.1.2, .int .i64 a.2.2.1, .int .i64 a.2.2.2], .agg #[.int .i64 b.1.1, .int .i64 b.1.2, .int .i64 b.2.1.1, .int .i64 b.2.1.2, .int .i64 b.2.2.1, .int .i64 b.2.2.2]] w fun r w' => r = .returned (.tuple #[(vSub a b).1.val, .int .i64 (vSub a b).2]) ∧ Below w.heap.size w w' := by
  have hK : Kv w ((((w.alloc (.cells #[.int .i64 a.1.1, .int .i64 a.1.2, .int .i64 a.2.1.1, .int .i64 a.2.1.2, .int .i64 a.2.2.1, .int .i64 a.2.2.2] 25)).alloc (.cells #[.int .i64 b.1.1, .int .i64 b.1.2, .int .i64 b.2.1.1, .int .i64 b.2.1.2, .int .i64 b.2.2.1, .int .i64 b.2.2.2] 25)).alloc (.cells #[.int .i64 0, .int .i64 0, .int .i64 0, .int .i64 0, .int .i64 0, .int .i64 0] 25)).alloc (.cells #[.int .i64 a.1.1, .int .i64 a.1.2, .int .i64 a.2.1.1, .int .i64 a.2.1.2, .int .i64 a.2.2.1, .int .i64 a.2.2.2, .int .i64 b.1.1, .int .i64 b.1.2, .int .i64 b.2.1.1, .int .i64 b.2.1.2, .int .i64 b.2.2.1, .int .i64 b.2.2.2] 25)) [(w.heap.size + 1 + 1 + 1, .cells (vfl [a, b]).toArray 25 (0, 0)), (w.heap.size + 1 + 1, vobj (vl v30)), (w.heap.size + 1, vobj (vl b)), (w.heap.size, vobj (vl a))] := ((((Kv.start w).al (vobj (vl a)) (n := w.heap.size) (by simp)).al (vobj (vl b)) (n := w.heap.size + 1) (by simp)).al (vobj (vl v30)) (n := w.heap.size + 1 + 1) (by simp)).al (.cells (vfl [a, b]).toArray 25 (0, 0)) (n := w.heap.size + 1 + 1 + 1) (by simp)
  have HK := Lib.hid hK
  clear hK
  go_enter Tryz.func10, Tryz.ntmps10
  go_wp2_with fail
  refine (vec_all [a, b] 2 _ _ rfl (by decide) (HK.out.blk _ (List.mem_cons_self ..))).mono ?_; rintro r w1 ⟨S, rfl, hA0⟩
  have hA : Al w w1 S (vNote (vNote 0 a) b) [(w.heap.size + 1 + 1, vobj (vl v30)), (w.heap.size, vobj (vl a)), (w.heap.size + 1, vobj (vl b))] := hA0.up (HK.out.sub (by simp))
  clear hA0 HK
  obtain ⟨c0, c1, c2, c3, c4, c5⟩ := vobj_six (hA.blk (w.heap.size, vobj (vl a)) (by simp)).2
  obtain ⟨d0, d1, d2, d3, d4, d5⟩ := vobj_six (hA.blk (w.heap.size + 1, vobj (vl b)) (by simp)).2
  go_wp2_with fail
  refine (each_sub S _ a b _ hA.st).mono ?_; rintro r w2 ⟨rfl, hm⟩
  replace hA := hA.next hm
  clear hm c0 c1 c2 c3 c4 c5 d0 d1 d2 d3 d4 d5
  obtain ⟨p, hp⟩ : ∃ p, each3 sSub a b = p := ⟨_, rfl⟩
  obtain ⟨e1, he1⟩ : ∃ e1, err3 sSub (vNote (vNote 0 a) b) a b = e1 := ⟨_, rfl⟩
  have HR : Hid (vSub a b = toldV p e1) := Lib.hid (by rw [← hp, ← he1]; rfl)
  rw [he1] at hA
  rw [hp]
  clear hp he1
  simp only [V3.val]
  go_wp2_with fail
  refine (vec_toldV S e1 p _ hA.st).mono ?_; rintro r w3 ⟨rfl, hb⟩
  replace hA := hA.on hb
  clear hb
  rw [← HR.out]
  have bz := (hA.blk _ (List.mem_cons_self ..)).2
  obtain ⟨c0, c1, c2, c3, c4, c5⟩ := vobj_six bz
  have f0 := vobj_free bz 0
  have f1 := vobj_free bz 1
  have f2 := vobj_free bz 2
  have f3 := vobj_free bz 3
  have f4 := vobj_free bz 4
  have f5 := vobj_free bz 5
  --T1
  have lb := lt_of_block bz
  obtain ⟨q, hq⟩ : ∃ q, vSub a b = q := ⟨_, rfl⟩
  rw [hq]
  have HQ := Lib.hid hq
  clear hq
  have HE := Lib.hid ((hA.sub (cs := [(w.heap.size + 1 + 1, vobj (vl v30))]) (by simp)).set6 (by omega) (by simp) q.1)
  obtain ⟨g0, g1, g2, g3, g4, g5⟩ := vobj_six (HE.out.blk _ (List.mem_cons_self ..)).2
  clear bz hA HR
  simp only [V3.val]
  go_wp2_with fail
  exact bodyPost_ret (v := .tuple #[q.1.val, .int .i64 q.2]) (by simp [results, Tryz.results10, go_sem, V3.val, g0, g1, g2, g3, g4, g5]) rfl ⟨by rw [HQ.out], HE.out.bel⟩
set_option maxRecDepth 100000 in
set_option maxHeartbeats 2000000 in
theorem vec_Neg (a : V3) (w : World) :
    Calls Tryz.prog 12 #[.agg #[.int .i64 a.1.1, .int .i64 a.1.2, .int .i64 a.2.1.1, .int .i64 a.2.1.2, .int .i64 a.2.2.1, .int .i64 a.2.2.2]] w fun r w' => r = .returned (.tuple #[(vNeg a).1.val, .int .i64 (vNeg a).2]) ∧ Below w.heap.size w w' := by
  have hK : Kv w (((w.alloc (.cells #[.int .i64 a.1.1, .int .i64 a.1.2, .int .i64 a.2.1.1, .int .i64 a.2.1.2, .int .i64 a.2.2.1, .int .i64 a.2.2.2] 25)).alloc (.cells #[.int .i64 0, .int .i64 0, .int .i64 0, .int .i64 0, .int .i64 0, .int .i64 0] 25)).alloc (.cells #[.int .i64 a.1.1, .int .i64 a.1.2, .int .i64 a.2.1.1, .int .i64 a.2.1.2, .int .i64 a.2.2.1, .int .i64 a.2.2.2] 25)) [(w.heap.size + 1 + 1, .cells (vfl [a]).toArray 25 (0, 0)), (w.heap.size + 1, vobj (vl v30)), (w.heap.size, vobj (vl a))] := (((Kv.start w).al (vobj (vl a)) (n := w.heap.size) (by simp)).al (vobj (vl v30)) (n := w.heap.size + 1) (by simp)).al (.cells (vfl [a]).toArray 25 (0, 0)) (n := w.heap.size + 1 + 1) (by simp)
  have HK := Lib.hid hK
  clear hK
  go_enter Tryz.func12, Tryz.ntmps12
  go_wp2_with fail
  refine (vec_all [a] 1 _ _ rfl (by decide) (HK.out.blk _ (List.mem_cons_self ..))).mono ?_; rintro r w1 ⟨S, rfl, hA0⟩
  have hA : Al w w1 S (vNote 0 a) [(w.heap.size + 1, vobj (vl v30)), (w.heap.size, vobj (vl a))] := hA0.up (HK.out.sub (by simp))
  clear hA0 HK
  obtain ⟨c0, c1, c2, c3, c4, c5⟩ := vobj_six (hA.blk (w.heap.size, vobj (vl a)) (by simp)).2
  go_wp2_with fail
  refine (each_neg S _ a a _ hA.st).mono ?_; rintro r w2 ⟨rfl, hm⟩
  replace hA := hA.next hm
  clear hm c0 c1 c2 c3 c4 c5
  obtain ⟨p, hp⟩ : ∃ p, each3 negF a a = p := ⟨_, rfl⟩
  obtain ⟨e1, he1⟩ : ∃ e1, err3 negF (vNote 0 a) a a = e1 := ⟨_, rfl⟩
  have HR : Hid (vNeg a = toldV p e1) := Lib.hid (by rw [← hp, ← he1]; rfl)
  rw [he1] at hA
  rw [hp]
  clear hp he1
  simp only [V3.val]
  go_wp2_with fail
  refine (vec_toldV S e1 p _ hA.st).mono ?_; rintro r w3 ⟨rfl, hb⟩
  replace hA := hA.on hb
  clear hb
  rw [← HR.out]
  have bz := (hA.blk _ (List.mem_cons_self ..)).2
  obtain ⟨c0, c1, c2, c3, c4, c5⟩ := vobj_six bz
  have f0 := vobj_free bz 0
  have f1 := vobj_free bz 1
  have f2 := vobj_free bz 2
  have f3 := vobj_free bz 3
  have f4 := vobj_free bz 4
  have f5 := vobj_free bz 5
  --T1
  have lb := lt_of_block bz
  obtain ⟨q, hq⟩ : ∃ q, vNeg a = q := ⟨_, rfl⟩
  rw [hq]
  have HQ := Lib.hid hq
  clear hq
  have HE := Lib.hid ((hA.sub (cs := [(w.heap.size + 1, vobj (vl v30))]) (by simp)).set6 (by omega) (by simp) q.1)
  obtain ⟨g0, g1, g2, g3, g4, g5⟩ := vobj_six (HE.out.blk _ (List.mem_cons_self ..)).2
  clear bz hA HR
  simp only [V3.val]
  go_wp2_with fail
  exact bodyPost_ret (v := .tuple #[q.1.val, .int .i64 q.2]) (by simp [results, Tryz.results12, go_sem, V3.val, g0, g1, g2, g3, g4, g5]) rfl ⟨by rw [HQ.out], HE.out.bel⟩
set_option maxRecDepth 100000 in
set_option maxHeartbeats 2000000 in
theorem vec_Dot (a b : V3) (w : World) :
    Calls Tryz.prog 19 #[.agg #[.int .i64 a.1.1, .int .i64 a.1.2, .int .i64 a.2.1.1, .int .i64 a.2.1.2, .int .i64 a.2.2.1, .int .i64 a.2.2.2], .agg #[.int .i64 b.1.1, .int .i64 b.1.2, .int .i64 b.2.1.1, .int .i64 b.2.1.2, .int .i64 b.2.2.1, .int .i64 b.2.2.2]] w fun r w' => r = .returned (.tuple #[.agg #[.int .i64 (vDot a b).1.1, .int .i64 (vDot a b).1.2], .int .i64 (vDot a b).2]) ∧ Below w.heap.size w w' := by
  have hK : Kv w ((((w.alloc (.cells #[.int .i64 a.1.1, .int .i64 a.1.2, .int .i64 a.2.1.1, .int .i64 a.2.1.2, .int .i64 a.2.2.1, .int .i64 a.2.2.2] 25)).alloc (.cells #[.int .i64 b.1.1, .int .i64 b.1.2, .int .i64 b.2.1.1, .int .i64 b.2.1.2, .int .i64 b.2.2.1, .int .i64 b.2.2.2] 25)).alloc (.cells #[.int .i64 0, .int .i64 0] 23)).alloc (.cells #[.int .i64 a.1.1, .int .i64 a.1.2, .int .i64 a.2.1.1, .int .i64 a.2.1.2, .int .i64 a.2.2.1, .int .i64 a.2.2.2, .int .i64 b.1.1, .int .i64 b.1.2, .int .i64 b.2.1.1, .int .i64 b.2.1.2, .int .i64 b.2.2.1, .int .i64 b.2.2.2] 25)) [(w.heap.size + 1 + 1 + 1, .cells (vfl [a, b]).toArray 25 (0, 0)), (w.heap.size + 1 + 1, .cells #[.int .i64 0, .int .i64 0] 23 (0, 0)), (w.heap.size + 1, vobj (vl b)), (w.heap.size, vobj (vl a))] := ((((Kv.start w).al (vobj (vl a)) (n := w.heap.size) (by simp)).al (vobj (vl b)) (n := w.heap.size + 1) (by simp)).al (.cells #[.int .i64 0, .int .i64 0] 23 (0, 0)) (n := w.heap.size + 1 + 1) (by simp)).al (.cells (vfl [a, b]).toArray 25 (0, 0)) (n := w.heap.size + 1 + 1 + 1) (by simp)
  have HK := Lib.hid hK
  clear hK
  go_enter Tryz.func19, Tryz.ntmps19
  go_wp2_with fail
  refine (vec_all [a, b] 2 _ _ rfl (by decide) (HK.out.blk _ (List.mem_cons_self ..))).mono ?_; rintro r w1 ⟨S, rfl, hA0⟩
  have hA : Al w w1 S (vNote (vNote 0 a) b) [(w.heap.size + 1 + 1, .cells #[.int .i64 0, .int .i64 0] 23 (0, 0)), (w.heap.size, vobj (vl a)), (w.heap.size + 1, vobj (vl b))] := hA0.up (HK.out.sub (by simp))
  clear hA0 HK
  obtain ⟨c0, c1, c2, c3, c4, c5⟩ := vobj_six (hA.blk (w.heap.size, vobj (vl a)) (by simp)).2
  obtain ⟨d0, d1, d2, d3, d4, d5⟩ := vobj_six (hA.blk (w.heap.size + 1, vobj (vl b)) (by simp)).2
  go_wp2_with fail
  refine (vec_dot S _ a b _ hA.st).mono ?_; rintro r w2 ⟨rfl, hm⟩
  replace hA := hA.next hm
  clear hm c0 c1 c2 c3 c4 c5 d0 d1 d2 d3 d4 d5
  obtain ⟨p, hp⟩ : ∃ p, dotS a b = p := ⟨_, rfl⟩
  obtain ⟨e1, he1⟩ : ∃ e1, dotE (vNote (vNote 0 a) b) a b = e1 := ⟨_, rfl⟩
  have HR : Hid (vDot a b = toldS p e1) := Lib.hid (by rw [← hp, ← he1]; rfl)
  rw [he1] at hA
  rw [hp]
  clear hp he1
  go_wp2_with fail
  refine (vec_toldS S e1 p _ hA.st).mono ?_; rintro r w3 ⟨rfl, hb⟩
  replace hA := hA.on hb
  clear hb
  rw [← HR.out]
  have bz := (hA.blk _ (List.mem_cons_self ..)).2
  have c0 := cell_two0 bz
  have c1 := cell_two1 bz
  have f0 := free_two (i := 0) bz
  have f1 := free_two (i := 1) bz
  --T1
  have lb := lt_of_block bz
  obtain ⟨q, hq⟩ : ∃ q, vDot a b = q := ⟨_, rfl⟩
  rw [hq]
  have HQ := Lib.hid hq
  clear hq
  have HE := Lib.hid ((hA.sub (cs := [(w.heap.size + 1 + 1, .cells #[.int .i64 0, .int .i64 0] 23 (0, 0))]) (by simp)).st2 (by omega) (by simp) (.int .i64 q.1.1) (.int .i64 q.1.2))
  have g0 := cell_two0 (HE.out.blk _ (List.mem_cons_self ..)).2
  have g1 := cell_two1 (HE.out.blk _ (List.mem_cons_self ..)).2
  clear bz hA HR
  go_wp2_with fail
  exact bodyPost_ret (v := .tuple #[.agg #[.int .i64 q.1.1, .int .i64 q.1.2], .int .i64 q.2]) (by simp [results, Tryz.results19, go_sem, g0, g1]) rfl ⟨by rw [HQ.out], HE.out.bel⟩
set_option maxRecDepth 100000 in
set_option maxHeartbeats 2000000 in
theorem vec_Norm (a : V3) (w : World) :
    Calls Tryz.prog 23 #[.agg #[.int .i64 a.1.1, .int .i64 a.1.2, .int .i64 a.2.1.1, .int .i64 a.2.1.2, .int .i64 a.2.2.1, .int .i64 a.2.2.2]] w fun r w' => r = .returned (.tuple #[.agg #[.int .i64 (vNorm a).1.1, .int .i64 (vNorm a).1.2], .int .i64 (vNorm a).2]) ∧ Below w.heap.size w w' := by
  have hK : Kv w (((w.alloc (.cells #[.int .i64 a.1.1, .int .i64 a.1.2, .int .i64 a.2.1.1, .int .i64 a.2.1.2, .int .i64 a.2.2.1, .int .i64 a.2.2.2] 25)).alloc (.cells #[.int .i64 0, .int .i64 0] 23)).alloc (.cells #[.int .i64 a.1.1, .int .i64 a.1.2, .int .i64 a.2.1.1, .int .i64 a.2.1.2, .int .i64 a.2.2.1, .int .i64 a.2.2.2] 25)) [(w.heap.size + 1 + 1, .cells (vfl [a]).toArray 25 (0, 0)), (w.heap.size + 1, .cells #[.int .i64 0, .int .i64 0] 23 (0, 0)), (w.heap.size, vobj (vl a))] := (((Kv.start w).al (vobj (vl a)) (n := w.heap.size) (by simp)).al (.cells #[.int .i64 0, .int .i64 0] 23 (0, 0)) (n := w.heap.size + 1) (by simp)).al (.cells (vfl [a]).toArray 25 (0, 0)) (n := w.heap.size + 1 + 1) (by simp)
  have HK := Lib.hid hK
  clear hK
  go_enter Tryz.func23, Tryz.ntmps23
  go_wp2_with fail
  refine (vec_all [a] 1 _ _ rfl (by decide) (HK.out.blk _ (List.mem_cons_self ..))).mono ?_; rintro r w1 ⟨S, rfl, hA0⟩
  have hA : Al w w1 S (vNote 0 a) [(w.heap.size + 1, .cells #[.int .i64 0, .int .i64 0] 23 (0, 0)), (w.heap.size, vobj (vl a))] := hA0.up (HK.out.sub (by simp))
  clear hA0 HK
  obtain ⟨c0, c1, c2, c3, c4, c5⟩ := vobj_six (hA.blk (w.heap.size, vobj (vl a)) (by simp)).2
  go_wp2_with fail
  refine (vec_norm S _ a _ hA.st).mono ?_; rintro r w2 ⟨rfl, hm⟩
  replace hA := hA.next hm
  clear hm c0 c1 c2 c3 c4 c5
  obtain ⟨p, hp⟩ : ∃ p, normS a = p := ⟨_, rfl⟩
  obtain ⟨e1, he1⟩ : ∃ e1, normE (vNote 0 a) a = e1 := ⟨_, rfl⟩
  have HR : Hid (vNorm a = toldS p e1) := Lib.hid (by rw [← hp, ← he1]; rfl)
  rw [he1] at hA
  rw [hp]
  clear hp he1
  go_wp2_with fail
  refine (vec_toldS S e1 p _ hA.st).mono ?_; rintro r w3 ⟨rfl, hb⟩
  replace hA := hA.on hb
  clear hb
  rw [← HR.out]
  have bz := (hA.blk _ (List.mem_cons_self ..)).2
  have c0 := cell_two0 bz
  have c1 := cell_two1 bz
  have f0 := free_two (i := 0) bz
  have f1 := free_two (i := 1) bz
  --T1
  have lb := lt_of_block bz
  obtain ⟨q, hq⟩ : ∃ q, vNorm a = q := ⟨_, rfl⟩
  rw [hq]
  have HQ := Lib.hid hq
  clear hq
  have HE := Lib.hid ((hA.sub (cs := [(w.heap.size + 1, .cells #[.int .i64 0, .int .i64 0] 23 (0, 0))]) (by simp)).st2 (by omega) (by simp) (.int .i64 q.1.1) (.int .i64 q.1.2))
  have g0 := cell_two0 (HE.out.blk _ (List.mem_cons_self ..)).2
  have g1 := cell_two1 (HE.out.blk _ (List.mem_cons_self ..)).2
  clear bz hA HR
  go_wp2_with fail
  exact bodyPost_ret (v := .tuple #[.agg #[.int .i64 q.1.1, .int .i64 q.1.2], .int .i64 q.2]) (by simp [results, Tryz.results23, go_sem, g0, g1]) rfl ⟨by rw [HQ.out], HE.out.bel⟩
set_option maxRecDepth 100000 in
set_option maxHeartbeats 2000000 in
theorem vec_Check (a : V3) (w : World) :
    Calls Tryz.prog 14 #[.agg #[.int .i64 a.1.1, .int .i64 a.1.2, .int .i64 a.2.1.1, .int .i64 a.2.1.2, .int .i64 a.2.2.1, .int .i64 a.2.2.2]] w fun r w' => r = .returned (.int .i64 (vNote 0 a)) ∧ Below w.heap.size w w' := by
  have hK : Kv w ((w.alloc (.cells #[.int .i64 a.1.1, .int .i64 a.1.2, .int .i64 a.2.1.1, .int .i64 a.2.1.2, .int .i64 a.2.2.1, .int .i64 a.2.2.2] 25)).alloc (.cells #[.int .i64 a.1.1, .int .i64 a.1.2, .int .i64 a.2.1.1, .int .i64 a.2.1.2, .int .i64 a.2.2.1, .int .i64 a.2.2.2] 25)) [(w.heap.size + 1, .cells (vfl [a]).toArray 25 (0, 0)), (w.heap.size, vobj (vl a))] := ((Kv.start w).al (vobj (vl a)) (n := w.heap.size) (by simp)).al (.cells (vfl [a]).toArray 25 (0, 0)) (n := w.heap.size + 1) (by simp)
  have HK := Lib.hid hK
  clear hK
  go_enter Tryz.func14, Tryz.ntmps14
  go_wp2_with fail
  refine (vec_all [a] 1 _ _ rfl (by decide) (HK.out.blk _ (List.mem_cons_self ..))).mono ?_; rintro r w1 ⟨S, rfl, hA0⟩
  have hA : Al w w1 S (vNote 0 a) [] := hA0.up (HK.out.sub (by simp))
  have c0 := cell_of_one hA.st
  have ls := lt_of_block hA.st
  have HE := Lib.hid hA.bel
  clear hA0 HK hA
  go_wp2_with fail
  go_ret
  exact ⟨rfl, HE.out⟩
end Go.Proofs.YtmnccbhlllnlbaaGreat
