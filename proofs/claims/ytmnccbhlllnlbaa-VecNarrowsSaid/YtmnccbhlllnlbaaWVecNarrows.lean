/- The walk of monoclelaw06.VecNarrows. Printed by wip/genVL2.py. -/
import Derived.Deep.DeepCutAuto
import Derived.Deep.CutBlock
import Derived.Test.YtmnccbhlllnlbaaLawVS
import Derived.Test.YtmnccbhlllnlbaaCutMerge
import Derived.Test.YtmnccbhlllnlbaaVecLaw
import Derived.Test.YtmnccbhlllnlbaaLawVN
namespace Go.Proofs.Ytmnccbhlllnlbaa.vecNarrows
open Go.RowKit Mnc
attribute [local go_sem] RunS_value RunS_skip RunS_enter evS_tmp evS_const evS_global evS_func
structure Nd (W : World) (A B K1 K2 : Nat) (p : V3 × V3) (pp pq vc vd : V3) (L : Nat → Bool) (s : Nat → Value) (w : World) : Prop where
  bel : Below W.heap.size W w
  e0 : L 0 = true → s 39 = .agg #[.int .u64 pp.1.1, .int .u64 pp.1.2, .int .u64 pp.2.1.1, .int .u64 pp.2.1.2, .int .u64 pp.2.2.1, .int .u64 pp.2.2.2]
  e1 : L 1 = true → s 40 = .agg #[.int .i64 p.1.1.1, .int .i64 p.1.1.2, .int .i64 p.1.2.1.1, .int .i64 p.1.2.1.2, .int .i64 p.1.2.2.1, .int .i64 p.1.2.2.2]
  e2 : L 2 = true → s 41 = .agg #[.int .i64 vc.1.1, .int .i64 vc.1.2, .int .i64 vc.2.1.1, .int .i64 vc.2.1.2, .int .i64 vc.2.2.1, .int .i64 vc.2.2.2]
  e3 : L 3 = true → s 42 = .agg #[.int .u64 pq.1.1, .int .u64 pq.1.2, .int .u64 pq.2.1.1, .int .u64 pq.2.1.2, .int .u64 pq.2.2.1, .int .u64 pq.2.2.2]
  e4 : L 4 = true → s 43 = .agg #[.int .i64 p.2.1.1, .int .i64 p.2.1.2, .int .i64 p.2.2.1.1, .int .i64 p.2.2.1.2, .int .i64 p.2.2.2.1, .int .i64 p.2.2.2.2]
  e5 : L 5 = true → s 44 = .agg #[.int .i64 vd.1.1, .int .i64 vd.1.2, .int .i64 vd.2.1.1, .int .i64 vd.2.1.2, .int .i64 vd.2.2.1, .int .i64 vd.2.2.2]
  e6 : L 6 = true → BxV w W.heap.size (s 11) (L 8 = true) vc
  e7 : L 7 = true → BxV w W.heap.size (s 12) (L 9 = true) vd
  ne : L 6 = true → L 7 = true → s 11 ≠ s 12
  d8 : L 8 = true → L 6 = true
  d9 : L 9 = true → L 7 = true
structure NaA (W : World) (P : Nat) (p : V3 × V3) (L : Nat → Bool) (s : Nat → Value) (w : World) : Prop where
  bel : Below W.heap.size W w
  e0 : L 0 = true → s 35 = .pointer (some ⟨P, 0, none⟩)
  e1 : L 1 = true → s 36 = .agg #[.int .i64 p.1.1.1, .int .i64 p.1.1.2, .int .i64 p.1.2.1.1, .int .i64 p.1.2.1.2, .int .i64 p.1.2.2.1, .int .i64 p.1.2.2.2]
  e2 : L 2 = true → s 37 = .pointer (some ⟨P, 6, none⟩)
  e3 : L 3 = true → s 38 = .agg #[.int .i64 p.2.1.1, .int .i64 p.2.1.2, .int .i64 p.2.2.1.1, .int .i64 p.2.2.1.2, .int .i64 p.2.2.2.1, .int .i64 p.2.2.2.2]
  e4 : L 4 = true → BxV w W.heap.size (s 9) (L 6 = true) p.1
  e5 : L 5 = true → BxV w W.heap.size (s 10) (L 7 = true) p.2
  ne : L 4 = true → L 5 = true → s 9 ≠ s 10
  d6 : L 6 = true → L 4 = true
  d7 : L 7 = true → L 5 = true
set_option maxRecDepth 100000 in
set_option maxHeartbeats 16000000 in
theorem walk (T : Tv) (hT : T.ok) (pp pq : V3) (hpp : u64s pp) (hpq : u64s pq) (w : World) :
    Calls Try.prog 3 #[T.val, .agg #[.int .u64 pp.1.1, .int .u64 pp.1.2, .int .u64 pp.2.1.1, .int .u64 pp.2.1.2, .int .u64 pp.2.2.1, .int .u64 pp.2.2.2], .agg #[.int .u64 pq.1.1, .int .u64 pq.1.2, .int .u64 pq.2.1.1, .int .u64 pq.2.1.2, .int .u64 pq.2.2.1, .int .u64 pq.2.2.2]] w fun e w' => e = .returned (.bool true) ∧ Below w.heap.size w w' := by
  have hK := (((Kv.start w).al T.obj (n := w.heap.size) rfl).al (.cells #[.int .u64 pp.1.1, .int .u64 pp.1.2, .int .u64 pp.2.1.1, .int .u64 pp.2.1.2, .int .u64 pp.2.2.1, .int .u64 pp.2.2.2] 36 (0, 0)) (n := w.heap.size + 1) (by simp)).al (.cells #[.int .u64 pq.1.1, .int .u64 pq.1.2, .int .u64 pq.2.1.1, .int .u64 pq.2.1.2, .int .u64 pq.2.2.1, .int .u64 pq.2.2.2] 36 (0, 0)) (n := w.heap.size + 1 + 1) (by simp)
  have HT := Lib.hid hT
  have HL := Lib.hid (fun k p (hk : k < 2) (hp : (pvs T)[k + 1]? = some p) => (show okV p.1 ∧ okV p.2 by
    obtain rfl | rfl : k = 0 ∨ k = 1 := by omega
    · obtain rfl := Option.some.inj hp; exact ⟨drV_ok hT.x, drS_ok hT.y⟩
    · obtain rfl := Option.some.inj hp; exact ⟨drS_ok hT.x, drS_ok hT.y⟩))
  clear hT
  have H1 := Lib.hid hpp
  have H2 := Lib.hid hpq
  clear hpp hpq
  unfold Tv.val
  go_enter Try.func3, Try.ntmps3
  go_wp2_with fail
  refine (law6_works _).mono ?_; rintro e w1 ⟨rfl, hb⟩
  replace hK := hK.on hb
  clear hb
  obtain ⟨dT, hdT, hrT⟩ := tv_desc
  have hl := tv_range (hK.blk _ (List.Mem.tail _ (List.Mem.tail _ (List.Mem.head _))))
  go_upto_region 3 with (fail)
  refine wp_region_lit ?_
  refine wpList_load_mid rfl 32 _ rfl _ _ rfl _ _ hl hdT hrT (by kernel_rfl) ?_
  go_wp2_with fail
  refine (law6_pairs' T HT.out _).mono ?_; rintro e w2 ⟨⟨v, rfl, g, rfl, hg, hbl⟩, hb⟩
  have HS := Lib.hid (((hK.on hb).put (Below.refl _ _) hbl).sub (cs := [(g, pvObj (pvs T)), (w.heap.size + 1 + 1, .cells #[.int .u64 pq.1.1, .int .u64 pq.1.2, .int .u64 pq.2.1.1, .int .u64 pq.2.1.2, .int .u64 pq.2.2.1, .int .u64 pq.2.2.2] 36 (0, 0)), (w.heap.size + 1, .cells #[.int .u64 pp.1.1, .int .u64 pp.1.2, .int .u64 pp.2.1.1, .int .u64 pp.2.1.2, .int .u64 pp.2.2.1, .int .u64 pp.2.2.2] 36 (0, 0))]) (by simp))
  have HP : Hid (∀ k, k < 2 → ∃ p, (pvs T)[k + 1]? = some p) := Lib.hid fun k hk => ⟨_, List.getElem?_eq_getElem (show k + 1 < (pvs T).length by unfold pvs; simp only [List.length_cons, List.length_nil]; omega)⟩
  clear hK hb hl hdT hrT hg hbl
  generalize pvs T = prs at *
  go_wp2_with fail
  go_loopw [31] (fun i wr => ∃ k : Nat, k ≤ 2 ∧ i = .int .i64 k ∧ Hid (Kv w wr [(g, pvObj prs), (w.heap.size + 1 + 1, .cells #[.int .u64 pq.1.1, .int .u64 pq.1.2, .int .u64 pq.2.1.1, .int .u64 pq.2.1.2, .int .u64 pq.2.2.1, .int .u64 pq.2.2.2] 36 (0, 0)), (w.heap.size + 1, .cells #[.int .u64 pp.1.1, .int .u64 pp.1.2, .int .u64 pp.2.1.1, .int .u64 pp.2.1.2, .int .u64 pp.2.2.1, .int .u64 pp.2.2.2] 36 (0, 0))])) (fun i _ => 2 - (intOf i).toNat)
  case atStart => exact ⟨0, by omega, rfl, HS⟩
  case round =>
    clear HS
    obtain ⟨k, hk, rfl, HA⟩ := hrel
    rcases Nat.lt_or_ge k 2 with hk' | hk'
    · obtain ⟨p, hp⟩ := HP.out k hk'
      have HO := Lib.hid (HL.out k p hk' hp)
      obtain ⟨c0, c1, c2, c3, c4, c5, c6, c7, c8, c9, c10, c11⟩ := pv_cells (k := 12 + k * 12) (HA.out.blk _ (List.Mem.head _)) hp (by omega)
      have lg := lt_of_block (HA.out.blk _ (List.Mem.head _))
      have HK := Lib.hid (HA.out.al (pvBox p) (n := wr.heap.size) rfl)
      clear hp
      go_upto_region 6 with (fail)
      clear c0 c1 c2 c3 c4 c5 c6 c7 c8 c9 c10 c11 lg
      have HPB := Lib.hid (HK.out.blk _ (List.Mem.head _))
      obtain ⟨W9, hW9⟩ : ∃ W9, W9 = wr.alloc (pvBox p) := ⟨_, rfl⟩
      obtain ⟨P9, hP9⟩ : ∃ P9, P9 = wr.heap.size := ⟨_, rfl⟩
      change Code.wp _ _ _ _ (wr.alloc (pvBox p))
      rw [← hW9, ← hP9] at HK HPB
      rw [← hW9, ← hP9]
      clear hW9 hP9
      go_cut [9, 10] (fun a b wx => ∃ A B : Nat, a = .pointer (some ⟨A, 0, none⟩) ∧ b = .pointer (some ⟨B, 0, none⟩) ∧ Hid (Kv w wx [(B, vobj (vl p.2)), (A, vobj (vl p.1)), (P9, pvBox p), (g, pvObj prs), (w.heap.size + 1 + 1, .cells #[.int .u64 pq.1.1, .int .u64 pq.1.2, .int .u64 pq.2.1.1, .int .u64 pq.2.1.2, .int .u64 pq.2.2.1, .int .u64 pq.2.2.2] 36 (0, 0)), (w.heap.size + 1, .cells #[.int .u64 pp.1.1, .int .u64 pp.1.2, .int .u64 pp.2.1.1, .int .u64 pp.2.1.2, .int .u64 pp.2.2.1, .int .u64 pp.2.2.2] 36 (0, 0))]))
      case first =>
        refine wp_region_inv (NaA W9 P9 p) (by kernel_rfl) (by kernel_rfl) ?_ ?_ ?_
        · exact ⟨(Below.refl _ _).drew, fun h => absurd h Bool.false_ne_true, fun h => absurd h Bool.false_ne_true, fun h => absurd h Bool.false_ne_true, fun h => absurd h Bool.false_ne_true, fun h => absurd h Bool.false_ne_true, fun h => absurd h Bool.false_ne_true, fun h => absurd h Bool.false_ne_true, fun h => absurd h Bool.false_ne_true, fun h => absurd h Bool.false_ne_true⟩
        · refine AllS.consN 1 (some 35) rfl rfl ?_ (AllS.consN 2 (some 36) rfl rfl ?_ (AllS.consN 3 (some 37) rfl rfl ?_ (AllS.consN 4 (some 38) rfl rfl ?_ (AllS.consN 5 (some 9) rfl rfl ?_ (AllS.consN 6 (some 10) rfl rfl ?_ (AllS.consN 7 none rfl rfl ?_ (AllS.consN 8 none rfl rfl ?_ AllS.nil)))))))
          · intro L s w2 h hk hd hn
            have s8 : s 8 = _ := hk 8 (by kernel_rfl)
            refine stepS rfl fun K hK => ?_
            go_simp
            exact hK _ _ { h with e0 := fun _ => rfl }
          · intro L s w2 h hk hd hn
            have s35 := h.e0 hd.1
            obtain ⟨c0, c1, c2, c3, c4, c5, c6, c7, c8, c9, c10, c11⟩ := pvBox_all ((h.bel.block _ (lt_of_block HPB.out)).trans HPB.out)
            refine stepS rfl fun K hK => ?_
            go_simp
            exact hK _ _ { h with e1 := fun _ => rfl }
          · intro L s w2 h hk hd hn
            have s8 : s 8 = _ := hk 8 (by kernel_rfl)
            refine stepS rfl fun K hK => ?_
            go_simp
            exact hK _ _ { h with e2 := fun _ => rfl }
          · intro L s w2 h hk hd hn
            have s37 := h.e2 hd.1
            obtain ⟨c0, c1, c2, c3, c4, c5, c6, c7, c8, c9, c10, c11⟩ := pvBox_all ((h.bel.block _ (lt_of_block HPB.out)).trans HPB.out)
            refine stepS rfl fun K hK => ?_
            go_simp
            exact hK _ _ { h with e3 := fun _ => rfl }
          · intro L s w2 h hk hd hn
            refine stepS rfl fun K hK => ?_
            go_simp
            exact hK _ _ { h with bel := below_alloc h.bel _, e4 := fun _ => BxV.new h.bel.size (fun g => by rw [h.d6 g] at hn; cases hn), e5 := fun d => (h.e5 d).al _, ne := fun _ d => fun g => (h.e5 d).lt g.symm, d6 := fun _ => rfl }
          · intro L s w2 h hk hd hn
            refine stepS rfl fun K hK => ?_
            go_simp
            exact hK _ _ { h with bel := below_alloc h.bel _, e5 := fun _ => BxV.new h.bel.size (fun g => by rw [h.d7 g] at hn; cases hn), e4 := fun d => (h.e4 d).al _, ne := fun d _ => (h.e4 d).lt, d7 := fun _ => rfl }
          · intro L s w2 h hk hd hn
            obtain ⟨g, s9, hg, u, hu, -⟩ := h.e4 hd.1
            have s36 := h.e1 hd.2.1
            obtain ⟨c0, c1, c2, c3, c4, c5⟩ := vobj_six hu
            have f0 := vobj_free hu 0
            have f1 := vobj_free hu 1
            have f2 := vobj_free hu 2
            have f3 := vobj_free hu 3
            have f4 := vobj_free hu 4
            have f5 := vobj_free hu 5
            have l := lt_of_block hu
            refine stepS rfl fun K hK => ?_
            go_simp
            exact hK _ _ { h with bel := bel6 h.bel hg _ _ _ _ _ _, e4 := fun _ => ⟨g, s9, hg, p.1, same6 hu p.1, fun _ => rfl⟩, e5 := fun d => (h.e5 d).set (by rw [← s9]; exact (h.ne hd.1 d).symm), d6 := fun _ => hd.1 }
          · intro L s w2 h hk hd hn
            obtain ⟨g, s10, hg, u, hu, -⟩ := h.e5 hd.1
            have s38 := h.e3 hd.2.1
            obtain ⟨c0, c1, c2, c3, c4, c5⟩ := vobj_six hu
            have f0 := vobj_free hu 0
            have f1 := vobj_free hu 1
            have f2 := vobj_free hu 2
            have f3 := vobj_free hu 3
            have f4 := vobj_free hu 4
            have f5 := vobj_free hu 5
            have l := lt_of_block hu
            refine stepS rfl fun K hK => ?_
            go_simp
            exact hK _ _ { h with bel := bel6 h.bel hg _ _ _ _ _ _, e5 := fun _ => ⟨g, s10, hg, p.2, same6 hu p.2, fun _ => rfl⟩, e4 := fun d => (h.e4 d).set (by rw [← s10]; exact h.ne d hd.1), d7 := fun _ => hd.1 }
        · intro L s w2 h hk hl
          obtain ⟨ga, sa, ha1, ua, ha2, za⟩ := h.e4 (hl 4 (by decide))
          obtain rfl := za (hl 6 (by decide))
          obtain ⟨gb, sb, hb1, ub, hb2, zb⟩ := h.e5 (hl 5 (by decide))
          obtain rfl := zb (hl 7 (by decide))
          rename_i J K' hR hM
          refine hM _ _ (Met.intro (hR _ _ ?_))
          repeat apply Exists.intro
          refine ⟨⟨ga, gb, sa, sb, Lib.hid ⟨(HK.out.on h.bel).bel, fun q hq => by
            rcases List.mem_cons.1 hq with rfl | hq
            · exact hb2
            rcases List.mem_cons.1 hq with rfl | hq
            · exact ha2
            exact (HK.out.on h.bel).blk q hq⟩⟩, ?_⟩
          refine congrArg (fun l => (⟨List.toArray l, []⟩ : Act)) ?_
          show [s 0, s 1, s 2, s 3, s 4, s 5, s 6, s 7, s 8, s 9, s 10, s 11, s 12, s 13, s 14, s 15, s 16, s 17, s 18, s 19, s 20, s 21, s 22, s 23, s 24, s 25, s 26, s 27, s 28, s 29, s 30, s 31, s 32, s 33, s 34, s 35, s 36, s 37, s 38, s 39, s 40, s 41, s 42, s 43, s 44, s 45, s 46, s 47, s 48, s 49, s 50, s 51, s 52, s 53, s 54, s 55, s 56, s 57, s 58, s 59, s 60, s 61, s 62, s 63, s 64, s 65, s 66, s 67, s 68, s 69, s 70, s 71, s 72, s 73, s 74, s 75, s 76, s 77, s 78, s 79, s 80, s 81, s 82, s 83, s 84, s 85, s 86, s 87, s 88, s 89, s 90, s 91, s 92, s 93, s 94, s 95, s 96, s 97, s 98, s 99, s 100, s 101, s 102, s 103, s 104, s 105, s 106, s 107, s 108, s 109, s 110, s 111, s 112, s 113, s 114, s 115, s 116, s 117, s 118, s 119, s 120, s 121, s 122, s 123, s 124, s 125, s 126, s 127, s 128, s 129, s 130, s 131, s 132] = _
          exact lc (hk 0 (by kernel_rfl)) (lc (hk 1 (by kernel_rfl)) (lc (hk 2 (by kernel_rfl)) (lc (hk 3 (by kernel_rfl)) (lc (hk 4 (by kernel_rfl)) (lc (hk 5 (by kernel_rfl)) (lc (hk 6 (by kernel_rfl)) (lc (hk 7 (by kernel_rfl)) (lc (hk 8 (by kernel_rfl)) (lc rfl (lc rfl (lc (hk 11 (by kernel_rfl)) (lc (hk 12 (by kernel_rfl)) (lc (hk 13 (by kernel_rfl)) (lc (hk 14 (by kernel_rfl)) (lc (hk 15 (by kernel_rfl)) (lc (hk 16 (by kernel_rfl)) (lc (hk 17 (by kernel_rfl)) (lc (hk 18 (by kernel_rfl)) (lc (hk 19 (by kernel_rfl)) (lc (hk 20 (by kernel_rfl)) (lc (hk 21 (by kernel_rfl)) (lc (hk 22 (by kernel_rfl)) (lc (hk 23 (by kernel_rfl)) (lc (hk 24 (by kernel_rfl)) (lc (hk 25 (by kernel_rfl)) (lc (hk 26 (by kernel_rfl)) (lc (hk 27 (by kernel_rfl)) (lc (hk 28 (by kernel_rfl)) (lc (hk 29 (by kernel_rfl)) (lc (hk 30 (by kernel_rfl)) (lc (hk 31 (by kernel_rfl)) (lc (hk 32 (by kernel_rfl)) (lc (hk 33 (by kernel_rfl)) (lc (hk 34 (by kernel_rfl)) (lc rfl (lc rfl (lc rfl (lc rfl (lc (hk 39 (by kernel_rfl)) (lc (hk 40 (by kernel_rfl)) (lc (hk 41 (by kernel_rfl)) (lc (hk 42 (by kernel_rfl)) (lc (hk 43 (by kernel_rfl)) (lc (hk 44 (by kernel_rfl)) (lc (hk 45 (by kernel_rfl)) (lc (hk 46 (by kernel_rfl)) (lc (hk 47 (by kernel_rfl)) (lc (hk 48 (by kernel_rfl)) (lc (hk 49 (by kernel_rfl)) (lc (hk 50 (by kernel_rfl)) (lc (hk 51 (by kernel_rfl)) (lc (hk 52 (by kernel_rfl)) (lc (hk 53 (by kernel_rfl)) (lc (hk 54 (by kernel_rfl)) (lc (hk 55 (by kernel_rfl)) (lc (hk 56 (by kernel_rfl)) (lc (hk 57 (by kernel_rfl)) (lc (hk 58 (by kernel_rfl)) (lc (hk 59 (by kernel_rfl)) (lc (hk 60 (by kernel_rfl)) (lc (hk 61 (by kernel_rfl)) (lc (hk 62 (by kernel_rfl)) (lc (hk 63 (by kernel_rfl)) (lc (hk 64 (by kernel_rfl)) (lc (hk 65 (by kernel_rfl)) (lc (hk 66 (by kernel_rfl)) (lc (hk 67 (by kernel_rfl)) (lc (hk 68 (by kernel_rfl)) (lc (hk 69 (by kernel_rfl)) (lc (hk 70 (by kernel_rfl)) (lc (hk 71 (by kernel_rfl)) (lc (hk 72 (by kernel_rfl)) (lc (hk 73 (by kernel_rfl)) (lc (hk 74 (by kernel_rfl)) (lc (hk 75 (by kernel_rfl)) (lc (hk 76 (by kernel_rfl)) (lc (hk 77 (by kernel_rfl)) (lc (hk 78 (by kernel_rfl)) (lc (hk 79 (by kernel_rfl)) (lc (hk 80 (by kernel_rfl)) (lc (hk 81 (by kernel_rfl)) (lc (hk 82 (by kernel_rfl)) (lc (hk 83 (by kernel_rfl)) (lc (hk 84 (by kernel_rfl)) (lc (hk 85 (by kernel_rfl)) (lc (hk 86 (by kernel_rfl)) (lc (hk 87 (by kernel_rfl)) (lc (hk 88 (by kernel_rfl)) (lc (hk 89 (by kernel_rfl)) (lc (hk 90 (by kernel_rfl)) (lc (hk 91 (by kernel_rfl)) (lc (hk 92 (by kernel_rfl)) (lc (hk 93 (by kernel_rfl)) (lc (hk 94 (by kernel_rfl)) (lc (hk 95 (by kernel_rfl)) (lc (hk 96 (by kernel_rfl)) (lc (hk 97 (by kernel_rfl)) (lc (hk 98 (by kernel_rfl)) (lc (hk 99 (by kernel_rfl)) (lc (hk 100 (by kernel_rfl)) (lc (hk 101 (by kernel_rfl)) (lc (hk 102 (by kernel_rfl)) (lc (hk 103 (by kernel_rfl)) (lc (hk 104 (by kernel_rfl)) (lc (hk 105 (by kernel_rfl)) (lc (hk 106 (by kernel_rfl)) (lc (hk 107 (by kernel_rfl)) (lc (hk 108 (by kernel_rfl)) (lc (hk 109 (by kernel_rfl)) (lc (hk 110 (by kernel_rfl)) (lc (hk 111 (by kernel_rfl)) (lc (hk 112 (by kernel_rfl)) (lc (hk 113 (by kernel_rfl)) (lc (hk 114 (by kernel_rfl)) (lc (hk 115 (by kernel_rfl)) (lc (hk 116 (by kernel_rfl)) (lc (hk 117 (by kernel_rfl)) (lc (hk 118 (by kernel_rfl)) (lc (hk 119 (by kernel_rfl)) (lc (hk 120 (by kernel_rfl)) (lc (hk 121 (by kernel_rfl)) (lc (hk 122 (by kernel_rfl)) (lc (hk 123 (by kernel_rfl)) (lc (hk 124 (by kernel_rfl)) (lc (hk 125 (by kernel_rfl)) (lc (hk 126 (by kernel_rfl)) (lc (hk 127 (by kernel_rfl)) (lc (hk 128 (by kernel_rfl)) (lc (hk 129 (by kernel_rfl)) (lc (hk 130 (by kernel_rfl)) (lc (hk 131 (by kernel_rfl)) (lc (hk 132 (by kernel_rfl)) rfl))))))))))))))))))))))))))))))))))))))))))))))))))))))))))))))))))))))))))))))))))))))))))))))))))))))))))))))))))))))))))))))))))))
      case rest =>
        obtain ⟨A, B, rfl, rfl, HB⟩ := hcut
        clear HK HPB
        have hK := HB.out
        clear HB
        have HN1 := Lib.hid (partsOf_in HO.out.1 pp)
        have HN2 := Lib.hid (partsOf_in HO.out.2 pq)
        have HC1 := Lib.hid (fun W => law6_parts pp p.1 HO.out.1 H1.out W)
        have HC2 := Lib.hid (fun W => law6_parts pq p.2 HO.out.2 H2.out W)
        obtain ⟨vc, Hvc⟩ : ∃ v, Hid (partsOf p.1 pp = v) := ⟨_, Lib.hid rfl⟩
        obtain ⟨vd, Hvd⟩ : ∃ v, Hid (partsOf p.2 pq = v) := ⟨_, Lib.hid rfl⟩
        rw [Hvc.out] at HN1 HC1
        rw [Hvd.out] at HN2 HC2
        clear Hvc Hvd
        have HK := Lib.hid hK
        have HBA := Lib.hid (hK.blk _ (List.Mem.tail _ (List.Mem.head _)))
        have HBB := Lib.hid (hK.blk _ (List.Mem.head _))
        have HB1 := Lib.hid (hK.blk _ (List.Mem.tail _ (List.Mem.tail _ (List.Mem.tail _ (List.Mem.tail _ (List.Mem.tail _ (List.Mem.head _)))))))
        have HB2 := Lib.hid (hK.blk _ (List.Mem.tail _ (List.Mem.tail _ (List.Mem.tail _ (List.Mem.tail _ (List.Mem.head _))))))
        clear hK
        go_upto_region 7 with (fail)
        refine wp_cut_merge [none, none, none, none, none, none, none, none, none, none, none, some 11, some 12, none, none, none, none, none, none, none, none, none, none, none, none, none, none, none, none, none, none, none, some 32, some 33, some 34, some 35, some 36, some 37, some 38, some 39, some 40, some 41, some 42, some 43, some 44, some 45, some 46, some 47, some 48, some 49, some 50, some 51, some 52, some 53, some 54, some 55, some 56, some 57, some 58, some 59, some 60, some 61, some 62, some 63, some 64, some 65, some 66, some 67, some 68, some 69, some 70, some 71, some 72, some 73, some 74, some 75, some 76, some 77, some 78, some 79, some 80, some 81, some 82, some 83, some 84, some 85, some 86, some 87, some 88, some 89, some 90, some 91, some 92, some 93, some 94, some 95, some 96, some 97, some 98, some 99, some 100, some 101, some 102, some 103, some 104, some 105, some 106, some 107, some 108, some 109, some 110, some 111, some 112, some 113, some 114, some 115, some 116, some 117, some 118, some 119, some 120, some 121, some 122, some 123, some 124, some 125, some 126, some 127, some 128, some 129, some 130, some 131, some 132] (fun s wx => ∃ C D : Nat, s 11 = .pointer (some ⟨C, 0, none⟩) ∧ s 12 = .pointer (some ⟨D, 0, none⟩) ∧ Hid (Kv w wx [(D, vobj (vl vd)), (C, vobj (vl vc)), (B, vobj (vl p.2)), (A, vobj (vl p.1)), (g, pvObj prs), (w.heap.size + 1 + 1, .cells #[.int .u64 pq.1.1, .int .u64 pq.1.2, .int .u64 pq.2.1.1, .int .u64 pq.2.1.2, .int .u64 pq.2.2.1, .int .u64 pq.2.2.2] 36 (0, 0)), (w.heap.size + 1, .cells #[.int .u64 pp.1.1, .int .u64 pp.1.2, .int .u64 pp.2.1.1, .int .u64 pp.2.1.2, .int .u64 pp.2.2.1, .int .u64 pp.2.2.2] 36 (0, 0))])) ?_ ?_
        · intro Q2 hQ2
          refine wp_region_inv (Nd wc A B (w.heap.size + 1) (w.heap.size + 1 + 1) p pp pq vc vd) (by kernel_rfl) (by kernel_rfl) ?_ ?_ ?_
          · exact ⟨(Below.refl _ _).drew, fun h => absurd h Bool.false_ne_true, fun h => absurd h Bool.false_ne_true, fun h => absurd h Bool.false_ne_true, fun h => absurd h Bool.false_ne_true, fun h => absurd h Bool.false_ne_true, fun h => absurd h Bool.false_ne_true, fun h => absurd h Bool.false_ne_true, fun h => absurd h Bool.false_ne_true, fun h => absurd h Bool.false_ne_true, fun h => absurd h Bool.false_ne_true, fun h => absurd h Bool.false_ne_true⟩
          · refine AllS.consN 1 (some 39) rfl rfl ?_ (AllS.consN 2 (some 40) rfl rfl ?_ (AllS.consN 3 (some 41) rfl rfl ?_ (AllS.consN 4 (some 42) rfl rfl ?_ (AllS.consN 5 (some 43) rfl rfl ?_ (AllS.consN 6 (some 44) rfl rfl ?_ (AllS.consN 7 (some 11) rfl rfl ?_ (AllS.consN 8 (some 12) rfl rfl ?_ (AllS.consN 9 none rfl rfl ?_ (AllS.consN 10 none rfl rfl ?_ AllS.nil)))))))))
            · intro L s w2 h hk hd hn
              have s4 : s 4 = _ := hk 4 (by kernel_rfl)
              obtain ⟨c0, c1, c2, c3, c4, c5⟩ := quo_six ((h.bel.block _ (lt_of_block HB1.out)).trans HB1.out)
              refine stepS rfl fun K hK => ?_
              go_simp
              exact hK _ _ { h with e0 := fun _ => rfl }
            · intro L s w2 h hk hd hn
              have s9 : s 9 = _ := hk 9 (by kernel_rfl)
              obtain ⟨c0, c1, c2, c3, c4, c5⟩ := vobj_six ((h.bel.block _ (lt_of_block HBA.out)).trans HBA.out)
              refine stepS rfl fun K hK => ?_
              go_simp
              exact hK _ _ { h with e1 := fun _ => rfl }
            · intro L s w2 h hk hd hn
              have s39 := h.e0 hd.1
              have s40 := h.e1 hd.2.1
              refine stepS rfl fun K hK => ?_
              go_simp
              refine (HC1.out _).mono ?_
              rintro e w3 ⟨rfl, hb⟩
              exact ⟨_, rfl, hK _ _ { h with bel := below_step h.bel hb, e6 := fun d => (h.e6 d).on hb, e7 := fun d => (h.e7 d).on hb, e2 := fun _ => rfl }⟩
            · intro L s w2 h hk hd hn
              have s5 : s 5 = _ := hk 5 (by kernel_rfl)
              obtain ⟨c0, c1, c2, c3, c4, c5⟩ := quo_six ((h.bel.block _ (lt_of_block HB2.out)).trans HB2.out)
              refine stepS rfl fun K hK => ?_
              go_simp
              exact hK _ _ { h with e3 := fun _ => rfl }
            · intro L s w2 h hk hd hn
              have s10 : s 10 = _ := hk 10 (by kernel_rfl)
              obtain ⟨c0, c1, c2, c3, c4, c5⟩ := vobj_six ((h.bel.block _ (lt_of_block HBB.out)).trans HBB.out)
              refine stepS rfl fun K hK => ?_
              go_simp
              exact hK _ _ { h with e4 := fun _ => rfl }
            · intro L s w2 h hk hd hn
              have s42 := h.e3 hd.1
              have s43 := h.e4 hd.2.1
              refine stepS rfl fun K hK => ?_
              go_simp
              refine (HC2.out _).mono ?_
              rintro e w3 ⟨rfl, hb⟩
              exact ⟨_, rfl, hK _ _ { h with bel := below_step h.bel hb, e6 := fun d => (h.e6 d).on hb, e7 := fun d => (h.e7 d).on hb, e5 := fun _ => rfl }⟩
            · intro L s w2 h hk hd hn
              refine stepS rfl fun K hK => ?_
              go_simp
              exact hK _ _ { h with bel := below_alloc h.bel _, e6 := fun _ => BxV.new h.bel.size (fun g => by rw [h.d8 g] at hn; cases hn), e7 := fun d => (h.e7 d).al _, ne := fun _ d => fun g => (h.e7 d).lt g.symm, d8 := fun _ => rfl }
            · intro L s w2 h hk hd hn
              refine stepS rfl fun K hK => ?_
              go_simp
              exact hK _ _ { h with bel := below_alloc h.bel _, e7 := fun _ => BxV.new h.bel.size (fun g => by rw [h.d9 g] at hn; cases hn), e6 := fun d => (h.e6 d).al _, ne := fun d _ => (h.e6 d).lt, d9 := fun _ => rfl }
            · intro L s w2 h hk hd hn
              obtain ⟨g, s11, hg, u, hu, -⟩ := h.e6 hd.1
              have s41 := h.e2 hd.2.1
              obtain ⟨c0, c1, c2, c3, c4, c5⟩ := vobj_six hu
              have f0 := vobj_free hu 0
              have f1 := vobj_free hu 1
              have f2 := vobj_free hu 2
              have f3 := vobj_free hu 3
              have f4 := vobj_free hu 4
              have f5 := vobj_free hu 5
              have l := lt_of_block hu
              refine stepS rfl fun K hK => ?_
              go_simp
              exact hK _ _ { h with bel := bel6 h.bel hg _ _ _ _ _ _, e6 := fun _ => ⟨g, s11, hg, vc, same6 hu vc, fun _ => rfl⟩, e7 := fun d => (h.e7 d).set (by rw [← s11]; exact (h.ne hd.1 d).symm), d8 := fun _ => hd.1 }
            · intro L s w2 h hk hd hn
              obtain ⟨g, s12, hg, u, hu, -⟩ := h.e7 hd.1
              have s44 := h.e5 hd.2.1
              obtain ⟨c0, c1, c2, c3, c4, c5⟩ := vobj_six hu
              have f0 := vobj_free hu 0
              have f1 := vobj_free hu 1
              have f2 := vobj_free hu 2
              have f3 := vobj_free hu 3
              have f4 := vobj_free hu 4
              have f5 := vobj_free hu 5
              have l := lt_of_block hu
              refine stepS rfl fun K hK => ?_
              go_simp
              exact hK _ _ { h with bel := bel6 h.bel hg _ _ _ _ _ _, e7 := fun _ => ⟨g, s12, hg, vd, same6 hu vd, fun _ => rfl⟩, e6 := fun d => (h.e6 d).set (by rw [← s12]; exact h.ne d hd.1), d9 := fun _ => hd.1 }
          · intro L s w2 h hk hl
            obtain ⟨ga, sa, ha1, ua, ha2, za⟩ := h.e6 (hl 6 (by decide))
            rw [za (hl 8 (by decide))] at ha2
            obtain ⟨gb, sb, hb1, ub, hb2, zb⟩ := h.e7 (hl 7 (by decide))
            rw [zb (hl 9 (by decide))] at hb2
            have HE := Lib.hid (show Kv w w2 [(gb, vobj (vl vd)), (ga, vobj (vl vc)), (B, vobj (vl p.2)), (A, vobj (vl p.1)), (g, pvObj prs), (w.heap.size + 1 + 1, .cells #[.int .u64 pq.1.1, .int .u64 pq.1.2, .int .u64 pq.2.1.1, .int .u64 pq.2.1.2, .int .u64 pq.2.2.1, .int .u64 pq.2.2.2] 36 (0, 0)), (w.heap.size + 1, .cells #[.int .u64 pp.1.1, .int .u64 pp.1.2, .int .u64 pp.2.1.1, .int .u64 pp.2.1.2, .int .u64 pp.2.2.1, .int .u64 pp.2.2.2] 36 (0, 0))] from ⟨(HK.out.on h.bel).bel, List.forall_mem_cons.2 ⟨hb2, List.forall_mem_cons.2 ⟨ha2, fun q hq => ((HK.out.sub (cs := [(B, vobj (vl p.2)), (A, vobj (vl p.1)), (g, pvObj prs), (w.heap.size + 1 + 1, .cells #[.int .u64 pq.1.1, .int .u64 pq.1.2, .int .u64 pq.2.1.1, .int .u64 pq.2.1.2, .int .u64 pq.2.2.1, .int .u64 pq.2.2.2] 36 (0, 0)), (w.heap.size + 1, .cells #[.int .u64 pp.1.1, .int .u64 pp.1.2, .int .u64 pp.2.1.1, .int .u64 pp.2.1.2, .int .u64 pp.2.2.1, .int .u64 pp.2.2.2] 36 (0, 0))]) (by simp)).on h.bel).blk q hq⟩⟩⟩)
            refine (congrArg (fun a => Q2 .normal a w2) (?_ : _ = _)).mpr (hQ2 s w2 (⟨ga, gb, sa, sb, HE⟩))
            refine congrArg (fun l => (⟨List.toArray l, []⟩ : Act)) ?_
            show [s 0, s 1, s 2, s 3, s 4, s 5, s 6, s 7, s 8, s 9, s 10, s 11, s 12, s 13, s 14, s 15, s 16, s 17, s 18, s 19, s 20, s 21, s 22, s 23, s 24, s 25, s 26, s 27, s 28, s 29, s 30, s 31, s 32, s 33, s 34, s 35, s 36, s 37, s 38, s 39, s 40, s 41, s 42, s 43, s 44, s 45, s 46, s 47, s 48, s 49, s 50, s 51, s 52, s 53, s 54, s 55, s 56, s 57, s 58, s 59, s 60, s 61, s 62, s 63, s 64, s 65, s 66, s 67, s 68, s 69, s 70, s 71, s 72, s 73, s 74, s 75, s 76, s 77, s 78, s 79, s 80, s 81, s 82, s 83, s 84, s 85, s 86, s 87, s 88, s 89, s 90, s 91, s 92, s 93, s 94, s 95, s 96, s 97, s 98, s 99, s 100, s 101, s 102, s 103, s 104, s 105, s 106, s 107, s 108, s 109, s 110, s 111, s 112, s 113, s 114, s 115, s 116, s 117, s 118, s 119, s 120, s 121, s 122, s 123, s 124, s 125, s 126, s 127, s 128, s 129, s 130, s 131, s 132] = _
            exact lc (hk 0 (by kernel_rfl)) (lc (hk 1 (by kernel_rfl)) (lc (hk 2 (by kernel_rfl)) (lc (hk 3 (by kernel_rfl)) (lc (hk 4 (by kernel_rfl)) (lc (hk 5 (by kernel_rfl)) (lc (hk 6 (by kernel_rfl)) (lc (hk 7 (by kernel_rfl)) (lc (hk 8 (by kernel_rfl)) (lc (hk 9 (by kernel_rfl)) (lc (hk 10 (by kernel_rfl)) (lc rfl (lc rfl (lc (hk 13 (by kernel_rfl)) (lc (hk 14 (by kernel_rfl)) (lc (hk 15 (by kernel_rfl)) (lc (hk 16 (by kernel_rfl)) (lc (hk 17 (by kernel_rfl)) (lc (hk 18 (by kernel_rfl)) (lc (hk 19 (by kernel_rfl)) (lc (hk 20 (by kernel_rfl)) (lc (hk 21 (by kernel_rfl)) (lc (hk 22 (by kernel_rfl)) (lc (hk 23 (by kernel_rfl)) (lc (hk 24 (by kernel_rfl)) (lc (hk 25 (by kernel_rfl)) (lc (hk 26 (by kernel_rfl)) (lc (hk 27 (by kernel_rfl)) (lc (hk 28 (by kernel_rfl)) (lc (hk 29 (by kernel_rfl)) (lc (hk 30 (by kernel_rfl)) (lc (hk 31 (by kernel_rfl)) (lc rfl (lc rfl (lc rfl (lc rfl (lc rfl (lc rfl (lc rfl (lc rfl (lc rfl (lc rfl (lc rfl (lc rfl (lc rfl (lc rfl (lc rfl (lc rfl (lc rfl (lc rfl (lc rfl (lc rfl (lc rfl (lc rfl (lc rfl (lc rfl (lc rfl (lc rfl (lc rfl (lc rfl (lc rfl (lc rfl (lc rfl (lc rfl (lc rfl (lc rfl (lc rfl (lc rfl (lc rfl (lc rfl (lc rfl (lc rfl (lc rfl (lc rfl (lc rfl (lc rfl (lc rfl (lc rfl (lc rfl (lc rfl (lc rfl (lc rfl (lc rfl (lc rfl (lc rfl (lc rfl (lc rfl (lc rfl (lc rfl (lc rfl (lc rfl (lc rfl (lc rfl (lc rfl (lc rfl (lc rfl (lc rfl (lc rfl (lc rfl (lc rfl (lc rfl (lc rfl (lc rfl (lc rfl (lc rfl (lc rfl (lc rfl (lc rfl (lc rfl (lc rfl (lc rfl (lc rfl (lc rfl (lc rfl (lc rfl (lc rfl (lc rfl (lc rfl (lc rfl (lc rfl (lc rfl (lc rfl (lc rfl (lc rfl (lc rfl (lc rfl (lc rfl (lc rfl (lc rfl (lc rfl (lc rfl (lc rfl (lc rfl rfl))))))))))))))))))))))))))))))))))))))))))))))))))))))))))))))))))))))))))))))))))))))))))))))))))))))))))))))))))))))))))))))))))))
        · rintro s wc ⟨C, D, e1, e2, HE⟩
          simp only [mergeL, e1, e2]
          clear e1 e2 HK HBA HBB HB1 HB2 HC1 HC2
          go_wp2_with fail
          go_loopw [46] (fun i wx => ∃ j : Nat, j ≤ 3 ∧ i = .int .i64 j ∧ Hid (Kv w wx [(D, vobj (vl vd)), (C, vobj (vl vc)), (B, vobj (vl p.2)), (A, vobj (vl p.1)), (g, pvObj prs), (w.heap.size + 1 + 1, .cells #[.int .u64 pq.1.1, .int .u64 pq.1.2, .int .u64 pq.2.1.1, .int .u64 pq.2.1.2, .int .u64 pq.2.2.1, .int .u64 pq.2.2.2] 36 (0, 0)), (w.heap.size + 1, .cells #[.int .u64 pp.1.1, .int .u64 pp.1.2, .int .u64 pp.2.1.1, .int .u64 pp.2.1.2, .int .u64 pp.2.2.1, .int .u64 pp.2.2.2] 36 (0, 0))])) (fun i _ => 3 - (intOf i).toNat)
          case atStart => exact ⟨0, by omega, rfl, HE⟩
          case round =>
            clear HE
            obtain ⟨j, hj, rfl, HE⟩ := hrel
            rcases Nat.lt_or_ge j 3 with hj' | hj'
            · obtain rfl | rfl | rfl : j = 0 ∨ j = 1 ∨ j = 2 := by omega
              · have hK := HE.out
                clear HE
                obtain ⟨r, Hr⟩ : ∃ r, Hid (vAdd vc vd = r) := ⟨_, Lib.hid rfl⟩
                obtain ⟨s, Hs⟩ : ∃ r, Hid (vAdd p.1 p.2 = r) := ⟨_, Lib.hid rfl⟩
                have HI := Lib.hid (show rInV (vAdd vc vd) (vAdd p.1 p.2) from vOp_narrow nrw_add HO.out.1 HO.out.2 HN1.out.1 HN2.out.1 HN1.out.2 HN2.out.2)
                rw [Hr.out, Hs.out] at HI
                have hpk : ∀ W, (Instr.index 43 (.agg #[.func (.func 10) #[] #[], .func (.func 11) #[] #[], .func (.func 12) #[] #[]]) (.int .i64 0)).run Try.prog W = .ok (.func (.func 10) #[] #[]) W := fun W => by kernel_rfl
                obtain ⟨cC0, cC1, cC2, cC3, cC4, cC5⟩ := vobj_six (hK.blk _ (List.Mem.tail _ (List.Mem.head _)))
                have lC := lt_of_block (hK.blk _ (List.Mem.tail _ (List.Mem.head _)))
                obtain ⟨cD0, cD1, cD2, cD3, cD4, cD5⟩ := vobj_six (hK.blk _ (List.Mem.head _))
                have lD := lt_of_block (hK.blk _ (List.Mem.head _))
                go_wp2_with fail
                refine (vAddK vc vd r.1 r.2 Hr.out _).mono ?_; rintro e w20 ⟨rfl, hb⟩
                replace hK := hK.on hb
                clear hpk cC0 cC1 cC2 cC3 cC4 cC5 lC cD0 cD1 cD2 cD3 cD4 cD5 lD hb
                replace hK : Kv w (w20.alloc (.cells #[.int .i64 r.1.1.1, .int .i64 r.1.1.2, .int .i64 r.1.2.1.1, .int .i64 r.1.2.1.2, .int .i64 r.1.2.2.1, .int .i64 r.1.2.2.2] 25)) [(w20.heap.size, vobj (vl r.1)), (D, vobj (vl vd)), (C, vobj (vl vc)), (B, vobj (vl p.2)), (A, vobj (vl p.1)), (g, pvObj prs), (w.heap.size + 1 + 1, .cells #[.int .u64 pq.1.1, .int .u64 pq.1.2, .int .u64 pq.2.1.1, .int .u64 pq.2.1.2, .int .u64 pq.2.2.1, .int .u64 pq.2.2.2] 36 (0, 0)), (w.heap.size + 1, .cells #[.int .u64 pp.1.1, .int .u64 pp.1.2, .int .u64 pp.2.1.1, .int .u64 pp.2.1.2, .int .u64 pp.2.2.1, .int .u64 pp.2.2.2] 36 (0, 0))] := hK.al (vobj (vl r.1)) (n := w20.heap.size) (by simp)
                obtain ⟨cA0, cA1, cA2, cA3, cA4, cA5⟩ := vobj_six (hK.blk _ (List.Mem.tail _ (List.Mem.tail _ (List.Mem.tail _ (List.Mem.tail _ (List.Mem.head _))))))
                have lA := lt_of_block (hK.blk _ (List.Mem.tail _ (List.Mem.tail _ (List.Mem.tail _ (List.Mem.tail _ (List.Mem.head _))))))
                obtain ⟨cB0, cB1, cB2, cB3, cB4, cB5⟩ := vobj_six (hK.blk _ (List.Mem.tail _ (List.Mem.tail _ (List.Mem.tail _ (List.Mem.head _)))))
                have lB := lt_of_block (hK.blk _ (List.Mem.tail _ (List.Mem.tail _ (List.Mem.tail _ (List.Mem.head _)))))
                go_wp2_with fail
                refine (vAddK p.1 p.2 s.1 s.2 Hs.out _).mono ?_; rintro e w21 ⟨rfl, hb⟩
                replace hK := hK.on hb
                clear cA0 cA1 cA2 cA3 cA4 cA5 lA cB0 cB1 cB2 cB3 cB4 cB5 lB hb
                replace hK : Kv w (w21.alloc (.cells #[.int .i64 s.1.1.1, .int .i64 s.1.1.2, .int .i64 s.1.2.1.1, .int .i64 s.1.2.1.2, .int .i64 s.1.2.2.1, .int .i64 s.1.2.2.2] 25)) [(w21.heap.size, vobj (vl s.1)), (w20.heap.size, vobj (vl r.1)), (D, vobj (vl vd)), (C, vobj (vl vc)), (B, vobj (vl p.2)), (A, vobj (vl p.1)), (g, pvObj prs), (w.heap.size + 1 + 1, .cells #[.int .u64 pq.1.1, .int .u64 pq.1.2, .int .u64 pq.2.1.1, .int .u64 pq.2.1.2, .int .u64 pq.2.2.1, .int .u64 pq.2.2.2] 36 (0, 0)), (w.heap.size + 1, .cells #[.int .u64 pp.1.1, .int .u64 pp.1.2, .int .u64 pp.2.1.1, .int .u64 pp.2.1.2, .int .u64 pp.2.2.1, .int .u64 pp.2.2.2] 36 (0, 0))] := hK.al (vobj (vl s.1)) (n := w21.heap.size) (by simp)
                obtain ⟨cx150, cx151, cx152, cx153, cx154, cx155⟩ := vobj_six (hK.blk _ (List.Mem.tail _ (List.Mem.head _)))
                have lx15 := lt_of_block (hK.blk _ (List.Mem.tail _ (List.Mem.head _)))
                obtain ⟨cx170, cx171, cx172, cx173, cx174, cx175⟩ := vobj_six (hK.blk _ (List.Mem.head _))
                have lx17 := lt_of_block (hK.blk _ (List.Mem.head _))
                go_wp2_with fail
                refine (law6_inside r s HI.out _).mono ?_; rintro e w22 ⟨rfl, hb⟩
                replace hK := hK.on hb
                clear cx150 cx151 cx152 cx153 cx154 cx155 lx15 cx170 cx171 cx172 cx173 cx174 cx175 lx17 hb
                go_wp2_with fail
                go_roundw
                case rel => exact ⟨1, by omega, by go_num, Lib.hid (hK.sub (by simp))⟩
                case measure => simp [intOf]
              · have hK := HE.out
                clear HE
                obtain ⟨r, Hr⟩ : ∃ r, Hid (vSub vc vd = r) := ⟨_, Lib.hid rfl⟩
                obtain ⟨s, Hs⟩ : ∃ r, Hid (vSub p.1 p.2 = r) := ⟨_, Lib.hid rfl⟩
                have HI := Lib.hid (show rInV (vSub vc vd) (vSub p.1 p.2) from vOp_narrow nrw_sub HO.out.1 HO.out.2 HN1.out.1 HN2.out.1 HN1.out.2 HN2.out.2)
                rw [Hr.out, Hs.out] at HI
                have hpk : ∀ W, (Instr.index 43 (.agg #[.func (.func 10) #[] #[], .func (.func 11) #[] #[], .func (.func 12) #[] #[]]) (.int .i64 1)).run Try.prog W = .ok (.func (.func 11) #[] #[]) W := fun W => by kernel_rfl
                obtain ⟨cC0, cC1, cC2, cC3, cC4, cC5⟩ := vobj_six (hK.blk _ (List.Mem.tail _ (List.Mem.head _)))
                have lC := lt_of_block (hK.blk _ (List.Mem.tail _ (List.Mem.head _)))
                obtain ⟨cD0, cD1, cD2, cD3, cD4, cD5⟩ := vobj_six (hK.blk _ (List.Mem.head _))
                have lD := lt_of_block (hK.blk _ (List.Mem.head _))
                go_wp2_with fail
                refine (vSubK vc vd r.1 r.2 Hr.out _).mono ?_; rintro e w20 ⟨rfl, hb⟩
                replace hK := hK.on hb
                clear hpk cC0 cC1 cC2 cC3 cC4 cC5 lC cD0 cD1 cD2 cD3 cD4 cD5 lD hb
                replace hK : Kv w (w20.alloc (.cells #[.int .i64 r.1.1.1, .int .i64 r.1.1.2, .int .i64 r.1.2.1.1, .int .i64 r.1.2.1.2, .int .i64 r.1.2.2.1, .int .i64 r.1.2.2.2] 25)) [(w20.heap.size, vobj (vl r.1)), (D, vobj (vl vd)), (C, vobj (vl vc)), (B, vobj (vl p.2)), (A, vobj (vl p.1)), (g, pvObj prs), (w.heap.size + 1 + 1, .cells #[.int .u64 pq.1.1, .int .u64 pq.1.2, .int .u64 pq.2.1.1, .int .u64 pq.2.1.2, .int .u64 pq.2.2.1, .int .u64 pq.2.2.2] 36 (0, 0)), (w.heap.size + 1, .cells #[.int .u64 pp.1.1, .int .u64 pp.1.2, .int .u64 pp.2.1.1, .int .u64 pp.2.1.2, .int .u64 pp.2.2.1, .int .u64 pp.2.2.2] 36 (0, 0))] := hK.al (vobj (vl r.1)) (n := w20.heap.size) (by simp)
                obtain ⟨cA0, cA1, cA2, cA3, cA4, cA5⟩ := vobj_six (hK.blk _ (List.Mem.tail _ (List.Mem.tail _ (List.Mem.tail _ (List.Mem.tail _ (List.Mem.head _))))))
                have lA := lt_of_block (hK.blk _ (List.Mem.tail _ (List.Mem.tail _ (List.Mem.tail _ (List.Mem.tail _ (List.Mem.head _))))))
                obtain ⟨cB0, cB1, cB2, cB3, cB4, cB5⟩ := vobj_six (hK.blk _ (List.Mem.tail _ (List.Mem.tail _ (List.Mem.tail _ (List.Mem.head _)))))
                have lB := lt_of_block (hK.blk _ (List.Mem.tail _ (List.Mem.tail _ (List.Mem.tail _ (List.Mem.head _)))))
                go_wp2_with fail
                refine (vSubK p.1 p.2 s.1 s.2 Hs.out _).mono ?_; rintro e w21 ⟨rfl, hb⟩
                replace hK := hK.on hb
                clear cA0 cA1 cA2 cA3 cA4 cA5 lA cB0 cB1 cB2 cB3 cB4 cB5 lB hb
                replace hK : Kv w (w21.alloc (.cells #[.int .i64 s.1.1.1, .int .i64 s.1.1.2, .int .i64 s.1.2.1.1, .int .i64 s.1.2.1.2, .int .i64 s.1.2.2.1, .int .i64 s.1.2.2.2] 25)) [(w21.heap.size, vobj (vl s.1)), (w20.heap.size, vobj (vl r.1)), (D, vobj (vl vd)), (C, vobj (vl vc)), (B, vobj (vl p.2)), (A, vobj (vl p.1)), (g, pvObj prs), (w.heap.size + 1 + 1, .cells #[.int .u64 pq.1.1, .int .u64 pq.1.2, .int .u64 pq.2.1.1, .int .u64 pq.2.1.2, .int .u64 pq.2.2.1, .int .u64 pq.2.2.2] 36 (0, 0)), (w.heap.size + 1, .cells #[.int .u64 pp.1.1, .int .u64 pp.1.2, .int .u64 pp.2.1.1, .int .u64 pp.2.1.2, .int .u64 pp.2.2.1, .int .u64 pp.2.2.2] 36 (0, 0))] := hK.al (vobj (vl s.1)) (n := w21.heap.size) (by simp)
                obtain ⟨cx150, cx151, cx152, cx153, cx154, cx155⟩ := vobj_six (hK.blk _ (List.Mem.tail _ (List.Mem.head _)))
                have lx15 := lt_of_block (hK.blk _ (List.Mem.tail _ (List.Mem.head _)))
                obtain ⟨cx170, cx171, cx172, cx173, cx174, cx175⟩ := vobj_six (hK.blk _ (List.Mem.head _))
                have lx17 := lt_of_block (hK.blk _ (List.Mem.head _))
                go_wp2_with fail
                refine (law6_inside r s HI.out _).mono ?_; rintro e w22 ⟨rfl, hb⟩
                replace hK := hK.on hb
                clear cx150 cx151 cx152 cx153 cx154 cx155 lx15 cx170 cx171 cx172 cx173 cx174 cx175 lx17 hb
                go_wp2_with fail
                go_roundw
                case rel => exact ⟨2, by omega, by go_num, Lib.hid (hK.sub (by simp))⟩
                case measure => simp [intOf]
              · have hK := HE.out
                clear HE
                obtain ⟨r, Hr⟩ : ∃ r, Hid (vCross vc vd = r) := ⟨_, Lib.hid rfl⟩
                obtain ⟨s, Hs⟩ : ∃ r, Hid (vCross p.1 p.2 = r) := ⟨_, Lib.hid rfl⟩
                have HI := Lib.hid (show rInV (vCross vc vd) (vCross p.1 p.2) from vCross_narrow HO.out.1 HO.out.2 HN1.out.1 HN2.out.1 HN1.out.2 HN2.out.2)
                rw [Hr.out, Hs.out] at HI
                have hpk : ∀ W, (Instr.index 43 (.agg #[.func (.func 10) #[] #[], .func (.func 11) #[] #[], .func (.func 12) #[] #[]]) (.int .i64 2)).run Try.prog W = .ok (.func (.func 12) #[] #[]) W := fun W => by kernel_rfl
                obtain ⟨cC0, cC1, cC2, cC3, cC4, cC5⟩ := vobj_six (hK.blk _ (List.Mem.tail _ (List.Mem.head _)))
                have lC := lt_of_block (hK.blk _ (List.Mem.tail _ (List.Mem.head _)))
                obtain ⟨cD0, cD1, cD2, cD3, cD4, cD5⟩ := vobj_six (hK.blk _ (List.Mem.head _))
                have lD := lt_of_block (hK.blk _ (List.Mem.head _))
                go_wp2_with fail
                refine (vCrossK vc vd r.1 r.2 Hr.out _).mono ?_; rintro e w20 ⟨rfl, hb⟩
                replace hK := hK.on hb
                clear hpk cC0 cC1 cC2 cC3 cC4 cC5 lC cD0 cD1 cD2 cD3 cD4 cD5 lD hb
                replace hK : Kv w (w20.alloc (.cells #[.int .i64 r.1.1.1, .int .i64 r.1.1.2, .int .i64 r.1.2.1.1, .int .i64 r.1.2.1.2, .int .i64 r.1.2.2.1, .int .i64 r.1.2.2.2] 25)) [(w20.heap.size, vobj (vl r.1)), (D, vobj (vl vd)), (C, vobj (vl vc)), (B, vobj (vl p.2)), (A, vobj (vl p.1)), (g, pvObj prs), (w.heap.size + 1 + 1, .cells #[.int .u64 pq.1.1, .int .u64 pq.1.2, .int .u64 pq.2.1.1, .int .u64 pq.2.1.2, .int .u64 pq.2.2.1, .int .u64 pq.2.2.2] 36 (0, 0)), (w.heap.size + 1, .cells #[.int .u64 pp.1.1, .int .u64 pp.1.2, .int .u64 pp.2.1.1, .int .u64 pp.2.1.2, .int .u64 pp.2.2.1, .int .u64 pp.2.2.2] 36 (0, 0))] := hK.al (vobj (vl r.1)) (n := w20.heap.size) (by simp)
                obtain ⟨cA0, cA1, cA2, cA3, cA4, cA5⟩ := vobj_six (hK.blk _ (List.Mem.tail _ (List.Mem.tail _ (List.Mem.tail _ (List.Mem.tail _ (List.Mem.head _))))))
                have lA := lt_of_block (hK.blk _ (List.Mem.tail _ (List.Mem.tail _ (List.Mem.tail _ (List.Mem.tail _ (List.Mem.head _))))))
                obtain ⟨cB0, cB1, cB2, cB3, cB4, cB5⟩ := vobj_six (hK.blk _ (List.Mem.tail _ (List.Mem.tail _ (List.Mem.tail _ (List.Mem.head _)))))
                have lB := lt_of_block (hK.blk _ (List.Mem.tail _ (List.Mem.tail _ (List.Mem.tail _ (List.Mem.head _)))))
                go_wp2_with fail
                refine (vCrossK p.1 p.2 s.1 s.2 Hs.out _).mono ?_; rintro e w21 ⟨rfl, hb⟩
                replace hK := hK.on hb
                clear cA0 cA1 cA2 cA3 cA4 cA5 lA cB0 cB1 cB2 cB3 cB4 cB5 lB hb
                replace hK : Kv w (w21.alloc (.cells #[.int .i64 s.1.1.1, .int .i64 s.1.1.2, .int .i64 s.1.2.1.1, .int .i64 s.1.2.1.2, .int .i64 s.1.2.2.1, .int .i64 s.1.2.2.2] 25)) [(w21.heap.size, vobj (vl s.1)), (w20.heap.size, vobj (vl r.1)), (D, vobj (vl vd)), (C, vobj (vl vc)), (B, vobj (vl p.2)), (A, vobj (vl p.1)), (g, pvObj prs), (w.heap.size + 1 + 1, .cells #[.int .u64 pq.1.1, .int .u64 pq.1.2, .int .u64 pq.2.1.1, .int .u64 pq.2.1.2, .int .u64 pq.2.2.1, .int .u64 pq.2.2.2] 36 (0, 0)), (w.heap.size + 1, .cells #[.int .u64 pp.1.1, .int .u64 pp.1.2, .int .u64 pp.2.1.1, .int .u64 pp.2.1.2, .int .u64 pp.2.2.1, .int .u64 pp.2.2.2] 36 (0, 0))] := hK.al (vobj (vl s.1)) (n := w21.heap.size) (by simp)
                obtain ⟨cx150, cx151, cx152, cx153, cx154, cx155⟩ := vobj_six (hK.blk _ (List.Mem.tail _ (List.Mem.head _)))
                have lx15 := lt_of_block (hK.blk _ (List.Mem.tail _ (List.Mem.head _)))
                obtain ⟨cx170, cx171, cx172, cx173, cx174, cx175⟩ := vobj_six (hK.blk _ (List.Mem.head _))
                have lx17 := lt_of_block (hK.blk _ (List.Mem.head _))
                go_wp2_with fail
                refine (law6_inside r s HI.out _).mono ?_; rintro e w22 ⟨rfl, hb⟩
                replace hK := hK.on hb
                clear cx150 cx151 cx152 cx153 cx154 cx155 lx15 cx170 cx171 cx172 cx173 cx174 cx175 lx17 hb
                go_wp2_with fail
                go_roundw
                case rel => exact ⟨3, by omega, by go_num, Lib.hid (hK.sub (by simp))⟩
                case measure => simp [intOf]
            · obtain rfl : j = 3 := by omega
              have hK := HE.out
              clear HE
              obtain ⟨r, Hr⟩ : ∃ r, Hid (vUnit vc = r) := ⟨_, Lib.hid rfl⟩
              obtain ⟨s, Hs⟩ : ∃ r, Hid (vUnit p.1 = r) := ⟨_, Lib.hid rfl⟩
              have HI := Lib.hid (vUnit_narrow HO.out.1 HN1.out.1 HN1.out.2)
              rw [Hr.out, Hs.out] at HI
              obtain ⟨m1, m2, Hm⟩ : ∃ a b, Hid (vDot vc vd = (a, b)) := ⟨_, _, Lib.hid rfl⟩
              obtain ⟨n1, n2, Hn⟩ : ∃ a b, Hid (vDot p.1 p.2 = (a, b)) := ⟨_, _, Lib.hid rfl⟩
              obtain ⟨u1, u2, Hu⟩ : ∃ a b, Hid (vNorm vc = (a, b)) := ⟨_, _, Lib.hid rfl⟩
              obtain ⟨v1, v2, Hv⟩ : ∃ a b, Hid (vNorm p.1 = (a, b)) := ⟨_, _, Lib.hid rfl⟩
              have HD := Lib.hid (vDot_narrow HO.out.1 HO.out.2 HN1.out.1 HN2.out.1 HN1.out.2 HN2.out.2)
              rw [Hm.out, Hn.out] at HD
              have HM := Lib.hid (vNorm_narrow HO.out.1 HN1.out.1 HN1.out.2)
              rw [Hu.out, Hv.out] at HM
              obtain ⟨cC0, cC1, cC2, cC3, cC4, cC5⟩ := vobj_six (hK.blk _ (List.Mem.tail _ (List.Mem.head _)))
              have lC := lt_of_block (hK.blk _ (List.Mem.tail _ (List.Mem.head _)))
              go_wp2_with fail
              refine (vUnitK vc r.1 r.2 Hr.out _).mono ?_; rintro e w40 ⟨rfl, hb⟩
              replace hK := hK.on hb
              clear cC0 cC1 cC2 cC3 cC4 cC5 lC hb
              replace hK : Kv w (w40.alloc (.cells #[.int .i64 r.1.1.1, .int .i64 r.1.1.2, .int .i64 r.1.2.1.1, .int .i64 r.1.2.1.2, .int .i64 r.1.2.2.1, .int .i64 r.1.2.2.2] 25)) [(w40.heap.size, vobj (vl r.1)), (D, vobj (vl vd)), (C, vobj (vl vc)), (B, vobj (vl p.2)), (A, vobj (vl p.1)), (g, pvObj prs), (w.heap.size + 1 + 1, .cells #[.int .u64 pq.1.1, .int .u64 pq.1.2, .int .u64 pq.2.1.1, .int .u64 pq.2.1.2, .int .u64 pq.2.2.1, .int .u64 pq.2.2.2] 36 (0, 0)), (w.heap.size + 1, .cells #[.int .u64 pp.1.1, .int .u64 pp.1.2, .int .u64 pp.2.1.1, .int .u64 pp.2.1.2, .int .u64 pp.2.2.1, .int .u64 pp.2.2.2] 36 (0, 0))] := hK.al (vobj (vl r.1)) (n := w40.heap.size) (by simp)
              obtain ⟨cA0, cA1, cA2, cA3, cA4, cA5⟩ := vobj_six (hK.blk _ (List.Mem.tail _ (List.Mem.tail _ (List.Mem.tail _ (List.Mem.tail _ (List.Mem.head _))))))
              have lA := lt_of_block (hK.blk _ (List.Mem.tail _ (List.Mem.tail _ (List.Mem.tail _ (List.Mem.tail _ (List.Mem.head _))))))
              go_wp2_with fail
              refine (vUnitK p.1 s.1 s.2 Hs.out _).mono ?_; rintro e w41 ⟨rfl, hb⟩
              replace hK := hK.on hb
              clear cA0 cA1 cA2 cA3 cA4 cA5 lA hb
              replace hK : Kv w (w41.alloc (.cells #[.int .i64 s.1.1.1, .int .i64 s.1.1.2, .int .i64 s.1.2.1.1, .int .i64 s.1.2.1.2, .int .i64 s.1.2.2.1, .int .i64 s.1.2.2.2] 25)) [(w41.heap.size, vobj (vl s.1)), (w40.heap.size, vobj (vl r.1)), (D, vobj (vl vd)), (C, vobj (vl vc)), (B, vobj (vl p.2)), (A, vobj (vl p.1)), (g, pvObj prs), (w.heap.size + 1 + 1, .cells #[.int .u64 pq.1.1, .int .u64 pq.1.2, .int .u64 pq.2.1.1, .int .u64 pq.2.1.2, .int .u64 pq.2.2.1, .int .u64 pq.2.2.2] 36 (0, 0)), (w.heap.size + 1, .cells #[.int .u64 pp.1.1, .int .u64 pp.1.2, .int .u64 pp.2.1.1, .int .u64 pp.2.1.2, .int .u64 pp.2.2.1, .int .u64 pp.2.2.2] 36 (0, 0))] := hK.al (vobj (vl s.1)) (n := w41.heap.size) (by simp)
              obtain ⟨cx190, cx191, cx192, cx193, cx194, cx195⟩ := vobj_six (hK.blk _ (List.Mem.tail _ (List.Mem.head _)))
              have lx19 := lt_of_block (hK.blk _ (List.Mem.tail _ (List.Mem.head _)))
              obtain ⟨cx210, cx211, cx212, cx213, cx214, cx215⟩ := vobj_six (hK.blk _ (List.Mem.head _))
              have lx21 := lt_of_block (hK.blk _ (List.Mem.head _))
              go_wp2_with fail
              refine (law6_inside r s HI.out _).mono ?_; rintro e w42 ⟨rfl, hb⟩
              replace hK := hK.on hb
              clear cx190 cx191 cx192 cx193 cx194 cx195 lx19 cx210 cx211 cx212 cx213 cx214 cx215 lx21 hb
              obtain ⟨cC0, cC1, cC2, cC3, cC4, cC5⟩ := vobj_six (hK.blk _ (List.Mem.tail _ (List.Mem.tail _ (List.Mem.tail _ (List.Mem.head _)))))
              have lC := lt_of_block (hK.blk _ (List.Mem.tail _ (List.Mem.tail _ (List.Mem.tail _ (List.Mem.head _)))))
              obtain ⟨cD0, cD1, cD2, cD3, cD4, cD5⟩ := vobj_six (hK.blk _ (List.Mem.tail _ (List.Mem.tail _ (List.Mem.head _))))
              have lD := lt_of_block (hK.blk _ (List.Mem.tail _ (List.Mem.tail _ (List.Mem.head _))))
              go_wp2_with fail
              refine (vDotK vc vd m1 m2 Hm.out _).mono ?_; rintro e w43 ⟨rfl, hb⟩
              replace hK := hK.on hb
              clear cC0 cC1 cC2 cC3 cC4 cC5 lC cD0 cD1 cD2 cD3 cD4 cD5 lD hb
              have gx23 : w.heap.size ≤ w43.heap.size := by have h := hK.bel.size; first | exact h | (simp at h; omega)
              have nx23_p1 : w43.heap.size ≠ w.heap.size + 1 := by have h := lt_of_block (hK.blk _ (List.Mem.tail _ (List.Mem.tail _ (List.Mem.tail _ (List.Mem.tail _ (List.Mem.tail _ (List.Mem.tail _ (List.Mem.tail _ (List.Mem.tail _ (List.Mem.head _)))))))))); first | exact Nat.ne_of_gt h | (simp at h; omega)
              have nx23_q1 : w43.heap.size ≠ w.heap.size + 1 + 1 := by have h := lt_of_block (hK.blk _ (List.Mem.tail _ (List.Mem.tail _ (List.Mem.tail _ (List.Mem.tail _ (List.Mem.tail _ (List.Mem.tail _ (List.Mem.tail _ (List.Mem.head _))))))))); first | exact Nat.ne_of_gt h | (simp at h; omega)
              have nx23_g : w43.heap.size ≠ g := by have h := lt_of_block (hK.blk _ (List.Mem.tail _ (List.Mem.tail _ (List.Mem.tail _ (List.Mem.tail _ (List.Mem.tail _ (List.Mem.tail _ (List.Mem.head _)))))))); first | exact Nat.ne_of_gt h | (simp at h; omega)
              have nx23_A : w43.heap.size ≠ A := by have h := lt_of_block (hK.blk _ (List.Mem.tail _ (List.Mem.tail _ (List.Mem.tail _ (List.Mem.tail _ (List.Mem.tail _ (List.Mem.head _))))))); first | exact Nat.ne_of_gt h | (simp at h; omega)
              have nx23_B : w43.heap.size ≠ B := by have h := lt_of_block (hK.blk _ (List.Mem.tail _ (List.Mem.tail _ (List.Mem.tail _ (List.Mem.tail _ (List.Mem.head _)))))); first | exact Nat.ne_of_gt h | (simp at h; omega)
              have nx23_C : w43.heap.size ≠ C := by have h := lt_of_block (hK.blk _ (List.Mem.tail _ (List.Mem.tail _ (List.Mem.tail _ (List.Mem.head _))))); first | exact Nat.ne_of_gt h | (simp at h; omega)
              have nx23_D : w43.heap.size ≠ D := by have h := lt_of_block (hK.blk _ (List.Mem.tail _ (List.Mem.tail _ (List.Mem.head _)))); first | exact Nat.ne_of_gt h | (simp at h; omega)
              have nx23_x19 : w43.heap.size ≠ w40.heap.size := by have h := lt_of_block (hK.blk _ (List.Mem.tail _ (List.Mem.head _))); first | exact Nat.ne_of_gt h | (simp at h; omega)
              have nx23_x21 : w43.heap.size ≠ w41.heap.size := by have h := lt_of_block (hK.blk _ (List.Mem.head _)); first | exact Nat.ne_of_gt h | (simp at h; omega)
              replace hK : Kv w (w43.alloc (.cells #[.int .i64 m1.1, .int .i64 m1.2] 23)) [(w43.heap.size, .cells #[.int .i64 m1.1, .int .i64 m1.2] 23 (0, 0)), (w41.heap.size, vobj (vl s.1)), (w40.heap.size, vobj (vl r.1)), (D, vobj (vl vd)), (C, vobj (vl vc)), (B, vobj (vl p.2)), (A, vobj (vl p.1)), (g, pvObj prs), (w.heap.size + 1 + 1, .cells #[.int .u64 pq.1.1, .int .u64 pq.1.2, .int .u64 pq.2.1.1, .int .u64 pq.2.1.2, .int .u64 pq.2.2.1, .int .u64 pq.2.2.2] 36 (0, 0)), (w.heap.size + 1, .cells #[.int .u64 pp.1.1, .int .u64 pp.1.2, .int .u64 pp.2.1.1, .int .u64 pp.2.1.2, .int .u64 pp.2.2.1, .int .u64 pp.2.2.2] 36 (0, 0))] := hK.al (.cells #[.int .i64 m1.1, .int .i64 m1.2] 23 (0, 0)) (n := w43.heap.size) (by simp)
              obtain ⟨cA0, cA1, cA2, cA3, cA4, cA5⟩ := vobj_six (hK.blk _ (List.Mem.tail _ (List.Mem.tail _ (List.Mem.tail _ (List.Mem.tail _ (List.Mem.tail _ (List.Mem.tail _ (List.Mem.head _))))))))
              have lA := lt_of_block (hK.blk _ (List.Mem.tail _ (List.Mem.tail _ (List.Mem.tail _ (List.Mem.tail _ (List.Mem.tail _ (List.Mem.tail _ (List.Mem.head _))))))))
              obtain ⟨cB0, cB1, cB2, cB3, cB4, cB5⟩ := vobj_six (hK.blk _ (List.Mem.tail _ (List.Mem.tail _ (List.Mem.tail _ (List.Mem.tail _ (List.Mem.tail _ (List.Mem.head _)))))))
              have lB := lt_of_block (hK.blk _ (List.Mem.tail _ (List.Mem.tail _ (List.Mem.tail _ (List.Mem.tail _ (List.Mem.tail _ (List.Mem.head _)))))))
              go_wp2_with fail
              refine (vDotK p.1 p.2 n1 n2 Hn.out _).mono ?_; rintro e w44 ⟨rfl, hb⟩
              replace hK := hK.on hb
              clear cA0 cA1 cA2 cA3 cA4 cA5 lA cB0 cB1 cB2 cB3 cB4 cB5 lB hb
              have gx24 : w.heap.size ≤ w44.heap.size := by have h := hK.bel.size; first | exact h | (simp at h; omega)
              have nx24_p1 : w44.heap.size ≠ w.heap.size + 1 := by have h := lt_of_block (hK.blk _ (List.Mem.tail _ (List.Mem.tail _ (List.Mem.tail _ (List.Mem.tail _ (List.Mem.tail _ (List.Mem.tail _ (List.Mem.tail _ (List.Mem.tail _ (List.Mem.tail _ (List.Mem.head _))))))))))); first | exact Nat.ne_of_gt h | (simp at h; omega)
              have nx24_q1 : w44.heap.size ≠ w.heap.size + 1 + 1 := by have h := lt_of_block (hK.blk _ (List.Mem.tail _ (List.Mem.tail _ (List.Mem.tail _ (List.Mem.tail _ (List.Mem.tail _ (List.Mem.tail _ (List.Mem.tail _ (List.Mem.tail _ (List.Mem.head _)))))))))); first | exact Nat.ne_of_gt h | (simp at h; omega)
              have nx24_g : w44.heap.size ≠ g := by have h := lt_of_block (hK.blk _ (List.Mem.tail _ (List.Mem.tail _ (List.Mem.tail _ (List.Mem.tail _ (List.Mem.tail _ (List.Mem.tail _ (List.Mem.tail _ (List.Mem.head _))))))))); first | exact Nat.ne_of_gt h | (simp at h; omega)
              have nx24_A : w44.heap.size ≠ A := by have h := lt_of_block (hK.blk _ (List.Mem.tail _ (List.Mem.tail _ (List.Mem.tail _ (List.Mem.tail _ (List.Mem.tail _ (List.Mem.tail _ (List.Mem.head _)))))))); first | exact Nat.ne_of_gt h | (simp at h; omega)
              have nx24_B : w44.heap.size ≠ B := by have h := lt_of_block (hK.blk _ (List.Mem.tail _ (List.Mem.tail _ (List.Mem.tail _ (List.Mem.tail _ (List.Mem.tail _ (List.Mem.head _))))))); first | exact Nat.ne_of_gt h | (simp at h; omega)
              have nx24_C : w44.heap.size ≠ C := by have h := lt_of_block (hK.blk _ (List.Mem.tail _ (List.Mem.tail _ (List.Mem.tail _ (List.Mem.tail _ (List.Mem.head _)))))); first | exact Nat.ne_of_gt h | (simp at h; omega)
              have nx24_D : w44.heap.size ≠ D := by have h := lt_of_block (hK.blk _ (List.Mem.tail _ (List.Mem.tail _ (List.Mem.tail _ (List.Mem.head _))))); first | exact Nat.ne_of_gt h | (simp at h; omega)
              have nx24_x19 : w44.heap.size ≠ w40.heap.size := by have h := lt_of_block (hK.blk _ (List.Mem.tail _ (List.Mem.tail _ (List.Mem.head _)))); first | exact Nat.ne_of_gt h | (simp at h; omega)
              have nx24_x21 : w44.heap.size ≠ w41.heap.size := by have h := lt_of_block (hK.blk _ (List.Mem.tail _ (List.Mem.head _))); first | exact Nat.ne_of_gt h | (simp at h; omega)
              have nx24_x23 : w44.heap.size ≠ w43.heap.size := by have h := lt_of_block (hK.blk _ (List.Mem.head _)); first | exact Nat.ne_of_gt h | (simp at h; omega)
              replace hK : Kv w (w44.alloc (.cells #[.int .i64 n1.1, .int .i64 n1.2] 23)) [(w44.heap.size, .cells #[.int .i64 n1.1, .int .i64 n1.2] 23 (0, 0)), (w43.heap.size, .cells #[.int .i64 m1.1, .int .i64 m1.2] 23 (0, 0)), (w41.heap.size, vobj (vl s.1)), (w40.heap.size, vobj (vl r.1)), (D, vobj (vl vd)), (C, vobj (vl vc)), (B, vobj (vl p.2)), (A, vobj (vl p.1)), (g, pvObj prs), (w.heap.size + 1 + 1, .cells #[.int .u64 pq.1.1, .int .u64 pq.1.2, .int .u64 pq.2.1.1, .int .u64 pq.2.1.2, .int .u64 pq.2.2.1, .int .u64 pq.2.2.2] 36 (0, 0)), (w.heap.size + 1, .cells #[.int .u64 pp.1.1, .int .u64 pp.1.2, .int .u64 pp.2.1.1, .int .u64 pp.2.1.2, .int .u64 pp.2.2.1, .int .u64 pp.2.2.2] 36 (0, 0))] := hK.al (.cells #[.int .i64 n1.1, .int .i64 n1.2] 23 (0, 0)) (n := w44.heap.size) (by simp)
              go_upto_region 22 with (fail)
              replace hK := hK.sub (cs := [(w44.heap.size, .cells #[.int .i64 n1.1, .int .i64 n1.2] 23 (0, 0)), (w43.heap.size, .cells #[.int .i64 m1.1, .int .i64 m1.2] 23 (0, 0)), (D, vobj (vl vd)), (C, vobj (vl vc)), (B, vobj (vl p.2)), (A, vobj (vl p.1)), (g, pvObj prs), (w.heap.size + 1 + 1, .cells #[.int .u64 pq.1.1, .int .u64 pq.1.2, .int .u64 pq.2.1.1, .int .u64 pq.2.1.2, .int .u64 pq.2.2.1, .int .u64 pq.2.2.2] 36 (0, 0)), (w.heap.size + 1, .cells #[.int .u64 pp.1.1, .int .u64 pp.1.2, .int .u64 pp.2.1.1, .int .u64 pp.2.1.2, .int .u64 pp.2.2.1, .int .u64 pp.2.2.2] 36 (0, 0))]) (by simp)
              generalize (w44.alloc (.cells #[.int .i64 n1.1, .int .i64 n1.2] 23)) = WW at *
              refine wp_cut_merge [none, none, none, none, none, none, none, none, none, none, none, none, none, none, some 14, some 15, some 16, some 17, some 18, some 19, some 20, some 21, some 22, none, none, none, none, none, none, none, none, none, some 32, some 33, some 34, some 35, some 36, some 37, some 38, some 39, some 40, some 41, some 42, some 43, some 44, some 45, some 46, some 47, some 48, some 49, some 50, some 51, some 52, some 53, some 54, some 55, some 56, some 57, some 58, some 59, some 60, some 61, some 62, some 63, some 64, some 65, some 66, some 67, some 68, some 69, some 70, some 71, some 72, some 73, some 74, some 75, some 76, some 77, some 78, some 79, some 80, some 81, some 82, some 83, some 84, some 85, some 86, some 87, some 88, some 89, some 90, some 91, some 92, some 93, some 94, some 95, some 96, some 97, some 98, some 99, some 100, some 101, some 102, some 103, some 104, some 105, some 106, some 107, some 108, some 109, some 110, some 111, some 112, some 113, some 114, some 115, some 116, some 117, some 118, some 119, some 120, some 121, some 122, some 123, some 124, some 125, some 126, some 127, some 128, some 129, some 130, some 131, some 132] (fun s wx => s 109 = .bool false ∧ Hid (Kv w wx [(w44.heap.size, .cells #[.int .i64 n1.1, .int .i64 n1.2] 23 (0, 0)), (w43.heap.size, .cells #[.int .i64 m1.1, .int .i64 m1.2] 23 (0, 0)), (D, vobj (vl vd)), (C, vobj (vl vc)), (B, vobj (vl p.2)), (A, vobj (vl p.1)), (g, pvObj prs), (w.heap.size + 1 + 1, .cells #[.int .u64 pq.1.1, .int .u64 pq.1.2, .int .u64 pq.2.1.1, .int .u64 pq.2.1.2, .int .u64 pq.2.2.1, .int .u64 pq.2.2.2] 36 (0, 0)), (w.heap.size + 1, .cells #[.int .u64 pp.1.1, .int .u64 pp.1.2, .int .u64 pp.2.1.1, .int .u64 pp.2.1.2, .int .u64 pp.2.2.1, .int .u64 pp.2.2.2] 36 (0, 0))])) ?_ ?_
              · intro Q2 hQ2
                by_cases he : n2 = 0
                · obtain ⟨h1, hw⟩ := HD.out he
                  obtain rfl : n2 = 0 := he
                  obtain rfl : m2 = 0 := h1
                  have cx230 := cell_two0 (hK.blk _ (List.Mem.tail _ (List.Mem.head _)))
                  have cx231 := cell_two1 (hK.blk _ (List.Mem.tail _ (List.Mem.head _)))
                  have lx23 := lt_of_block (hK.blk _ (List.Mem.tail _ (List.Mem.head _)))
                  have cx240 := cell_two0 (hK.blk _ (List.Mem.head _))
                  have cx241 := cell_two1 (hK.blk _ (List.Mem.head _))
                  have lx24 := lt_of_block (hK.blk _ (List.Mem.head _))
                  go_wp2_with fail
                  refine (law6_within hw.1 hw.2 _).mono ?_; rintro e w45 ⟨rfl, hb⟩
                  replace hK := hK.on hb
                  clear cx230 cx231 lx23 cx240 cx241 lx24 hb
                  go_wp2_with fail
                  exact merge_meet hQ2 (by kernel_rfl) ⟨rfl, Lib.hid hK⟩
                · go_wp2_with fail
                  exact merge_meet hQ2 (by kernel_rfl) ⟨rfl, Lib.hid hK⟩
              · rintro s wc ⟨e1, HE⟩
                simp only [mergeL, e1]
                clear e1
                replace hK := HE.out
                clear HE
                obtain ⟨cC0, cC1, cC2, cC3, cC4, cC5⟩ := vobj_six (hK.blk _ (List.Mem.tail _ (List.Mem.tail _ (List.Mem.tail _ (List.Mem.head _)))))
                have lC := lt_of_block (hK.blk _ (List.Mem.tail _ (List.Mem.tail _ (List.Mem.tail _ (List.Mem.head _)))))
                go_wp2_with fail
                refine (vNormK vc u1 u2 Hu.out _).mono ?_; rintro e w46 ⟨rfl, hb⟩
                replace hK := hK.on hb
                clear cC0 cC1 cC2 cC3 cC4 cC5 lC hb
                have cx230 := cell_two0 (hK.blk _ (List.Mem.tail _ (List.Mem.head _)))
                have cx231 := cell_two1 (hK.blk _ (List.Mem.tail _ (List.Mem.head _)))
                have lx23 := lt_of_block (hK.blk _ (List.Mem.tail _ (List.Mem.head _)))
                have fx230 := free_two (i := 0) (hK.blk _ (List.Mem.tail _ (List.Mem.head _)))
                have fx231 := free_two (i := 1) (hK.blk _ (List.Mem.tail _ (List.Mem.head _)))
                replace hK := hK.setb (cs := [(w44.heap.size, .cells #[.int .i64 n1.1, .int .i64 n1.2] 23 (0, 0)), (w43.heap.size, .cells #[.int .i64 u1.1, .int .i64 u1.2] 23 (0, 0)), (D, vobj (vl vd)), (C, vobj (vl vc)), (B, vobj (vl p.2)), (A, vobj (vl p.1)), (g, pvObj prs), (w.heap.size + 1 + 1, .cells #[.int .u64 pq.1.1, .int .u64 pq.1.2, .int .u64 pq.2.1.1, .int .u64 pq.2.1.2, .int .u64 pq.2.2.1, .int .u64 pq.2.2.2] 36 (0, 0)), (w.heap.size + 1, .cells #[.int .u64 pp.1.1, .int .u64 pp.1.2, .int .u64 pp.2.1.1, .int .u64 pp.2.1.2, .int .u64 pp.2.2.1, .int .u64 pp.2.2.2] 36 (0, 0))]) (List.Mem.tail _ (List.Mem.head _)) gx23 u1 (List.forall_mem_cons.2 ⟨.inr ⟨(List.Mem.head _), nx24_x23⟩, (List.forall_mem_cons.2 ⟨.inl rfl, (List.forall_mem_cons.2 ⟨.inr ⟨(List.Mem.tail _ (List.Mem.tail _ (List.Mem.head _))), (Ne.symm nx23_D)⟩, (List.forall_mem_cons.2 ⟨.inr ⟨(List.Mem.tail _ (List.Mem.tail _ (List.Mem.tail _ (List.Mem.head _)))), (Ne.symm nx23_C)⟩, (List.forall_mem_cons.2 ⟨.inr ⟨(List.Mem.tail _ (List.Mem.tail _ (List.Mem.tail _ (List.Mem.tail _ (List.Mem.head _))))), (Ne.symm nx23_B)⟩, (List.forall_mem_cons.2 ⟨.inr ⟨(List.Mem.tail _ (List.Mem.tail _ (List.Mem.tail _ (List.Mem.tail _ (List.Mem.tail _ (List.Mem.head _)))))), (Ne.symm nx23_A)⟩, (List.forall_mem_cons.2 ⟨.inr ⟨(List.Mem.tail _ (List.Mem.tail _ (List.Mem.tail _ (List.Mem.tail _ (List.Mem.tail _ (List.Mem.tail _ (List.Mem.head _))))))), (Ne.symm nx23_g)⟩, (List.forall_mem_cons.2 ⟨.inr ⟨(List.Mem.tail _ (List.Mem.tail _ (List.Mem.tail _ (List.Mem.tail _ (List.Mem.tail _ (List.Mem.tail _ (List.Mem.tail _ (List.Mem.head _)))))))), (Ne.symm nx23_q1)⟩, (List.forall_mem_cons.2 ⟨.inr ⟨(List.Mem.tail _ (List.Mem.tail _ (List.Mem.tail _ (List.Mem.tail _ (List.Mem.tail _ (List.Mem.tail _ (List.Mem.tail _ (List.Mem.tail _ (List.Mem.head _))))))))), (Ne.symm nx23_p1)⟩, (List.forall_mem_nil _)⟩)⟩)⟩)⟩)⟩)⟩)⟩)⟩)⟩)
                obtain ⟨cA0, cA1, cA2, cA3, cA4, cA5⟩ := vobj_six (hK.blk _ (List.Mem.tail _ (List.Mem.tail _ (List.Mem.tail _ (List.Mem.tail _ (List.Mem.tail _ (List.Mem.head _)))))))
                have lA := lt_of_block (hK.blk _ (List.Mem.tail _ (List.Mem.tail _ (List.Mem.tail _ (List.Mem.tail _ (List.Mem.tail _ (List.Mem.head _)))))))
                go_wp2_with fail
                refine (vNormK p.1 v1 v2 Hv.out _).mono ?_; rintro e w47 ⟨rfl, hb⟩
                replace hK := hK.on hb
                clear cx230 cx231 lx23 fx230 fx231 cA0 cA1 cA2 cA3 cA4 cA5 lA hb
                have cx240 := cell_two0 (hK.blk _ (List.Mem.head _))
                have cx241 := cell_two1 (hK.blk _ (List.Mem.head _))
                have lx24 := lt_of_block (hK.blk _ (List.Mem.head _))
                have fx240 := free_two (i := 0) (hK.blk _ (List.Mem.head _))
                have fx241 := free_two (i := 1) (hK.blk _ (List.Mem.head _))
                replace hK := hK.setb (cs := [(w44.heap.size, .cells #[.int .i64 v1.1, .int .i64 v1.2] 23 (0, 0)), (w43.heap.size, .cells #[.int .i64 u1.1, .int .i64 u1.2] 23 (0, 0)), (D, vobj (vl vd)), (C, vobj (vl vc)), (B, vobj (vl p.2)), (A, vobj (vl p.1)), (g, pvObj prs), (w.heap.size + 1 + 1, .cells #[.int .u64 pq.1.1, .int .u64 pq.1.2, .int .u64 pq.2.1.1, .int .u64 pq.2.1.2, .int .u64 pq.2.2.1, .int .u64 pq.2.2.2] 36 (0, 0)), (w.heap.size + 1, .cells #[.int .u64 pp.1.1, .int .u64 pp.1.2, .int .u64 pp.2.1.1, .int .u64 pp.2.1.2, .int .u64 pp.2.2.1, .int .u64 pp.2.2.2] 36 (0, 0))]) (List.Mem.head _) gx24 v1 (List.forall_mem_cons.2 ⟨.inl rfl, (List.forall_mem_cons.2 ⟨.inr ⟨(List.Mem.tail _ (List.Mem.head _)), (Ne.symm nx24_x23)⟩, (List.forall_mem_cons.2 ⟨.inr ⟨(List.Mem.tail _ (List.Mem.tail _ (List.Mem.head _))), (Ne.symm nx24_D)⟩, (List.forall_mem_cons.2 ⟨.inr ⟨(List.Mem.tail _ (List.Mem.tail _ (List.Mem.tail _ (List.Mem.head _)))), (Ne.symm nx24_C)⟩, (List.forall_mem_cons.2 ⟨.inr ⟨(List.Mem.tail _ (List.Mem.tail _ (List.Mem.tail _ (List.Mem.tail _ (List.Mem.head _))))), (Ne.symm nx24_B)⟩, (List.forall_mem_cons.2 ⟨.inr ⟨(List.Mem.tail _ (List.Mem.tail _ (List.Mem.tail _ (List.Mem.tail _ (List.Mem.tail _ (List.Mem.head _)))))), (Ne.symm nx24_A)⟩, (List.forall_mem_cons.2 ⟨.inr ⟨(List.Mem.tail _ (List.Mem.tail _ (List.Mem.tail _ (List.Mem.tail _ (List.Mem.tail _ (List.Mem.tail _ (List.Mem.head _))))))), (Ne.symm nx24_g)⟩, (List.forall_mem_cons.2 ⟨.inr ⟨(List.Mem.tail _ (List.Mem.tail _ (List.Mem.tail _ (List.Mem.tail _ (List.Mem.tail _ (List.Mem.tail _ (List.Mem.tail _ (List.Mem.head _)))))))), (Ne.symm nx24_q1)⟩, (List.forall_mem_cons.2 ⟨.inr ⟨(List.Mem.tail _ (List.Mem.tail _ (List.Mem.tail _ (List.Mem.tail _ (List.Mem.tail _ (List.Mem.tail _ (List.Mem.tail _ (List.Mem.tail _ (List.Mem.head _))))))))), (Ne.symm nx24_p1)⟩, (List.forall_mem_nil _)⟩)⟩)⟩)⟩)⟩)⟩)⟩)⟩)⟩)
                go_upto_region 26 with (fail)
                clear cx240 cx241 lx24 fx240 fx241
                replace hK := hK.sub (cs := [(w44.heap.size, .cells #[.int .i64 v1.1, .int .i64 v1.2] 23 (0, 0)), (w43.heap.size, .cells #[.int .i64 u1.1, .int .i64 u1.2] 23 (0, 0)), (D, vobj (vl vd)), (C, vobj (vl vc)), (B, vobj (vl p.2)), (A, vobj (vl p.1)), (g, pvObj prs), (w.heap.size + 1 + 1, .cells #[.int .u64 pq.1.1, .int .u64 pq.1.2, .int .u64 pq.2.1.1, .int .u64 pq.2.1.2, .int .u64 pq.2.2.1, .int .u64 pq.2.2.2] 36 (0, 0)), (w.heap.size + 1, .cells #[.int .u64 pp.1.1, .int .u64 pp.1.2, .int .u64 pp.2.1.1, .int .u64 pp.2.1.2, .int .u64 pp.2.2.1, .int .u64 pp.2.2.2] 36 (0, 0))]) (by simp)
                generalize ((w47.setCell ⟨w44.heap.size, 0, none⟩ (.int .i64 v1.1)).setCell ⟨w44.heap.size, 1, none⟩ (.int .i64 v1.2)) = WW at *
                refine wp_cut_merge [none, none, none, none, none, none, none, none, none, none, none, none, none, none, some 14, some 15, some 16, some 17, some 18, some 19, some 20, some 21, some 22, none, none, none, none, none, none, none, none, none, some 32, some 33, some 34, some 35, some 36, some 37, some 38, some 39, some 40, some 41, some 42, some 43, some 44, some 45, some 46, some 47, some 48, some 49, some 50, some 51, some 52, some 53, some 54, some 55, some 56, some 57, some 58, some 59, some 60, some 61, some 62, some 63, some 64, some 65, some 66, some 67, some 68, some 69, some 70, some 71, some 72, some 73, some 74, some 75, some 76, some 77, some 78, some 79, some 80, some 81, some 82, some 83, some 84, some 85, some 86, some 87, some 88, some 89, some 90, some 91, some 92, some 93, some 94, some 95, some 96, some 97, some 98, some 99, some 100, some 101, some 102, some 103, some 104, some 105, some 106, some 107, some 108, some 109, some 110, some 111, some 112, some 113, some 114, some 115, some 116, some 117, some 118, some 119, some 120, some 121, some 122, some 123, some 124, some 125, some 126, some 127, some 128, some 129, some 130, some 131, some 132] (fun s wx => s 131 = .bool false ∧ Hid (Kv w wx [(w44.heap.size, .cells #[.int .i64 v1.1, .int .i64 v1.2] 23 (0, 0)), (w43.heap.size, .cells #[.int .i64 u1.1, .int .i64 u1.2] 23 (0, 0)), (D, vobj (vl vd)), (C, vobj (vl vc)), (B, vobj (vl p.2)), (A, vobj (vl p.1)), (g, pvObj prs), (w.heap.size + 1 + 1, .cells #[.int .u64 pq.1.1, .int .u64 pq.1.2, .int .u64 pq.2.1.1, .int .u64 pq.2.1.2, .int .u64 pq.2.2.1, .int .u64 pq.2.2.2] 36 (0, 0)), (w.heap.size + 1, .cells #[.int .u64 pp.1.1, .int .u64 pp.1.2, .int .u64 pp.2.1.1, .int .u64 pp.2.1.2, .int .u64 pp.2.2.1, .int .u64 pp.2.2.2] 36 (0, 0))])) ?_ ?_
                · intro Q2 hQ2
                  by_cases he : v2 = 0
                  · obtain ⟨h1, hw⟩ := HM.out he
                    obtain rfl : v2 = 0 := he
                    obtain rfl : u2 = 0 := h1
                    have cx230 := cell_two0 (hK.blk _ (List.Mem.tail _ (List.Mem.head _)))
                    have cx231 := cell_two1 (hK.blk _ (List.Mem.tail _ (List.Mem.head _)))
                    have lx23 := lt_of_block (hK.blk _ (List.Mem.tail _ (List.Mem.head _)))
                    have cx240 := cell_two0 (hK.blk _ (List.Mem.head _))
                    have cx241 := cell_two1 (hK.blk _ (List.Mem.head _))
                    have lx24 := lt_of_block (hK.blk _ (List.Mem.head _))
                    go_wp2_with fail
                    refine (law6_within hw.1 hw.2 _).mono ?_; rintro e w48 ⟨rfl, hb⟩
                    replace hK := hK.on hb
                    clear cx230 cx231 lx23 cx240 cx241 lx24 hb
                    go_wp2_with fail
                    exact merge_meet hQ2 (by kernel_rfl) ⟨rfl, Lib.hid hK⟩
                  · go_wp2_with fail
                    exact merge_meet hQ2 (by kernel_rfl) ⟨rfl, Lib.hid hK⟩
                · rintro s wc ⟨e1, HE⟩
                  simp only [mergeL, e1]
                  clear e1
                  replace hK := HE.out
                  clear HE
                  go_wp2_with fail
                  go_roundw
                  case rel => exact ⟨k + 1, by omega, by go_num, Lib.hid (hK.sub (by simp))⟩
                  case measure => simp [intOf]; omega
    · obtain rfl : k = 2 := by omega
      go_wp2_with fail
      go_ret
      exact ⟨rfl, HA.out.bel⟩
end Go.Proofs.Ytmnccbhlllnlbaa.vecNarrows
