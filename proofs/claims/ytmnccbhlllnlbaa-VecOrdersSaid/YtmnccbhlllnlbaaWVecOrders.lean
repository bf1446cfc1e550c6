/- The walk of monoclelaw06.VecOrders. Printed by wip/genVL2.py. -/
import Derived.Deep.DeepCutAuto
import Derived.Deep.CutBlock
import Derived.Test.YtmnccbhlllnlbaaLawVS
import Derived.Test.YtmnccbhlllnlbaaVecLaw

namespace Go.Proofs.Ytmnccbhlllnlbaa.vecOrders
open Go.RowKit Mnc
attribute [local go_sem] RunS_value RunS_skip RunS_enter evS_tmp evS_const evS_global evS_func
structure OrA (W : World) (P : Nat) (p : V3 × V3) (L : Nat → Bool) (s : Nat → Value) (w : World) : Prop where
  bel : Below W.heap.size W w
  e0 : L 0 = true → s 31 = .pointer (some ⟨P, 0, none⟩)
  e1 : L 1 = true → s 32 = .agg #[.int .i64 p.1.1.1, .int .i64 p.1.1.2, .int .i64 p.1.2.1.1, .int .i64 p.1.2.1.2, .int .i64 p.1.2.2.1, .int .i64 p.1.2.2.2]
  e2 : L 2 = true → s 33 = .pointer (some ⟨P, 6, none⟩)
  e3 : L 3 = true → s 34 = .agg #[.int .i64 p.2.1.1, .int .i64 p.2.1.2, .int .i64 p.2.2.1.1, .int .i64 p.2.2.1.2, .int .i64 p.2.2.2.1, .int .i64 p.2.2.2.2]
  e4 : L 4 = true → BxV w W.heap.size (s 5) (L 6 = true) p.1
  e5 : L 5 = true → BxV w W.heap.size (s 6) (L 7 = true) p.2
  ne : L 4 = true → L 5 = true → s 5 ≠ s 6
  d6 : L 6 = true → L 4 = true
  d7 : L 7 = true → L 5 = true
set_option maxRecDepth 100000 in
set_option maxHeartbeats 16000000 in
theorem walk (T : Tv) (hT : T.ok) (w : World) :
    Calls Try.prog 4 #[T.val] w fun e w' => e = .returned (.bool true) ∧ Below w.heap.size w w' := by
  have hK := (Kv.start w).al T.obj (n := w.heap.size) rfl
  have HT := Lib.hid hT
  have HL := Lib.hid (fun k p (hk : k < 2) (hp : (pvs T)[k + 1]? = some p) => (show okV p.1 ∧ okV p.2 by
    obtain rfl | rfl : k = 0 ∨ k = 1 := by omega
    · obtain rfl := Option.some.inj hp; exact ⟨drV_ok hT.x, drS_ok hT.y⟩
    · obtain rfl := Option.some.inj hp; exact ⟨drS_ok hT.x, drS_ok hT.y⟩))
  clear hT
  unfold Tv.val
  go_enter Try.func4, Try.ntmps4
  go_wp2_with fail
  refine (law6_works _).mono ?_; rintro e w1 ⟨rfl, hb⟩
  replace hK := hK.on hb
  clear hb
  obtain ⟨dT, hdT, hrT⟩ := tv_desc
  have hl := tv_range (hK.blk _ (List.Mem.head _))
  go_upto_region 3 with (fail)
  refine wp_region_lit ?_
  refine wpList_load_mid rfl 32 _ rfl _ _ rfl _ _ hl hdT hrT (by kernel_rfl) ?_
  go_wp2_with fail
  refine (law6_pairs' T HT.out _).mono ?_; rintro e w2 ⟨⟨v, rfl, g, rfl, hg, hbl⟩, hb⟩
  have HS := Lib.hid (((hK.on hb).put (Below.refl _ _) hbl).sub (cs := [(g, pvObj (pvs T))]) (by simp))
  have HP : Hid (∀ k, k < 2 → ∃ p, (pvs T)[k + 1]? = some p) := Lib.hid fun k hk => ⟨_, List.getElem?_eq_getElem (show k + 1 < (pvs T).length by unfold pvs; simp only [List.length_cons, List.length_nil]; omega)⟩
  clear hK hb hl hdT hrT hg hbl
  generalize pvs T = prs at *
  go_wp2_with fail
  go_loopw [27] (fun i wr => ∃ k : Nat, k ≤ 2 ∧ i = .int .i64 k ∧ Hid (Kv w wr [(g, pvObj prs)])) (fun i _ => 2 - (intOf i).toNat)
  case atStart => exact ⟨0, by omega, rfl, HS⟩
  case round =>
    clear HS
    obtain ⟨k, hk, rfl, HA⟩ := hrel
    rcases Nat.lt_or_ge k 2 with hk' | hk'
    · obtain ⟨p, hp⟩ := HP.out k hk'
      have HO := Lib.hid (HL.out k p hk' hp)
      obtain ⟨c0, c1, c2, c3, c4, c5, c6, c7, c8, c9, c10, c11⟩ := pv_cells (k := 12 + k * 12) (HA.out.blk _ (List.Mem.head _)) hp (by omega)
      have lg := lt_of_block (HA.out.blk _ (List.Mem.head _))
      have HK := Lib.hid (HA.out.al (pvBox p) (n := wr.heap.size) rfl)
      clear hp
      go_upto_region 6 with (fail)
      clear c0 c1 c2 c3 c4 c5 c6 c7 c8 c9 c10 c11 lg
      have HPB := Lib.hid (HK.out.blk _ (List.Mem.head _))
      obtain ⟨W9, hW9⟩ : ∃ W9, W9 = wr.alloc (pvBox p) := ⟨_, rfl⟩
      obtain ⟨P9, hP9⟩ : ∃ P9, P9 = wr.heap.size := ⟨_, rfl⟩
      change Code.wp _ _ _ _ (wr.alloc (pvBox p))
      rw [← hW9, ← hP9] at HK HPB
      rw [← hW9, ← hP9]
      clear hW9 hP9
      go_cut [5, 6] (fun a b wx => ∃ A B : Nat, a = .pointer (some ⟨A, 0, none⟩) ∧ b = .pointer (some ⟨B, 0, none⟩) ∧ Hid (Kv w wx [(B, vobj (vl p.2)), (A, vobj (vl p.1)), (P9, pvBox p), (g, pvObj prs)]))
      case first =>
        refine wp_region_inv (OrA W9 P9 p) (by kernel_rfl) (by kernel_rfl) ?_ ?_ ?_
        · exact ⟨(Below.refl _ _).drew, fun h => absurd h Bool.false_ne_true, fun h => absurd h Bool.false_ne_true, fun h => absurd h Bool.false_ne_true, fun h => absurd h Bool.false_ne_true, fun h => absurd h Bool.false_ne_true, fun h => absurd h Bool.false_ne_true, fun h => absurd h Bool.false_ne_true, fun h => absurd h Bool.false_ne_true, fun h => absurd h Bool.false_ne_true⟩
        · refine AllS.consN 1 (some 31) rfl rfl ?_ (AllS.consN 2 (some 32) rfl rfl ?_ (AllS.consN 3 (some 33) rfl rfl ?_ (AllS.consN 4 (some 34) rfl rfl ?_ (AllS.consN 5 (some 5) rfl rfl ?_ (AllS.consN 6 (some 6) rfl rfl ?_ (AllS.consN 7 none rfl rfl ?_ (AllS.consN 8 none rfl rfl ?_ AllS.nil)))))))
          · intro L s w2 h hk hd hn
            have s4 : s 4 = _ := hk 4 (by kernel_rfl)
            refine stepS rfl fun K hK => ?_
            go_simp
            exact hK _ _ { h with e0 := fun _ => rfl }
          · intro L s w2 h hk hd hn
            have s31 := h.e0 hd.1
            obtain ⟨c0, c1, c2, c3, c4, c5, c6, c7, c8, c9, c10, c11⟩ := pvBox_all ((h.bel.block _ (lt_of_block HPB.out)).trans HPB.out)
            refine stepS rfl fun K hK => ?_
            go_simp
            exact hK _ _ { h with e1 := fun _ => rfl }
          · intro L s w2 h hk hd hn
            have s4 : s 4 = _ := hk 4 (by kernel_rfl)
            refine stepS rfl fun K hK => ?_
            go_simp
            exact hK _ _ { h with e2 := fun _ => rfl }
          · intro L s w2 h hk hd hn
            have s33 := h.e2 hd.1
            obtain ⟨c0, c1, c2, c3, c4, c5, c6, c7, c8, c9, c10, c11⟩ := pvBox_all ((h.bel.block _ (lt_of_block HPB.out)).trans HPB.out)
            refine stepS rfl fun K hK => ?_
            go_simp
            exact hK _ _ { h with e3 := fun _ => rfl }
          · intro L s w2 h hk hd hn
            refine stepS rfl fun K hK => ?_
            go_simp
            exact hK _ _ { h with bel := below_alloc h.bel _, e4 := fun _ => BxV.new h.bel.size (fun g => by rw [h.d6 g] at hn; cases hn), e5 := fun d => (h.e5 d).al _, ne := fun _ d => fun g => (h.e5 d).lt g.symm, d6 := fun _ => rfl }
          · intro L s w2 h hk hd hn
            refine stepS rfl fun K hK => ?_
            go_simp
            exact hK _ _ { h with bel := below_alloc h.bel _, e5 := fun _ => BxV.new h.bel.size (fun g => by rw [h.d7 g] at hn; cases hn), e4 := fun d => (h.e4 d).al _, ne := fun d _ => (h.e4 d).lt, d7 := fun _ => rfl }
          · intro L s w2 h hk hd hn
            obtain ⟨g, s5, hg, u, hu, -⟩ := h.e4 hd.1
            have s32 := h.e1 hd.2.1
            obtain ⟨c0, c1, c2, c3, c4, c5⟩ := vobj_six hu
            have f0 := vobj_free hu 0
            have f1 := vobj_free hu 1
            have f2 := vobj_free hu 2
            have f3 := vobj_free hu 3
            have f4 := vobj_free hu 4
            have f5 := vobj_free hu 5
            have l := lt_of_block hu
            refine stepS rfl fun K hK => ?_
            go_simp
            exact hK _ _ { h with bel := bel6 h.bel hg _ _ _ _ _ _, e4 := fun _ => ⟨g, s5, hg, p.1, same6 hu p.1, fun _ => rfl⟩, e5 := fun d => (h.e5 d).set (by rw [← s5]; exact (h.ne hd.1 d).symm), d6 := fun _ => hd.1 }
          · intro L s w2 h hk hd hn
            obtain ⟨g, s6, hg, u, hu, -⟩ := h.e5 hd.1
            have s34 := h.e3 hd.2.1
            obtain ⟨c0, c1, c2, c3, c4, c5⟩ := vobj_six hu
            have f0 := vobj_free hu 0
            have f1 := vobj_free hu 1
            have f2 := vobj_free hu 2
            have f3 := vobj_free hu 3
            have f4 := vobj_free hu 4
            have f5 := vobj_free hu 5
            have l := lt_of_block hu
            refine stepS rfl fun K hK => ?_
            go_simp
            exact hK _ _ { h with bel := bel6 h.bel hg _ _ _ _ _ _, e5 := fun _ => ⟨g, s6, hg, p.2, same6 hu p.2, fun _ => rfl⟩, e4 := fun d => (h.e4 d).set (by rw [← s6]; exact h.ne d hd.1), d7 := fun _ => hd.1 }
        · intro L s w2 h hk hl
          obtain ⟨ga, sa, ha1, ua, ha2, za⟩ := h.e4 (hl 4 (by decide))
          obtain rfl := za (hl 6 (by decide))
          obtain ⟨gb, sb, hb1, ub, hb2, zb⟩ := h.e5 (hl 5 (by decide))
          obtain rfl := zb (hl 7 (by decide))
          rename_i J K' hR hM
          refine hM _ _ (Met.intro (hR _ _ ?_))
          repeat apply Exists.intro
          refine ⟨⟨ga, gb, sa, sb, Lib.hid ⟨(HK.out.on h.bel).bel, fun q hq => by
            rcases List.mem_cons.1 hq with rfl | hq
            · exact hb2
            rcases List.mem_cons.1 hq with rfl | hq
            · exact ha2
            exact (HK.out.on h.bel).blk q hq⟩⟩, ?_⟩
          refine congrArg (fun l => (⟨List.toArray l, []⟩ : Act)) ?_
          show [s 0, s 1, s 2, s 3, s 4, s 5, s 6, s 7, s 8, s 9, s 10, s 11, s 12, s 13, s 14, s 15, s 16, s 17, s 18, s 19, s 20, s 21, s 22, s 23, s 24, s 25, s 26, s 27, s 28, s 29, s 30, s 31, s 32, s 33, s 34, s 35, s 36, s 37, s 38, s 39, s 40, s 41, s 42, s 43, s 44, s 45, s 46, s 47, s 48, s 49, s 50, s 51, s 52, s 53, s 54, s 55, s 56, s 57, s 58, s 59, s 60, s 61, s 62, s 63, s 64, s 65, s 66, s 67, s 68, s 69, s 70, s 71, s 72, s 73, s 74, s 75, s 76, s 77, s 78, s 79, s 80, s 81, s 82, s 83, s 84, s 85, s 86, s 87, s 88, s 89, s 90, s 91, s 92, s 93, s 94, s 95, s 96, s 97, s 98, s 99, s 100, s 101, s 102, s 103, s 104, s 105, s 106, s 107, s 108, s 109, s 110, s 111, s 112, s 113, s 114, s 115, s 116, s 117, s 118, s 119, s 120, s 121, s 122, s 123, s 124, s 125, s 126, s 127, s 128, s 129, s 130, s 131, s 132, s 133, s 134, s 135, s 136, s 137, s 138, s 139, s 140, s 141, s 142] = _
          exact lc (hk 0 (by kernel_rfl)) (lc (hk 1 (by kernel_rfl)) (lc (hk 2 (by kernel_rfl)) (lc (hk 3 (by kernel_rfl)) (lc (hk 4 (by kernel_rfl)) (lc rfl (lc rfl (lc (hk 7 (by kernel_rfl)) (lc (hk 8 (by kernel_rfl)) (lc (hk 9 (by kernel_rfl)) (lc (hk 10 (by kernel_rfl)) (lc (hk 11 (by kernel_rfl)) (lc (hk 12 (by kernel_rfl)) (lc (hk 13 (by kernel_rfl)) (lc (hk 14 (by kernel_rfl)) (lc (hk 15 (by kernel_rfl)) (lc (hk 16 (by kernel_rfl)) (lc (hk 17 (by kernel_rfl)) (lc (hk 18 (by kernel_rfl)) (lc (hk 19 (by kernel_rfl)) (lc (hk 20 (by kernel_rfl)) (lc (hk 21 (by kernel_rfl)) (lc (hk 22 (by kernel_rfl)) (lc (hk 23 (by kernel_rfl)) (lc (hk 24 (by kernel_rfl)) (lc (hk 25 (by kernel_rfl)) (lc (hk 26 (by kernel_rfl)) (lc (hk 27 (by kernel_rfl)) (lc (hk 28 (by kernel_rfl)) (lc (hk 29 (by kernel_rfl)) (lc (hk 30 (by kernel_rfl)) (lc rfl (lc rfl (lc rfl (lc rfl (lc (hk 35 (by kernel_rfl)) (lc (hk 36 (by kernel_rfl)) (lc (hk 37 (by kernel_rfl)) (lc (hk 38 (by kernel_rfl)) (lc (hk 39 (by kernel_rfl)) (lc (hk 40 (by kernel_rfl)) (lc (hk 41 (by kernel_rfl)) (lc (hk 42 (by kernel_rfl)) (lc (hk 43 (by kernel_rfl)) (lc (hk 44 (by kernel_rfl)) (lc (hk 45 (by kernel_rfl)) (lc (hk 46 (by kernel_rfl)) (lc (hk 47 (by kernel_rfl)) (lc (hk 48 (by kernel_rfl)) (lc (hk 49 (by kernel_rfl)) (lc (hk 50 (by kernel_rfl)) (lc (hk 51 (by kernel_rfl)) (lc (hk 52 (by kernel_rfl)) (lc (hk 53 (by kernel_rfl)) (lc (hk 54 (by kernel_rfl)) (lc (hk 55 (by kernel_rfl)) (lc (hk 56 (by kernel_rfl)) (lc (hk 57 (by kernel_rfl)) (lc (hk 58 (by kernel_rfl)) (lc (hk 59 (by kernel_rfl)) (lc (hk 60 (by kernel_rfl)) (lc (hk 61 (by kernel_rfl)) (lc (hk 62 (by kernel_rfl)) (lc (hk 63 (by kernel_rfl)) (lc (hk 64 (by kernel_rfl)) (lc (hk 65 (by kernel_rfl)) (lc (hk 66 (by kernel_rfl)) (lc (hk 67 (by kernel_rfl)) (lc (hk 68 (by kernel_rfl)) (lc (hk 69 (by kernel_rfl)) (lc (hk 70 (by kernel_rfl)) (lc (hk 71 (by kernel_rfl)) (lc (hk 72 (by kernel_rfl)) (lc (hk 73 (by kernel_rfl)) (lc (hk 74 (by kernel_rfl)) (lc (hk 75 (by kernel_rfl)) (lc (hk 76 (by kernel_rfl)) (lc (hk 77 (by kernel_rfl)) (lc (hk 78 (by kernel_rfl)) (lc (hk 79 (by kernel_rfl)) (lc (hk 80 (by kernel_rfl)) (lc (hk 81 (by kernel_rfl)) (lc (hk 82 (by kernel_rfl)) (lc (hk 83 (by kernel_rfl)) (lc (hk 84 (by kernel_rfl)) (lc (hk 85 (by kernel_rfl)) (lc (hk 86 (by kernel_rfl)) (lc (hk 87 (by kernel_rfl)) (lc (hk 88 (by kernel_rfl)) (lc (hk 89 (by kernel_rfl)) (lc (hk 90 (by kernel_rfl)) (lc (hk 91 (by kernel_rfl)) (lc (hk 92 (by kernel_rfl)) (lc (hk 93 (by kernel_rfl)) (lc (hk 94 (by kernel_rfl)) (lc (hk 95 (by kernel_rfl)) (lc (hk 96 (by kernel_rfl)) (lc (hk 97 (by kernel_rfl)) (lc (hk 98 (by kernel_rfl)) (lc (hk 99 (by kernel_rfl)) (lc (hk 100 (by kernel_rfl)) (lc (hk 101 (by kernel_rfl)) (lc (hk 102 (by kernel_rfl)) (lc (hk 103 (by kernel_rfl)) (lc (hk 104 (by kernel_rfl)) (lc (hk 105 (by kernel_rfl)) (lc (hk 106 (by kernel_rfl)) (lc (hk 107 (by kernel_rfl)) (lc (hk 108 (by kernel_rfl)) (lc (hk 109 (by kernel_rfl)) (lc (hk 110 (by kernel_rfl)) (lc (hk 111 (by kernel_rfl)) (lc (hk 112 (by kernel_rfl)) (lc (hk 113 (by kernel_rfl)) (lc (hk 114 (by kernel_rfl)) (lc (hk 115 (by kernel_rfl)) (lc (hk 116 (by kernel_rfl)) (lc (hk 117 (by kernel_rfl)) (lc (hk 118 (by kernel_rfl)) (lc (hk 119 (by kernel_rfl)) (lc (hk 120 (by kernel_rfl)) (lc (hk 121 (by kernel_rfl)) (lc (hk 122 (by kernel_rfl)) (lc (hk 123 (by kernel_rfl)) (lc (hk 124 (by kernel_rfl)) (lc (hk 125 (by kernel_rfl)) (lc (hk 126 (by kernel_rfl)) (lc (hk 127 (by kernel_rfl)) (lc (hk 128 (by kernel_rfl)) (lc (hk 129 (by kernel_rfl)) (lc (hk 130 (by kernel_rfl)) (lc (hk 131 (by kernel_rfl)) (lc (hk 132 (by kernel_rfl)) (lc (hk 133 (by kernel_rfl)) (lc (hk 134 (by kernel_rfl)) (lc (hk 135 (by kernel_rfl)) (lc (hk 136 (by kernel_rfl)) (lc (hk 137 (by kernel_rfl)) (lc (hk 138 (by kernel_rfl)) (lc (hk 139 (by kernel_rfl)) (lc (hk 140 (by kernel_rfl)) (lc (hk 141 (by kernel_rfl)) (lc (hk 142 (by kernel_rfl)) rfl))))))))))))))))))))))))))))))))))))))))))))))))))))))))))))))))))))))))))))))))))))))))))))))))))))))))))))))))))))))))))))))))))))))))))))))
      case rest =>
        obtain ⟨A, B, rfl, rfl, HB⟩ := hcut
        clear HK HPB
        have hK := HB.out
        clear HB
        obtain ⟨s, Hs⟩ : ∃ r, Hid (vAdd p.1 p.2 = r) := ⟨_, Lib.hid rfl⟩
        obtain ⟨d, Hd⟩ : ∃ r, Hid (vDot p.1 p.2 = r) := ⟨_, Lib.hid rfl⟩
        have Hs2 : Hid (vAdd p.2 p.1 = s) := Lib.hid ((vAdd_comm HO.out.2 HO.out.1).trans Hs.out)
        have Hd2 : Hid (vDot p.2 p.1 = d) := Lib.hid ((vDot_comm HO.out.2 HO.out.1).trans Hd.out)
        obtain ⟨cA0, cA1, cA2, cA3, cA4, cA5⟩ := vobj_six (hK.blk _ (List.Mem.tail _ (List.Mem.head _)))
        have lA := lt_of_block (hK.blk _ (List.Mem.tail _ (List.Mem.head _)))
        obtain ⟨cB0, cB1, cB2, cB3, cB4, cB5⟩ := vobj_six (hK.blk _ (List.Mem.head _))
        have lB := lt_of_block (hK.blk _ (List.Mem.head _))
        go_wp2_with fail
        refine (vAddK p.1 p.2 s.1 s.2 Hs.out _).mono ?_; rintro e w1 ⟨rfl, hb⟩
        replace hK := hK.on hb
        clear cA0 cA1 cA2 cA3 cA4 cA5 lA cB0 cB1 cB2 cB3 cB4 cB5 lB hb
        have gx7 : w.heap.size ≤ w1.heap.size := by have h := hK.bel.size; first | exact h | (simp at h; omega)
        have nx7_g : w1.heap.size ≠ g := by have h := lt_of_block (hK.blk _ (List.Mem.tail _ (List.Mem.tail _ (List.Mem.tail _ (List.Mem.head _))))); first | exact Nat.ne_of_gt h | (simp at h; omega)
        have nx7_P : w1.heap.size ≠ P9 := by have h := lt_of_block (hK.blk _ (List.Mem.tail _ (List.Mem.tail _ (List.Mem.head _)))); first | exact Nat.ne_of_gt h | (simp at h; omega)
        have nx7_A : w1.heap.size ≠ A := by have h := lt_of_block (hK.blk _ (List.Mem.tail _ (List.Mem.head _))); first | exact Nat.ne_of_gt h | (simp at h; omega)
        have nx7_B : w1.heap.size ≠ B := by have h := lt_of_block (hK.blk _ (List.Mem.head _)); first | exact Nat.ne_of_gt h | (simp at h; omega)
        replace hK : Kv w (w1.alloc (.cells #[.int .i64 s.1.1.1, .int .i64 s.1.1.2, .int .i64 s.1.2.1.1, .int .i64 s.1.2.1.2, .int .i64 s.1.2.2.1, .int .i64 s.1.2.2.2] 25)) [(w1.heap.size, vobj (vl s.1)), (B, vobj (vl p.2)), (A, vobj (vl p.1)), (P9, pvBox p), (g, pvObj prs)] := hK.al (vobj (vl s.1)) (n := w1.heap.size) (by simp)
        obtain ⟨cB0, cB1, cB2, cB3, cB4, cB5⟩ := vobj_six (hK.blk _ (List.Mem.tail _ (List.Mem.head _)))
        have lB := lt_of_block (hK.blk _ (List.Mem.tail _ (List.Mem.head _)))
        obtain ⟨cA0, cA1, cA2, cA3, cA4, cA5⟩ := vobj_six (hK.blk _ (List.Mem.tail _ (List.Mem.tail _ (List.Mem.head _))))
        have lA := lt_of_block (hK.blk _ (List.Mem.tail _ (List.Mem.tail _ (List.Mem.head _))))
        go_wp2_with fail
        refine (vAddK p.2 p.1 s.1 s.2 Hs2.out _).mono ?_; rintro e w2 ⟨rfl, hb⟩
        replace hK := hK.on hb
        clear cB0 cB1 cB2 cB3 cB4 cB5 lB cA0 cA1 cA2 cA3 cA4 cA5 lA hb
        have gx9 : w.heap.size ≤ w2.heap.size := by have h := hK.bel.size; first | exact h | (simp at h; omega)
        have nx9_g : w2.heap.size ≠ g := by have h := lt_of_block (hK.blk _ (List.Mem.tail _ (List.Mem.tail _ (List.Mem.tail _ (List.Mem.tail _ (List.Mem.head _)))))); first | exact Nat.ne_of_gt h | (simp at h; omega)
        have nx9_P : w2.heap.size ≠ P9 := by have h := lt_of_block (hK.blk _ (List.Mem.tail _ (List.Mem.tail _ (List.Mem.tail _ (List.Mem.head _))))); first | exact Nat.ne_of_gt h | (simp at h; omega)
        have nx9_A : w2.heap.size ≠ A := by have h := lt_of_block (hK.blk _ (List.Mem.tail _ (List.Mem.tail _ (List.Mem.head _)))); first | exact Nat.ne_of_gt h | (simp at h; omega)
        have nx9_B : w2.heap.size ≠ B := by have h := lt_of_block (hK.blk _ (List.Mem.tail _ (List.Mem.head _))); first | exact Nat.ne_of_gt h | (simp at h; omega)
        have nx9_x7 : w2.heap.size ≠ w1.heap.size := by have h := lt_of_block (hK.blk _ (List.Mem.head _)); first | exact Nat.ne_of_gt h | (simp at h; omega)
        replace hK : Kv w (w2.alloc (.cells #[.int .i64 s.1.1.1, .int .i64 s.1.1.2, .int .i64 s.1.2.1.1, .int .i64 s.1.2.1.2, .int .i64 s.1.2.2.1, .int .i64 s.1.2.2.2] 25)) [(w2.heap.size, vobj (vl s.1)), (w1.heap.size, vobj (vl s.1)), (B, vobj (vl p.2)), (A, vobj (vl p.1)), (P9, pvBox p), (g, pvObj prs)] := hK.al (vobj (vl s.1)) (n := w2.heap.size) (by simp)
        obtain ⟨cx70, cx71, cx72, cx73, cx74, cx75⟩ := vobj_six (hK.blk _ (List.Mem.tail _ (List.Mem.head _)))
        have lx7 := lt_of_block (hK.blk _ (List.Mem.tail _ (List.Mem.head _)))
        obtain ⟨cx90, cx91, cx92, cx93, cx94, cx95⟩ := vobj_six (hK.blk _ (List.Mem.head _))
        have lx9 := lt_of_block (hK.blk _ (List.Mem.head _))
        have hq9_2 : ∀ W, (Op.equalIn 10000 25 (.agg #[.int .i64 s.1.1.1, .int .i64 s.1.1.2, .int .i64 s.1.2.1.1, .int .i64 s.1.2.1.2, .int .i64 s.1.2.2.1, .int .i64 s.1.2.2.2]) (.agg #[.int .i64 s.1.1.1, .int .i64 s.1.1.2, .int .i64 s.1.2.1.1, .int .i64 s.1.2.1.2, .int .i64 s.1.2.2.1, .int .i64 s.1.2.2.2])).run Try.prog W = .ok true W := fun W => (eqlV s.1 s.1 W).trans (by simp)
        obtain ⟨cA0, cA1, cA2, cA3, cA4, cA5⟩ := vobj_six (hK.blk _ (List.Mem.tail _ (List.Mem.tail _ (List.Mem.tail _ (List.Mem.head _)))))
        have lA := lt_of_block (hK.blk _ (List.Mem.tail _ (List.Mem.tail _ (List.Mem.tail _ (List.Mem.head _)))))
        obtain ⟨cB0, cB1, cB2, cB3, cB4, cB5⟩ := vobj_six (hK.blk _ (List.Mem.tail _ (List.Mem.tail _ (List.Mem.head _))))
        have lB := lt_of_block (hK.blk _ (List.Mem.tail _ (List.Mem.tail _ (List.Mem.head _))))
        go_wp2_with fail
        refine (vDotK p.1 p.2 d.1 d.2 Hd.out _).mono ?_; rintro e w3 ⟨rfl, hb⟩
        replace hK := hK.on hb
        clear cx70 cx71 cx72 cx73 cx74 cx75 lx7 cx90 cx91 cx92 cx93 cx94 cx95 lx9 hq9_2 cA0 cA1 cA2 cA3 cA4 cA5 lA cB0 cB1 cB2 cB3 cB4 cB5 lB hb
        have nx11_x7 : w3.heap.size ≠ w1.heap.size := by have h := lt_of_block (hK.blk _ (List.Mem.tail _ (List.Mem.head _))); first | exact Nat.ne_of_gt h | (simp at h; omega)
        have nx11_x9 : w3.heap.size ≠ w2.heap.size := by have h := lt_of_block (hK.blk _ (List.Mem.head _)); first | exact Nat.ne_of_gt h | (simp at h; omega)
        replace hK : Kv w (w3.alloc (.cells #[.int .i64 d.1.1, .int .i64 d.1.2] 23)) [(w3.heap.size, .cells #[.int .i64 d.1.1, .int .i64 d.1.2] 23 (0, 0)), (w2.heap.size, vobj (vl s.1)), (w1.heap.size, vobj (vl s.1)), (B, vobj (vl p.2)), (A, vobj (vl p.1)), (P9, pvBox p), (g, pvObj prs)] := hK.al (.cells #[.int .i64 d.1.1, .int .i64 d.1.2] 23 (0, 0)) (n := w3.heap.size) (by simp)
        obtain ⟨cB0, cB1, cB2, cB3, cB4, cB5⟩ := vobj_six (hK.blk _ (List.Mem.tail _ (List.Mem.tail _ (List.Mem.tail _ (List.Mem.head _)))))
        have lB := lt_of_block (hK.blk _ (List.Mem.tail _ (List.Mem.tail _ (List.Mem.tail _ (List.Mem.head _)))))
        obtain ⟨cA0, cA1, cA2, cA3, cA4, cA5⟩ := vobj_six (hK.blk _ (List.Mem.tail _ (List.Mem.tail _ (List.Mem.tail _ (List.Mem.tail _ (List.Mem.head _))))))
        have lA := lt_of_block (hK.blk _ (List.Mem.tail _ (List.Mem.tail _ (List.Mem.tail _ (List.Mem.tail _ (List.Mem.head _))))))
        go_wp2_with fail
        refine (vDotK p.2 p.1 d.1 d.2 Hd2.out _).mono ?_; rintro e w4 ⟨rfl, hb⟩
        replace hK := hK.on hb
        clear cB0 cB1 cB2 cB3 cB4 cB5 lB cA0 cA1 cA2 cA3 cA4 cA5 lA hb
        have nx13_x7 : w4.heap.size ≠ w1.heap.size := by have h := lt_of_block (hK.blk _ (List.Mem.tail _ (List.Mem.tail _ (List.Mem.head _)))); first | exact Nat.ne_of_gt h | (simp at h; omega)
        have nx13_x9 : w4.heap.size ≠ w2.heap.size := by have h := lt_of_block (hK.blk _ (List.Mem.tail _ (List.Mem.head _))); first | exact Nat.ne_of_gt h | (simp at h; omega)
        replace hK : Kv w (w4.alloc (.cells #[.int .i64 d.1.1, .int .i64 d.1.2] 23)) [(w4.heap.size, .cells #[.int .i64 d.1.1, .int .i64 d.1.2] 23 (0, 0)), (w3.heap.size, .cells #[.int .i64 d.1.1, .int .i64 d.1.2] 23 (0, 0)), (w2.heap.size, vobj (vl s.1)), (w1.heap.size, vobj (vl s.1)), (B, vobj (vl p.2)), (A, vobj (vl p.1)), (P9, pvBox p), (g, pvObj prs)] := hK.al (.cells #[.int .i64 d.1.1, .int .i64 d.1.2] 23 (0, 0)) (n := w4.heap.size) (by simp)
        have cx110 := cell_two0 (hK.blk _ (List.Mem.tail _ (List.Mem.head _)))
        have cx111 := cell_two1 (hK.blk _ (List.Mem.tail _ (List.Mem.head _)))
        have lx11 := lt_of_block (hK.blk _ (List.Mem.tail _ (List.Mem.head _)))
        have cx130 := cell_two0 (hK.blk _ (List.Mem.head _))
        have cx131 := cell_two1 (hK.blk _ (List.Mem.head _))
        have lx13 := lt_of_block (hK.blk _ (List.Mem.head _))
        go_wp2_with fail
        have HI := Lib.hid (hK.sub (cs := [(w2.heap.size, vobj (vl s.1)), (w1.heap.size, vobj (vl s.1)), (B, vobj (vl p.2)), (A, vobj (vl p.1)), (g, pvObj prs)]) (by simp))
        clear hK
        go_loopw [76] (fun i wx => ∃ (j : Nat) (S0 R0 : V3), j ≤ 2 ∧ i = .int .i64 j ∧ Hid (Kv w wx [(w2.heap.size, vobj (vl R0)), (w1.heap.size, vobj (vl S0)), (B, vobj (vl p.2)), (A, vobj (vl p.1)), (g, pvObj prs)])) (fun i _ => 2 - (intOf i).toNat)
        case atStart => exact ⟨0, s.1, s.1, by omega, rfl, HI⟩
        case round =>
          clear HI Hs Hs2 Hd Hd2
          obtain ⟨j, S0, R0, hj, rfl, HI⟩ := hrel
          rcases Nat.lt_or_ge j 2 with hj' | hj'
          · have hK := HI.out
            clear HI
            obtain rfl | rfl : j = 0 ∨ j = 1 := by omega
            · obtain ⟨u, Hu⟩ : ∃ r, Hid (vSub p.1 p.2 = r) := ⟨_, Lib.hid rfl⟩
              obtain ⟨t1, t2, Ht⟩ : ∃ a b, Hid (vSub p.2 p.1 = (a, b)) := ⟨_, _, Lib.hid rfl⟩
              have h := turns_sub HO.out.1 HO.out.2
              have h1 := h.err
              have h2 := h.ok
              have h3 := h.neg
              rw [Hu.out, Ht.out] at h1 h3
              rw [Ht.out] at h2
              dsimp only at h1 h2 h3
              obtain rfl : t2 = u.2 := h1.symm
              have Hn := Lib.hid (vNeg_ok h2)
              clear h h1 h2
              generalize ngV t1 = m at *
              by_cases he : u.2 = 0
              · obtain rfl : m = u.1 := h3 he
                have q0 : (u.2 == 0) = true := by simp [he]
                clear h3 he
                have hpk : ∀ W, (Instr.index 53 (.agg #[.func (.func 11) #[] #[], .func (.func 12) #[] #[]]) (.int .i64 0)).run Try.prog W = .ok (.func (.func 11) #[] #[]) W := fun W => by kernel_rfl
                obtain ⟨cA0, cA1, cA2, cA3, cA4, cA5⟩ := vobj_six (hK.blk _ (List.Mem.tail _ (List.Mem.tail _ (List.Mem.tail _ (List.Mem.head _)))))
                have lA := lt_of_block (hK.blk _ (List.Mem.tail _ (List.Mem.tail _ (List.Mem.tail _ (List.Mem.head _)))))
                obtain ⟨cB0, cB1, cB2, cB3, cB4, cB5⟩ := vobj_six (hK.blk _ (List.Mem.tail _ (List.Mem.tail _ (List.Mem.head _))))
                have lB := lt_of_block (hK.blk _ (List.Mem.tail _ (List.Mem.tail _ (List.Mem.head _))))
                go_wp2_with fail
                refine (vSubK p.1 p.2 u.1 u.2 Hu.out _).mono ?_; rintro e w20 ⟨rfl, hb⟩
                replace hK := hK.on hb
                clear hpk cA0 cA1 cA2 cA3 cA4 cA5 lA cB0 cB1 cB2 cB3 cB4 cB5 lB hb
                obtain ⟨cx70, cx71, cx72, cx73, cx74, cx75⟩ := vobj_six (hK.blk _ (List.Mem.tail _ (List.Mem.head _)))
                have lx7 := lt_of_block (hK.blk _ (List.Mem.tail _ (List.Mem.head _)))
                have fx70 := vobj_free (hK.blk _ (List.Mem.tail _ (List.Mem.head _))) 0
                have fx71 := vobj_free (hK.blk _ (List.Mem.tail _ (List.Mem.head _))) 1
                have fx72 := vobj_free (hK.blk _ (List.Mem.tail _ (List.Mem.head _))) 2
                have fx73 := vobj_free (hK.blk _ (List.Mem.tail _ (List.Mem.head _))) 3
                have fx74 := vobj_free (hK.blk _ (List.Mem.tail _ (List.Mem.head _))) 4
                have fx75 := vobj_free (hK.blk _ (List.Mem.tail _ (List.Mem.head _))) 5
                replace hK := hK.seta (cs := [(w2.heap.size, vobj (vl R0)), (w1.heap.size, vobj (vl u.1)), (B, vobj (vl p.2)), (A, vobj (vl p.1)), (g, pvObj prs)]) (List.Mem.tail _ (List.Mem.head _)) gx7 u.1 (List.forall_mem_cons.2 ⟨.inr ⟨(List.Mem.head _), nx9_x7⟩, (List.forall_mem_cons.2 ⟨.inl rfl, (List.forall_mem_cons.2 ⟨.inr ⟨(List.Mem.tail _ (List.Mem.tail _ (List.Mem.head _))), (Ne.symm nx7_B)⟩, (List.forall_mem_cons.2 ⟨.inr ⟨(List.Mem.tail _ (List.Mem.tail _ (List.Mem.tail _ (List.Mem.head _)))), (Ne.symm nx7_A)⟩, (List.forall_mem_cons.2 ⟨.inr ⟨(List.Mem.tail _ (List.Mem.tail _ (List.Mem.tail _ (List.Mem.tail _ (List.Mem.head _))))), (Ne.symm nx7_g)⟩, (List.forall_mem_nil _)⟩)⟩)⟩)⟩)⟩)
                obtain ⟨cB0, cB1, cB2, cB3, cB4, cB5⟩ := vobj_six (hK.blk _ (List.Mem.tail _ (List.Mem.tail _ (List.Mem.head _))))
                have lB := lt_of_block (hK.blk _ (List.Mem.tail _ (List.Mem.tail _ (List.Mem.head _))))
                obtain ⟨cA0, cA1, cA2, cA3, cA4, cA5⟩ := vobj_six (hK.blk _ (List.Mem.tail _ (List.Mem.tail _ (List.Mem.tail _ (List.Mem.head _)))))
                have lA := lt_of_block (hK.blk _ (List.Mem.tail _ (List.Mem.tail _ (List.Mem.tail _ (List.Mem.head _)))))
                go_wp2_with fail
                refine (vSubK p.2 p.1 t1 u.2 Ht.out _).mono ?_; rintro e w21 ⟨rfl, hb⟩
                replace hK := hK.on hb
                clear cx70 cx71 cx72 cx73 cx74 cx75 lx7 fx70 fx71 fx72 fx73 fx74 fx75 cB0 cB1 cB2 cB3 cB4 cB5 lB cA0 cA1 cA2 cA3 cA4 cA5 lA hb
                obtain ⟨cx90, cx91, cx92, cx93, cx94, cx95⟩ := vobj_six (hK.blk _ (List.Mem.head _))
                have lx9 := lt_of_block (hK.blk _ (List.Mem.head _))
                have fx90 := vobj_free (hK.blk _ (List.Mem.head _)) 0
                have fx91 := vobj_free (hK.blk _ (List.Mem.head _)) 1
                have fx92 := vobj_free (hK.blk _ (List.Mem.head _)) 2
                have fx93 := vobj_free (hK.blk _ (List.Mem.head _)) 3
                have fx94 := vobj_free (hK.blk _ (List.Mem.head _)) 4
                have fx95 := vobj_free (hK.blk _ (List.Mem.head _)) 5
                replace hK := hK.seta (cs := [(w2.heap.size, vobj (vl t1)), (w1.heap.size, vobj (vl u.1)), (B, vobj (vl p.2)), (A, vobj (vl p.1)), (g, pvObj prs)]) (List.Mem.head _) gx9 t1 (List.forall_mem_cons.2 ⟨.inl rfl, (List.forall_mem_cons.2 ⟨.inr ⟨(List.Mem.tail _ (List.Mem.head _)), (Ne.symm nx9_x7)⟩, (List.forall_mem_cons.2 ⟨.inr ⟨(List.Mem.tail _ (List.Mem.tail _ (List.Mem.head _))), (Ne.symm nx9_B)⟩, (List.forall_mem_cons.2 ⟨.inr ⟨(List.Mem.tail _ (List.Mem.tail _ (List.Mem.tail _ (List.Mem.head _)))), (Ne.symm nx9_A)⟩, (List.forall_mem_cons.2 ⟨.inr ⟨(List.Mem.tail _ (List.Mem.tail _ (List.Mem.tail _ (List.Mem.tail _ (List.Mem.head _))))), (Ne.symm nx9_g)⟩, (List.forall_mem_nil _)⟩)⟩)⟩)⟩)⟩)
                obtain ⟨cx90, cx91, cx92, cx93, cx94, cx95⟩ := vobj_six (hK.blk _ (List.Mem.head _))
                have lx9 := lt_of_block (hK.blk _ (List.Mem.head _))
                go_wp2_with fail
                refine (vNegK t1 u.1 0 Hn.out _).mono ?_; rintro e w22 ⟨rfl, hb⟩
                replace hK := hK.on hb
                clear cx90 cx91 cx92 cx93 cx94 cx95 lx9 fx90 fx91 fx92 fx93 fx94 fx95 hb
                have nx17_x7 : w22.heap.size ≠ w1.heap.size := by have h := lt_of_block (hK.blk _ (List.Mem.tail _ (List.Mem.head _))); first | exact Nat.ne_of_gt h | (simp at h; omega)
                have nx17_x9 : w22.heap.size ≠ w2.heap.size := by have h := lt_of_block (hK.blk _ (List.Mem.head _)); first | exact Nat.ne_of_gt h | (simp at h; omega)
                replace hK : Kv w (w22.alloc (.cells #[.int .i64 u.1.1.1, .int .i64 u.1.1.2, .int .i64 u.1.2.1.1, .int .i64 u.1.2.1.2, .int .i64 u.1.2.2.1, .int .i64 u.1.2.2.2] 25)) [(w22.heap.size, vobj (vl u.1)), (w2.heap.size, vobj (vl t1)), (w1.heap.size, vobj (vl u.1)), (B, vobj (vl p.2)), (A, vobj (vl p.1)), (g, pvObj prs)] := hK.al (vobj (vl u.1)) (n := w22.heap.size) (by simp)
                obtain ⟨cx170, cx171, cx172, cx173, cx174, cx175⟩ := vobj_six (hK.blk _ (List.Mem.head _))
                have lx17 := lt_of_block (hK.blk _ (List.Mem.head _))
                obtain ⟨cx70, cx71, cx72, cx73, cx74, cx75⟩ := vobj_six (hK.blk _ (List.Mem.tail _ (List.Mem.tail _ (List.Mem.head _))))
                have lx7 := lt_of_block (hK.blk _ (List.Mem.tail _ (List.Mem.tail _ (List.Mem.head _))))
                have hq23_8 : ∀ W, (Op.equalIn 10000 25 (.agg #[.int .i64 u.1.1.1, .int .i64 u.1.1.2, .int .i64 u.1.2.1.1, .int .i64 u.1.2.1.2, .int .i64 u.1.2.2.1, .int .i64 u.1.2.2.2]) (.agg #[.int .i64 u.1.1.1, .int .i64 u.1.1.2, .int .i64 u.1.2.1.1, .int .i64 u.1.2.1.2, .int .i64 u.1.2.2.1, .int .i64 u.1.2.2.2])).run Try.prog W = .ok true W := fun W => (eqlV u.1 u.1 W).trans (by simp)
                go_wp2_with fail
                go_roundw
                case rel => exact ⟨1, u.1, t1, by omega, by go_num, Lib.hid (hK.sub (by simp))⟩
                case measure => simp [intOf]
              · have q0 : (u.2 == 0) = false := by simp [he]
                clear h3 he
                have hpk : ∀ W, (Instr.index 53 (.agg #[.func (.func 11) #[] #[], .func (.func 12) #[] #[]]) (.int .i64 0)).run Try.prog W = .ok (.func (.func 11) #[] #[]) W := fun W => by kernel_rfl
                obtain ⟨cA0, cA1, cA2, cA3, cA4, cA5⟩ := vobj_six (hK.blk _ (List.Mem.tail _ (List.Mem.tail _ (List.Mem.tail _ (List.Mem.head _)))))
                have lA := lt_of_block (hK.blk _ (List.Mem.tail _ (List.Mem.tail _ (List.Mem.tail _ (List.Mem.head _)))))
                obtain ⟨cB0, cB1, cB2, cB3, cB4, cB5⟩ := vobj_six (hK.blk _ (List.Mem.tail _ (List.Mem.tail _ (List.Mem.head _))))
                have lB := lt_of_block (hK.blk _ (List.Mem.tail _ (List.Mem.tail _ (List.Mem.head _))))
                go_wp2_with fail
                refine (vSubK p.1 p.2 u.1 u.2 Hu.out _).mono ?_; rintro e w20 ⟨rfl, hb⟩
                replace hK := hK.on hb
                clear hpk cA0 cA1 cA2 cA3 cA4 cA5 lA cB0 cB1 cB2 cB3 cB4 cB5 lB hb
                obtain ⟨cx70, cx71, cx72, cx73, cx74, cx75⟩ := vobj_six (hK.blk _ (List.Mem.tail _ (List.Mem.head _)))
                have lx7 := lt_of_block (hK.blk _ (List.Mem.tail _ (List.Mem.head _)))
                have fx70 := vobj_free (hK.blk _ (List.Mem.tail _ (List.Mem.head _))) 0
                have fx71 := vobj_free (hK.blk _ (List.Mem.tail _ (List.Mem.head _))) 1
                have fx72 := vobj_free (hK.blk _ (List.Mem.tail _ (List.Mem.head _))) 2
                have fx73 := vobj_free (hK.blk _ (List.Mem.tail _ (List.Mem.head _))) 3
                have fx74 := vobj_free (hK.blk _ (List.Mem.tail _ (List.Mem.head _))) 4
                have fx75 := vobj_free (hK.blk _ (List.Mem.tail _ (List.Mem.head _))) 5
                replace hK := hK.seta (cs := [(w2.heap.size, vobj (vl R0)), (w1.heap.size, vobj (vl u.1)), (B, vobj (vl p.2)), (A, vobj (vl p.1)), (g, pvObj prs)]) (List.Mem.tail _ (List.Mem.head _)) gx7 u.1 (List.forall_mem_cons.2 ⟨.inr ⟨(List.Mem.head _), nx9_x7⟩, (List.forall_mem_cons.2 ⟨.inl rfl, (List.forall_mem_cons.2 ⟨.inr ⟨(List.Mem.tail _ (List.Mem.tail _ (List.Mem.head _))), (Ne.symm nx7_B)⟩, (List.forall_mem_cons.2 ⟨.inr ⟨(List.Mem.tail _ (List.Mem.tail _ (List.Mem.tail _ (List.Mem.head _)))), (Ne.symm nx7_A)⟩, (List.forall_mem_cons.2 ⟨.inr ⟨(List.Mem.tail _ (List.Mem.tail _ (List.Mem.tail _ (List.Mem.tail _ (List.Mem.head _))))), (Ne.symm nx7_g)⟩, (List.forall_mem_nil _)⟩)⟩)⟩)⟩)⟩)
                obtain ⟨cB0, cB1, cB2, cB3, cB4, cB5⟩ := vobj_six (hK.blk _ (List.Mem.tail _ (List.Mem.tail _ (List.Mem.head _))))
                have lB := lt_of_block (hK.blk _ (List.Mem.tail _ (List.Mem.tail _ (List.Mem.head _))))
                obtain ⟨cA0, cA1, cA2, cA3, cA4, cA5⟩ := vobj_six (hK.blk _ (List.Mem.tail _ (List.Mem.tail _ (List.Mem.tail _ (List.Mem.head _)))))
                have lA := lt_of_block (hK.blk _ (List.Mem.tail _ (List.Mem.tail _ (List.Mem.tail _ (List.Mem.head _)))))
                go_wp2_with fail
                refine (vSubK p.2 p.1 t1 u.2 Ht.out _).mono ?_; rintro e w21 ⟨rfl, hb⟩
                replace hK := hK.on hb
                clear cx70 cx71 cx72 cx73 cx74 cx75 lx7 fx70 fx71 fx72 fx73 fx74 fx75 cB0 cB1 cB2 cB3 cB4 cB5 lB cA0 cA1 cA2 cA3 cA4 cA5 lA hb
                obtain ⟨cx90, cx91, cx92, cx93, cx94, cx95⟩ := vobj_six (hK.blk _ (List.Mem.head _))
                have lx9 := lt_of_block (hK.blk _ (List.Mem.head _))
                have fx90 := vobj_free (hK.blk _ (List.Mem.head _)) 0
                have fx91 := vobj_free (hK.blk _ (List.Mem.head _)) 1
                have fx92 := vobj_free (hK.blk _ (List.Mem.head _)) 2
                have fx93 := vobj_free (hK.blk _ (List.Mem.head _)) 3
                have fx94 := vobj_free (hK.blk _ (List.Mem.head _)) 4
                have fx95 := vobj_free (hK.blk _ (List.Mem.head _)) 5
                replace hK := hK.seta (cs := [(w2.heap.size, vobj (vl t1)), (w1.heap.size, vobj (vl u.1)), (B, vobj (vl p.2)), (A, vobj (vl p.1)), (g, pvObj prs)]) (List.Mem.head _) gx9 t1 (List.forall_mem_cons.2 ⟨.inl rfl, (List.forall_mem_cons.2 ⟨.inr ⟨(List.Mem.tail _ (List.Mem.head _)), (Ne.symm nx9_x7)⟩, (List.forall_mem_cons.2 ⟨.inr ⟨(List.Mem.tail _ (List.Mem.tail _ (List.Mem.head _))), (Ne.symm nx9_B)⟩, (List.forall_mem_cons.2 ⟨.inr ⟨(List.Mem.tail _ (List.Mem.tail _ (List.Mem.tail _ (List.Mem.head _)))), (Ne.symm nx9_A)⟩, (List.forall_mem_cons.2 ⟨.inr ⟨(List.Mem.tail _ (List.Mem.tail _ (List.Mem.tail _ (List.Mem.tail _ (List.Mem.head _))))), (Ne.symm nx9_g)⟩, (List.forall_mem_nil _)⟩)⟩)⟩)⟩)⟩)
                obtain ⟨cx90, cx91, cx92, cx93, cx94, cx95⟩ := vobj_six (hK.blk _ (List.Mem.head _))
                have lx9 := lt_of_block (hK.blk _ (List.Mem.head _))
                go_wp2_with fail
                refine (vNegK t1 m 0 Hn.out _).mono ?_; rintro e w22 ⟨rfl, hb⟩
                replace hK := hK.on hb
                clear cx90 cx91 cx92 cx93 cx94 cx95 lx9 fx90 fx91 fx92 fx93 fx94 fx95 hb
                have nx17_x7 : w22.heap.size ≠ w1.heap.size := by have h := lt_of_block (hK.blk _ (List.Mem.tail _ (List.Mem.head _))); first | exact Nat.ne_of_gt h | (simp at h; omega)
                have nx17_x9 : w22.heap.size ≠ w2.heap.size := by have h := lt_of_block (hK.blk _ (List.Mem.head _)); first | exact Nat.ne_of_gt h | (simp at h; omega)
                replace hK : Kv w (w22.alloc (.cells #[.int .i64 m.1.1, .int .i64 m.1.2, .int .i64 m.2.1.1, .int .i64 m.2.1.2, .int .i64 m.2.2.1, .int .i64 m.2.2.2] 25)) [(w22.heap.size, vobj (vl m)), (w2.heap.size, vobj (vl t1)), (w1.heap.size, vobj (vl u.1)), (B, vobj (vl p.2)), (A, vobj (vl p.1)), (g, pvObj prs)] := hK.al (vobj (vl m)) (n := w22.heap.size) (by simp)
                go_wp2_with fail
                go_roundw
                case rel => exact ⟨1, u.1, t1, by omega, by go_num, Lib.hid (hK.sub (by simp))⟩
                case measure => simp [intOf]
            · obtain ⟨u, Hu⟩ : ∃ r, Hid (vCross p.1 p.2 = r) := ⟨_, Lib.hid rfl⟩
              obtain ⟨t1, t2, Ht⟩ : ∃ a b, Hid (vCross p.2 p.1 = (a, b)) := ⟨_, _, Lib.hid rfl⟩
              have h := turns_cross HO.out.1 HO.out.2
              have h1 := h.err
              have h2 := h.ok
              have h3 := h.neg
              rw [Hu.out, Ht.out] at h1 h3
              rw [Ht.out] at h2
              dsimp only at h1 h2 h3
              obtain rfl : t2 = u.2 := h1.symm
              have Hn := Lib.hid (vNeg_ok h2)
              clear h h1 h2
              generalize ngV t1 = m at *
              by_cases he : u.2 = 0
              · obtain rfl : m = u.1 := h3 he
                have q0 : (u.2 == 0) = true := by simp [he]
                clear h3 he
                have hpk : ∀ W, (Instr.index 53 (.agg #[.func (.func 11) #[] #[], .func (.func 12) #[] #[]]) (.int .i64 1)).run Try.prog W = .ok (.func (.func 12) #[] #[]) W := fun W => by kernel_rfl
                obtain ⟨cA0, cA1, cA2, cA3, cA4, cA5⟩ := vobj_six (hK.blk _ (List.Mem.tail _ (List.Mem.tail _ (List.Mem.tail _ (List.Mem.head _)))))
                have lA := lt_of_block (hK.blk _ (List.Mem.tail _ (List.Mem.tail _ (List.Mem.tail _ (List.Mem.head _)))))
                obtain ⟨cB0, cB1, cB2, cB3, cB4, cB5⟩ := vobj_six (hK.blk _ (List.Mem.tail _ (List.Mem.tail _ (List.Mem.head _))))
                have lB := lt_of_block (hK.blk _ (List.Mem.tail _ (List.Mem.tail _ (List.Mem.head _))))
                go_wp2_with fail
                refine (vCrossK p.1 p.2 u.1 u.2 Hu.out _).mono ?_; rintro e w20 ⟨rfl, hb⟩
                replace hK := hK.on hb
                clear hpk cA0 cA1 cA2 cA3 cA4 cA5 lA cB0 cB1 cB2 cB3 cB4 cB5 lB hb
                obtain ⟨cx70, cx71, cx72, cx73, cx74, cx75⟩ := vobj_six (hK.blk _ (List.Mem.tail _ (List.Mem.head _)))
                have lx7 := lt_of_block (hK.blk _ (List.Mem.tail _ (List.Mem.head _)))
                have fx70 := vobj_free (hK.blk _ (List.Mem.tail _ (List.Mem.head _))) 0
                have fx71 := vobj_free (hK.blk _ (List.Mem.tail _ (List.Mem.head _))) 1
                have fx72 := vobj_free (hK.blk _ (List.Mem.tail _ (List.Mem.head _))) 2
                have fx73 := vobj_free (hK.blk _ (List.Mem.tail _ (List.Mem.head _))) 3
                have fx74 := vobj_free (hK.blk _ (List.Mem.tail _ (List.Mem.head _))) 4
                have fx75 := vobj_free (hK.blk _ (List.Mem.tail _ (List.Mem.head _))) 5
                replace hK := hK.seta (cs := [(w2.heap.size, vobj (vl R0)), (w1.heap.size, vobj (vl u.1)), (B, vobj (vl p.2)), (A, vobj (vl p.1)), (g, pvObj prs)]) (List.Mem.tail _ (List.Mem.head _)) gx7 u.1 (List.forall_mem_cons.2 ⟨.inr ⟨(List.Mem.head _), nx9_x7⟩, (List.forall_mem_cons.2 ⟨.inl rfl, (List.forall_mem_cons.2 ⟨.inr ⟨(List.Mem.tail _ (List.Mem.tail _ (List.Mem.head _))), (Ne.symm nx7_B)⟩, (List.forall_mem_cons.2 ⟨.inr ⟨(List.Mem.tail _ (List.Mem.tail _ (List.Mem.tail _ (List.Mem.head _)))), (Ne.symm nx7_A)⟩, (List.forall_mem_cons.2 ⟨.inr ⟨(List.Mem.tail _ (List.Mem.tail _ (List.Mem.tail _ (List.Mem.tail _ (List.Mem.head _))))), (Ne.symm nx7_g)⟩, (List.forall_mem_nil _)⟩)⟩)⟩)⟩)⟩)
                obtain ⟨cB0, cB1, cB2, cB3, cB4, cB5⟩ := vobj_six (hK.blk _ (List.Mem.tail _ (List.Mem.tail _ (List.Mem.head _))))
                have lB := lt_of_block (hK.blk _ (List.Mem.tail _ (List.Mem.tail _ (List.Mem.head _))))
                obtain ⟨cA0, cA1, cA2, cA3, cA4, cA5⟩ := vobj_six (hK.blk _ (List.Mem.tail _ (List.Mem.tail _ (List.Mem.tail _ (List.Mem.head _)))))
                have lA := lt_of_block (hK.blk _ (List.Mem.tail _ (List.Mem.tail _ (List.Mem.tail _ (List.Mem.head _)))))
                go_wp2_with fail
                refine (vCrossK p.2 p.1 t1 u.2 Ht.out _).mono ?_; rintro e w21 ⟨rfl, hb⟩
                replace hK := hK.on hb
                clear cx70 cx71 cx72 cx73 cx74 cx75 lx7 fx70 fx71 fx72 fx73 fx74 fx75 cB0 cB1 cB2 cB3 cB4 cB5 lB cA0 cA1 cA2 cA3 cA4 cA5 lA hb
                obtain ⟨cx90, cx91, cx92, cx93, cx94, cx95⟩ := vobj_six (hK.blk _ (List.Mem.head _))
                have lx9 := lt_of_block (hK.blk _ (List.Mem.head _))
                have fx90 := vobj_free (hK.blk _ (List.Mem.head _)) 0
                have fx91 := vobj_free (hK.blk _ (List.Mem.head _)) 1
                have fx92 := vobj_free (hK.blk _ (List.Mem.head _)) 2
                have fx93 := vobj_free (hK.blk _ (List.Mem.head _)) 3
                have fx94 := vobj_free (hK.blk _ (List.Mem.head _)) 4
                have fx95 := vobj_free (hK.blk _ (List.Mem.head _)) 5
                replace hK := hK.seta (cs := [(w2.heap.size, vobj (vl t1)), (w1.heap.size, vobj (vl u.1)), (B, vobj (vl p.2)), (A, vobj (vl p.1)), (g, pvObj prs)]) (List.Mem.head _) gx9 t1 (List.forall_mem_cons.2 ⟨.inl rfl, (List.forall_mem_cons.2 ⟨.inr ⟨(List.Mem.tail _ (List.Mem.head _)), (Ne.symm nx9_x7)⟩, (List.forall_mem_cons.2 ⟨.inr ⟨(List.Mem.tail _ (List.Mem.tail _ (List.Mem.head _))), (Ne.symm nx9_B)⟩, (List.forall_mem_cons.2 ⟨.inr ⟨(List.Mem.tail _ (List.Mem.tail _ (List.Mem.tail _ (List.Mem.head _)))), (Ne.symm nx9_A)⟩, (List.forall_mem_cons.2 ⟨.inr ⟨(List.Mem.tail _ (List.Mem.tail _ (List.Mem.tail _ (List.Mem.tail _ (List.Mem.head _))))), (Ne.symm nx9_g)⟩, (List.forall_mem_nil _)⟩)⟩)⟩)⟩)⟩)
                obtain ⟨cx90, cx91, cx92, cx93, cx94, cx95⟩ := vobj_six (hK.blk _ (List.Mem.head _))
                have lx9 := lt_of_block (hK.blk _ (List.Mem.head _))
                go_wp2_with fail
                refine (vNegK t1 u.1 0 Hn.out _).mono ?_; rintro e w22 ⟨rfl, hb⟩
                replace hK := hK.on hb
                clear cx90 cx91 cx92 cx93 cx94 cx95 lx9 fx90 fx91 fx92 fx93 fx94 fx95 hb
                have nx17_x7 : w22.heap.size ≠ w1.heap.size := by have h := lt_of_block (hK.blk _ (List.Mem.tail _ (List.Mem.head _))); first | exact Nat.ne_of_gt h | (simp at h; omega)
                have nx17_x9 : w22.heap.size ≠ w2.heap.size := by have h := lt_of_block (hK.blk _ (List.Mem.head _)); first | exact Nat.ne_of_gt h | (simp at h; omega)
                replace hK : Kv w (w22.alloc (.cells #[.int .i64 u.1.1.1, .int .i64 u.1.1.2, .int .i64 u.1.2.1.1, .int .i64 u.1.2.1.2, .int .i64 u.1.2.2.1, .int .i64 u.1.2.2.2] 25)) [(w22.heap.size, vobj (vl u.1)), (w2.heap.size, vobj (vl t1)), (w1.heap.size, vobj (vl u.1)), (B, vobj (vl p.2)), (A, vobj (vl p.1)), (g, pvObj prs)] := hK.al (vobj (vl u.1)) (n := w22.heap.size) (by simp)
                obtain ⟨cx170, cx171, cx172, cx173, cx174, cx175⟩ := vobj_six (hK.blk _ (List.Mem.head _))
                have lx17 := lt_of_block (hK.blk _ (List.Mem.head _))
                obtain ⟨cx70, cx71, cx72, cx73, cx74, cx75⟩ := vobj_six (hK.blk _ (List.Mem.tail _ (List.Mem.tail _ (List.Mem.head _))))
                have lx7 := lt_of_block (hK.blk _ (List.Mem.tail _ (List.Mem.tail _ (List.Mem.head _))))
                have hq23_8 : ∀ W, (Op.equalIn 10000 25 (.agg #[.int .i64 u.1.1.1, .int .i64 u.1.1.2, .int .i64 u.1.2.1.1, .int .i64 u.1.2.1.2, .int .i64 u.1.2.2.1, .int .i64 u.1.2.2.2]) (.agg #[.int .i64 u.1.1.1, .int .i64 u.1.1.2, .int .i64 u.1.2.1.1, .int .i64 u.1.2.1.2, .int .i64 u.1.2.2.1, .int .i64 u.1.2.2.2])).run Try.prog W = .ok true W := fun W => (eqlV u.1 u.1 W).trans (by simp)
                go_wp2_with fail
                go_roundw
                case rel => exact ⟨2, u.1, t1, by omega, by go_num, Lib.hid (hK.sub (by simp))⟩
                case measure => simp [intOf]
              · have q0 : (u.2 == 0) = false := by simp [he]
                clear h3 he
                have hpk : ∀ W, (Instr.index 53 (.agg #[.func (.func 11) #[] #[], .func (.func 12) #[] #[]]) (.int .i64 1)).run Try.prog W = .ok (.func (.func 12) #[] #[]) W := fun W => by kernel_rfl
                obtain ⟨cA0, cA1, cA2, cA3, cA4, cA5⟩ := vobj_six (hK.blk _ (List.Mem.tail _ (List.Mem.tail _ (List.Mem.tail _ (List.Mem.head _)))))
                have lA := lt_of_block (hK.blk _ (List.Mem.tail _ (List.Mem.tail _ (List.Mem.tail _ (List.Mem.head _)))))
                obtain ⟨cB0, cB1, cB2, cB3, cB4, cB5⟩ := vobj_six (hK.blk _ (List.Mem.tail _ (List.Mem.tail _ (List.Mem.head _))))
                have lB := lt_of_block (hK.blk _ (List.Mem.tail _ (List.Mem.tail _ (List.Mem.head _))))
                go_wp2_with fail
                refine (vCrossK p.1 p.2 u.1 u.2 Hu.out _).mono ?_; rintro e w20 ⟨rfl, hb⟩
                replace hK := hK.on hb
                clear hpk cA0 cA1 cA2 cA3 cA4 cA5 lA cB0 cB1 cB2 cB3 cB4 cB5 lB hb
                obtain ⟨cx70, cx71, cx72, cx73, cx74, cx75⟩ := vobj_six (hK.blk _ (List.Mem.tail _ (List.Mem.head _)))
                have lx7 := lt_of_block (hK.blk _ (List.Mem.tail _ (List.Mem.head _)))
                have fx70 := vobj_free (hK.blk _ (List.Mem.tail _ (List.Mem.head _))) 0
                have fx71 := vobj_free (hK.blk _ (List.Mem.tail _ (List.Mem.head _))) 1
                have fx72 := vobj_free (hK.blk _ (List.Mem.tail _ (List.Mem.head _))) 2
                have fx73 := vobj_free (hK.blk _ (List.Mem.tail _ (List.Mem.head _))) 3
                have fx74 := vobj_free (hK.blk _ (List.Mem.tail _ (List.Mem.head _))) 4
                have fx75 := vobj_free (hK.blk _ (List.Mem.tail _ (List.Mem.head _))) 5
                replace hK := hK.seta (cs := [(w2.heap.size, vobj (vl R0)), (w1.heap.size, vobj (vl u.1)), (B, vobj (vl p.2)), (A, vobj (vl p.1)), (g, pvObj prs)]) (List.Mem.tail _ (List.Mem.head _)) gx7 u.1 (List.forall_mem_cons.2 ⟨.inr ⟨(List.Mem.head _), nx9_x7⟩, (List.forall_mem_cons.2 ⟨.inl rfl, (List.forall_mem_cons.2 ⟨.inr ⟨(List.Mem.tail _ (List.Mem.tail _ (List.Mem.head _))), (Ne.symm nx7_B)⟩, (List.forall_mem_cons.2 ⟨.inr ⟨(List.Mem.tail _ (List.Mem.tail _ (List.Mem.tail _ (List.Mem.head _)))), (Ne.symm nx7_A)⟩, (List.forall_mem_cons.2 ⟨.inr ⟨(List.Mem.tail _ (List.Mem.tail _ (List.Mem.tail _ (List.Mem.tail _ (List.Mem.head _))))), (Ne.symm nx7_g)⟩, (List.forall_mem_nil _)⟩)⟩)⟩)⟩)⟩)
                obtain ⟨cB0, cB1, cB2, cB3, cB4, cB5⟩ := vobj_six (hK.blk _ (List.Mem.tail _ (List.Mem.tail _ (List.Mem.head _))))
                have lB := lt_of_block (hK.blk _ (List.Mem.tail _ (List.Mem.tail _ (List.Mem.head _))))
                obtain ⟨cA0, cA1, cA2, cA3, cA4, cA5⟩ := vobj_six (hK.blk _ (List.Mem.tail _ (List.Mem.tail _ (List.Mem.tail _ (List.Mem.head _)))))
                have lA := lt_of_block (hK.blk _ (List.Mem.tail _ (List.Mem.tail _ (List.Mem.tail _ (List.Mem.head _)))))
                go_wp2_with fail
                refine (vCrossK p.2 p.1 t1 u.2 Ht.out _).mono ?_; rintro e w21 ⟨rfl, hb⟩
                replace hK := hK.on hb
                clear cx70 cx71 cx72 cx73 cx74 cx75 lx7 fx70 fx71 fx72 fx73 fx74 fx75 cB0 cB1 cB2 cB3 cB4 cB5 lB cA0 cA1 cA2 cA3 cA4 cA5 lA hb
                obtain ⟨cx90, cx91, cx92, cx93, cx94, cx95⟩ := vobj_six (hK.blk _ (List.Mem.head _))
                have lx9 := lt_of_block (hK.blk _ (List.Mem.head _))
                have fx90 := vobj_free (hK.blk _ (List.Mem.head _)) 0
                have fx91 := vobj_free (hK.blk _ (List.Mem.head _)) 1
                have fx92 := vobj_free (hK.blk _ (List.Mem.head _)) 2
                have fx93 := vobj_free (hK.blk _ (List.Mem.head _)) 3
                have fx94 := vobj_free (hK.blk _ (List.Mem.head _)) 4
                have fx95 := vobj_free (hK.blk _ (List.Mem.head _)) 5
                replace hK := hK.seta (cs := [(w2.heap.size, vobj (vl t1)), (w1.heap.size, vobj (vl u.1)), (B, vobj (vl p.2)), (A, vobj (vl p.1)), (g, pvObj prs)]) (List.Mem.head _) gx9 t1 (List.forall_mem_cons.2 ⟨.inl rfl, (List.forall_mem_cons.2 ⟨.inr ⟨(List.Mem.tail _ (List.Mem.head _)), (Ne.symm nx9_x7)⟩, (List.forall_mem_cons.2 ⟨.inr ⟨(List.Mem.tail _ (List.Mem.tail _ (List.Mem.head _))), (Ne.symm nx9_B)⟩, (List.forall_mem_cons.2 ⟨.inr ⟨(List.Mem.tail _ (List.Mem.tail _ (List.Mem.tail _ (List.Mem.head _)))), (Ne.symm nx9_A)⟩, (List.forall_mem_cons.2 ⟨.inr ⟨(List.Mem.tail _ (List.Mem.tail _ (List.Mem.tail _ (List.Mem.tail _ (List.Mem.head _))))), (Ne.symm nx9_g)⟩, (List.forall_mem_nil _)⟩)⟩)⟩)⟩)⟩)
                obtain ⟨cx90, cx91, cx92, cx93, cx94, cx95⟩ := vobj_six (hK.blk _ (List.Mem.head _))
                have lx9 := lt_of_block (hK.blk _ (List.Mem.head _))
                go_wp2_with fail
                refine (vNegK t1 m 0 Hn.out _).mono ?_; rintro e w22 ⟨rfl, hb⟩
                replace hK := hK.on hb
                clear cx90 cx91 cx92 cx93 cx94 cx95 lx9 fx90 fx91 fx92 fx93 fx94 fx95 hb
                have nx17_x7 : w22.heap.size ≠ w1.heap.size := by have h := lt_of_block (hK.blk _ (List.Mem.tail _ (List.Mem.head _))); first | exact Nat.ne_of_gt h | (simp at h; omega)
                have nx17_x9 : w22.heap.size ≠ w2.heap.size := by have h := lt_of_block (hK.blk _ (List.Mem.head _)); first | exact Nat.ne_of_gt h | (simp at h; omega)
                replace hK : Kv w (w22.alloc (.cells #[.int .i64 m.1.1, .int .i64 m.1.2, .int .i64 m.2.1.1, .int .i64 m.2.1.2, .int .i64 m.2.2.1, .int .i64 m.2.2.2] 25)) [(w22.heap.size, vobj (vl m)), (w2.heap.size, vobj (vl t1)), (w1.heap.size, vobj (vl u.1)), (B, vobj (vl p.2)), (A, vobj (vl p.1)), (g, pvObj prs)] := hK.al (vobj (vl m)) (n := w22.heap.size) (by simp)
                go_wp2_with fail
                go_roundw
                case rel => exact ⟨2, u.1, t1, by omega, by go_num, Lib.hid (hK.sub (by simp))⟩
                case measure => simp [intOf]
          · obtain rfl : j = 2 := by omega
            have hK := HI.out
            clear HI
            obtain ⟨u, Hu⟩ : ∃ r, Hid (vSub p.1 p.2 = r) := ⟨_, Lib.hid rfl⟩
            have Hn := Lib.hid (vNeg_ok HO.out.2)
            have Ha := Lib.hid ((vAdd_neg HO.out.1 HO.out.2).trans Hu.out)
            generalize ngV p.2 = m at *
            obtain ⟨cB0, cB1, cB2, cB3, cB4, cB5⟩ := vobj_six (hK.blk _ (List.Mem.tail _ (List.Mem.tail _ (List.Mem.head _))))
            have lB := lt_of_block (hK.blk _ (List.Mem.tail _ (List.Mem.tail _ (List.Mem.head _))))
            go_wp2_with fail
            refine (vNegK p.2 m 0 Hn.out _).mono ?_; rintro e w20 ⟨rfl, hb⟩
            replace hK := hK.on hb
            clear cB0 cB1 cB2 cB3 cB4 cB5 lB hb
            have nx19_x7 : w20.heap.size ≠ w1.heap.size := by have h := lt_of_block (hK.blk _ (List.Mem.tail _ (List.Mem.head _))); first | exact Nat.ne_of_gt h | (simp at h; omega)
            have nx19_x9 : w20.heap.size ≠ w2.heap.size := by have h := lt_of_block (hK.blk _ (List.Mem.head _)); first | exact Nat.ne_of_gt h | (simp at h; omega)
            replace hK : Kv w (w20.alloc (.cells #[.int .i64 m.1.1, .int .i64 m.1.2, .int .i64 m.2.1.1, .int .i64 m.2.1.2, .int .i64 m.2.2.1, .int .i64 m.2.2.2] 25)) [(w20.heap.size, vobj (vl m)), (w2.heap.size, vobj (vl R0)), (w1.heap.size, vobj (vl S0)), (B, vobj (vl p.2)), (A, vobj (vl p.1)), (g, pvObj prs)] := hK.al (vobj (vl m)) (n := w20.heap.size) (by simp)
            obtain ⟨cA0, cA1, cA2, cA3, cA4, cA5⟩ := vobj_six (hK.blk _ (List.Mem.tail _ (List.Mem.tail _ (List.Mem.tail _ (List.Mem.tail _ (List.Mem.head _))))))
            have lA := lt_of_block (hK.blk _ (List.Mem.tail _ (List.Mem.tail _ (List.Mem.tail _ (List.Mem.tail _ (List.Mem.head _))))))
            obtain ⟨cx190, cx191, cx192, cx193, cx194, cx195⟩ := vobj_six (hK.blk _ (List.Mem.head _))
            have lx19 := lt_of_block (hK.blk _ (List.Mem.head _))
            go_wp2_with fail
            refine (vAddK p.1 m u.1 u.2 Ha.out _).mono ?_; rintro e w21 ⟨rfl, hb⟩
            replace hK := hK.on hb
            clear cA0 cA1 cA2 cA3 cA4 cA5 lA cx190 cx191 cx192 cx193 cx194 cx195 lx19 hb
            obtain ⟨cx70, cx71, cx72, cx73, cx74, cx75⟩ := vobj_six (hK.blk _ (List.Mem.tail _ (List.Mem.tail _ (List.Mem.head _))))
            have lx7 := lt_of_block (hK.blk _ (List.Mem.tail _ (List.Mem.tail _ (List.Mem.head _))))
            have fx70 := vobj_free (hK.blk _ (List.Mem.tail _ (List.Mem.tail _ (List.Mem.head _)))) 0
            have fx71 := vobj_free (hK.blk _ (List.Mem.tail _ (List.Mem.tail _ (List.Mem.head _)))) 1
            have fx72 := vobj_free (hK.blk _ (List.Mem.tail _ (List.Mem.tail _ (List.Mem.head _)))) 2
            have fx73 := vobj_free (hK.blk _ (List.Mem.tail _ (List.Mem.tail _ (List.Mem.head _)))) 3
            have fx74 := vobj_free (hK.blk _ (List.Mem.tail _ (List.Mem.tail _ (List.Mem.head _)))) 4
            have fx75 := vobj_free (hK.blk _ (List.Mem.tail _ (List.Mem.tail _ (List.Mem.head _)))) 5
            replace hK := hK.seta (cs := [(w20.heap.size, vobj (vl m)), (w2.heap.size, vobj (vl R0)), (w1.heap.size, vobj (vl u.1)), (B, vobj (vl p.2)), (A, vobj (vl p.1)), (g, pvObj prs)]) (List.Mem.tail _ (List.Mem.tail _ (List.Mem.head _))) gx7 u.1 (List.forall_mem_cons.2 ⟨.inr ⟨(List.Mem.head _), nx19_x7⟩, (List.forall_mem_cons.2 ⟨.inr ⟨(List.Mem.tail _ (List.Mem.head _)), nx9_x7⟩, (List.forall_mem_cons.2 ⟨.inl rfl, (List.forall_mem_cons.2 ⟨.inr ⟨(List.Mem.tail _ (List.Mem.tail _ (List.Mem.tail _ (List.Mem.head _)))), (Ne.symm nx7_B)⟩, (List.forall_mem_cons.2 ⟨.inr ⟨(List.Mem.tail _ (List.Mem.tail _ (List.Mem.tail _ (List.Mem.tail _ (List.Mem.head _))))), (Ne.symm nx7_A)⟩, (List.forall_mem_cons.2 ⟨.inr ⟨(List.Mem.tail _ (List.Mem.tail _ (List.Mem.tail _ (List.Mem.tail _ (List.Mem.tail _ (List.Mem.head _)))))), (Ne.symm nx7_g)⟩, (List.forall_mem_nil _)⟩)⟩)⟩)⟩)⟩)⟩)
            obtain ⟨cA0, cA1, cA2, cA3, cA4, cA5⟩ := vobj_six (hK.blk _ (List.Mem.tail _ (List.Mem.tail _ (List.Mem.tail _ (List.Mem.tail _ (List.Mem.head _))))))
            have lA := lt_of_block (hK.blk _ (List.Mem.tail _ (List.Mem.tail _ (List.Mem.tail _ (List.Mem.tail _ (List.Mem.head _))))))
            obtain ⟨cB0, cB1, cB2, cB3, cB4, cB5⟩ := vobj_six (hK.blk _ (List.Mem.tail _ (List.Mem.tail _ (List.Mem.tail _ (List.Mem.head _)))))
            have lB := lt_of_block (hK.blk _ (List.Mem.tail _ (List.Mem.tail _ (List.Mem.tail _ (List.Mem.head _)))))
            go_wp2_with fail
            refine (vSubK p.1 p.2 u.1 u.2 Hu.out _).mono ?_; rintro e w22 ⟨rfl, hb⟩
            replace hK := hK.on hb
            clear cx70 cx71 cx72 cx73 cx74 cx75 lx7 fx70 fx71 fx72 fx73 fx74 fx75 cA0 cA1 cA2 cA3 cA4 cA5 lA cB0 cB1 cB2 cB3 cB4 cB5 lB hb
            obtain ⟨cx90, cx91, cx92, cx93, cx94, cx95⟩ := vobj_six (hK.blk _ (List.Mem.tail _ (List.Mem.head _)))
            have lx9 := lt_of_block (hK.blk _ (List.Mem.tail _ (List.Mem.head _)))
            have fx90 := vobj_free (hK.blk _ (List.Mem.tail _ (List.Mem.head _))) 0
            have fx91 := vobj_free (hK.blk _ (List.Mem.tail _ (List.Mem.head _))) 1
            have fx92 := vobj_free (hK.blk _ (List.Mem.tail _ (List.Mem.head _))) 2
            have fx93 := vobj_free (hK.blk _ (List.Mem.tail _ (List.Mem.head _))) 3
            have fx94 := vobj_free (hK.blk _ (List.Mem.tail _ (List.Mem.head _))) 4
            have fx95 := vobj_free (hK.blk _ (List.Mem.tail _ (List.Mem.head _))) 5
            replace hK := hK.seta (cs := [(w20.heap.size, vobj (vl m)), (w2.heap.size, vobj (vl u.1)), (w1.heap.size, vobj (vl u.1)), (B, vobj (vl p.2)), (A, vobj (vl p.1)), (g, pvObj prs)]) (List.Mem.tail _ (List.Mem.head _)) gx9 u.1 (List.forall_mem_cons.2 ⟨.inr ⟨(List.Mem.head _), nx19_x9⟩, (List.forall_mem_cons.2 ⟨.inl rfl, (List.forall_mem_cons.2 ⟨.inr ⟨(List.Mem.tail _ (List.Mem.tail _ (List.Mem.head _))), (Ne.symm nx9_x7)⟩, (List.forall_mem_cons.2 ⟨.inr ⟨(List.Mem.tail _ (List.Mem.tail _ (List.Mem.tail _ (List.Mem.head _)))), (Ne.symm nx9_B)⟩, (List.forall_mem_cons.2 ⟨.inr ⟨(List.Mem.tail _ (List.Mem.tail _ (List.Mem.tail _ (List.Mem.tail _ (List.Mem.head _))))), (Ne.symm nx9_A)⟩, (List.forall_mem_cons.2 ⟨.inr ⟨(List.Mem.tail _ (List.Mem.tail _ (List.Mem.tail _ (List.Mem.tail _ (List.Mem.tail _ (List.Mem.head _)))))), (Ne.symm nx9_g)⟩, (List.forall_mem_nil _)⟩)⟩)⟩)⟩)⟩)⟩)
            obtain ⟨cx70, cx71, cx72, cx73, cx74, cx75⟩ := vobj_six (hK.blk _ (List.Mem.tail _ (List.Mem.tail _ (List.Mem.head _))))
            have lx7 := lt_of_block (hK.blk _ (List.Mem.tail _ (List.Mem.tail _ (List.Mem.head _))))
            obtain ⟨cx90, cx91, cx92, cx93, cx94, cx95⟩ := vobj_six (hK.blk _ (List.Mem.tail _ (List.Mem.head _)))
            have lx9 := lt_of_block (hK.blk _ (List.Mem.tail _ (List.Mem.head _)))
            have hq29_5 : ∀ W, (Op.equalIn 10000 25 (.agg #[.int .i64 u.1.1.1, .int .i64 u.1.1.2, .int .i64 u.1.2.1.1, .int .i64 u.1.2.1.2, .int .i64 u.1.2.2.1, .int .i64 u.1.2.2.2]) (.agg #[.int .i64 u.1.1.1, .int .i64 u.1.1.2, .int .i64 u.1.2.1.1, .int .i64 u.1.2.1.2, .int .i64 u.1.2.2.1, .int .i64 u.1.2.2.2])).run Try.prog W = .ok true W := fun W => (eqlV u.1 u.1 W).trans (by simp)
            go_wp2_with fail
            go_roundw
            case rel => exact ⟨k + 1, by omega, by go_num, Lib.hid (hK.sub (by simp))⟩
            case measure => simp [intOf]; omega
    · obtain rfl : k = 2 := by omega
      go_wp2_with fail
      go_ret
      exact ⟨rfl, HA.out.bel⟩
end Go.Proofs.Ytmnccbhlllnlbaa.vecOrders
