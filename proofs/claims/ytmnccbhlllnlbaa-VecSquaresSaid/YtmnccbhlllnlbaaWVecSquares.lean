/- The walk of monoclelaw06.VecSquares. Printed by wip/genVL2.py. -/
import Derived.Deep.DeepCutAuto
import Derived.Deep.CutBlock
import Derived.Test.YtmnccbhlllnlbaaLawVS
import Derived.Test.YtmnccbhlllnlbaaCutMerge
import Derived.Test.YtmnccbhlllnlbaaVecLaw
import Derived.Test.YtmnccbhlllnlbaaVecSq
namespace Go.Proofs.Ytmnccbhlllnlbaa.vecSquares
open Go.RowKit Mnc
attribute [local go_sem] RunS_value RunS_skip RunS_enter evS_tmp evS_const evS_global evS_func
theorem sqrK (a r : Int × Int) (c : Int) (hv : sPow a 2 = (r, c)) (w : World) : Calls Try.prog 29 #[.agg #[.int .i64 a.1, .int .i64 a.2]] w fun e w' => e = .returned (.tuple #[.agg #[.int .i64 r.1, .int .i64 r.2], .int .i64 c]) ∧ Below w.heap.size w w' := by
  have h := span_Sqr a w
  rw [hv] at h
  exact h
theorem meetK (a b r : Int × Int) (c : Int) (hv : sMeet a b = (r, c)) (w : World) : Calls Try.prog 30 #[.agg #[.int .i64 a.1, .int .i64 a.2], .agg #[.int .i64 b.1, .int .i64 b.2]] w fun e w' => e = .returned (.tuple #[.agg #[.int .i64 r.1, .int .i64 r.2], .int .i64 c]) ∧ Below w.heap.size w w' := by
  have h := span_Meet a b w
  rw [hv] at h
  exact h
structure SqA (W : World) (P : Nat) (p : V3 × V3) (L : Nat → Bool) (s : Nat → Value) (w : World) : Prop where
  bel : Below W.heap.size W w
  e0 : L 0 = true → s 32 = .pointer (some ⟨P, 0, none⟩)
  e1 : L 1 = true → s 33 = .agg #[.int .i64 p.1.1.1, .int .i64 p.1.1.2, .int .i64 p.1.2.1.1, .int .i64 p.1.2.1.2, .int .i64 p.1.2.2.1, .int .i64 p.1.2.2.2]
  e2 : L 2 = true → s 34 = .pointer (some ⟨P, 6, none⟩)
  e3 : L 3 = true → s 35 = .agg #[.int .i64 p.2.1.1, .int .i64 p.2.1.2, .int .i64 p.2.2.1.1, .int .i64 p.2.2.1.2, .int .i64 p.2.2.2.1, .int .i64 p.2.2.2.2]
  e4 : L 4 = true → BxV w W.heap.size (s 5) (L 6 = true) p.1
  e5 : L 5 = true → BxV w W.heap.size (s 6) (L 7 = true) p.2
  ne : L 4 = true → L 5 = true → s 5 ≠ s 6
  d6 : L 6 = true → L 4 = true
  d7 : L 7 = true → L 5 = true
set_option maxRecDepth 100000 in
set_option maxHeartbeats 16000000 in
theorem walk (T : Tv) (hT : T.ok) (w : World) :
    Calls Try.prog 6 #[T.val] w fun e w' => e = .returned (.bool true) ∧ Below w.heap.size w w' := by
  have hK := (Kv.start w).al T.obj (n := w.heap.size) rfl
  have HT := Lib.hid hT
  have HL := Lib.hid (fun k p (hk : k < 2) (hp : (pvs T)[k + 1]? = some p) => (show okV p.1 ∧ okV p.2 by
    obtain rfl | rfl : k = 0 ∨ k = 1 := by omega
    · obtain rfl := Option.some.inj hp; exact ⟨drV_ok hT.x, drS_ok hT.y⟩
    · obtain rfl := Option.some.inj hp; exact ⟨drS_ok hT.x, drS_ok hT.y⟩))
  clear hT
  unfold Tv.val
  go_enter Try.func6, Try.ntmps6
  go_wp2_with fail
  refine (law6_works _).mono ?_; rintro e w1 ⟨rfl, hb⟩
  replace hK := hK.on hb
  clear hb
  obtain ⟨dT, hdT, hrT⟩ := tv_desc
  have hl := tv_range (hK.blk _ (List.Mem.head _))
  go_upto_region 3 with (fail)
  refine wp_region_lit ?_
  refine wpList_load_mid rfl 32 _ rfl _ _ rfl _ _ hl hdT hrT (by kernel_rfl) ?_
  go_wp2_with fail
  refine (law6_pairs' T HT.out _).mono ?_; rintro e w2 ⟨⟨v, rfl, g, rfl, hg, hbl⟩, hb⟩
  have HS := Lib.hid (((hK.on hb).put (Below.refl _ _) hbl).sub (cs := [(g, pvObj (pvs T))]) (by simp))
  have HP : Hid (∀ k, k < 2 → ∃ p, (pvs T)[k + 1]? = some p) := Lib.hid fun k hk => ⟨_, List.getElem?_eq_getElem (show k + 1 < (pvs T).length by unfold pvs; simp only [List.length_cons, List.length_nil]; omega)⟩
  clear hK hb hl hdT hrT hg hbl
  generalize pvs T = prs at *
  go_wp2_with fail
  go_loopw [28] (fun i wr => ∃ k : Nat, k ≤ 2 ∧ i = .int .i64 k ∧ Hid (Kv w wr [(g, pvObj prs)])) (fun i _ => 2 - (intOf i).toNat)
  case atStart => exact ⟨0, by omega, rfl, HS⟩
  case round =>
    clear HS
    obtain ⟨k, hk, rfl, HA⟩ := hrel
    rcases Nat.lt_or_ge k 2 with hk' | hk'
    · obtain ⟨p, hp⟩ := HP.out k hk'
      have HO := Lib.hid (HL.out k p hk' hp)
      obtain ⟨c0, c1, c2, c3, c4, c5, c6, c7, c8, c9, c10, c11⟩ := pv_cells (k := 12 + k * 12) (HA.out.blk _ (List.Mem.head _)) hp (by omega)
      have lg := lt_of_block (HA.out.blk _ (List.Mem.head _))
      have HK := Lib.hid (HA.out.al (pvBox p) (n := wr.heap.size) rfl)
      clear hp
      go_upto_region 6 with (fail)
      clear c0 c1 c2 c3 c4 c5 c6 c7 c8 c9 c10 c11 lg
      have HPB := Lib.hid (HK.out.blk _ (List.Mem.head _))
      obtain ⟨W9, hW9⟩ : ∃ W9, W9 = wr.alloc (pvBox p) := ⟨_, rfl⟩
      obtain ⟨P9, hP9⟩ : ∃ P9, P9 = wr.heap.size := ⟨_, rfl⟩
      change Code.wp _ _ _ _ (wr.alloc (pvBox p))
      rw [← hW9, ← hP9] at HK HPB
      rw [← hW9, ← hP9]
      clear hW9 hP9
      go_cut [5, 6] (fun a b wx => ∃ A B : Nat, a = .pointer (some ⟨A, 0, none⟩) ∧ b = .pointer (some ⟨B, 0, none⟩) ∧ Hid (Kv w wx [(B, vobj (vl p.2)), (A, vobj (vl p.1)), (P9, pvBox p), (g, pvObj prs)]))
      case first =>
        refine wp_region_inv (SqA W9 P9 p) (by kernel_rfl) (by kernel_rfl) ?_ ?_ ?_
        · exact ⟨(Below.refl _ _).drew, fun h => absurd h Bool.false_ne_true, fun h => absurd h Bool.false_ne_true, fun h => absurd h Bool.false_ne_true, fun h => absurd h Bool.false_ne_true, fun h => absurd h Bool.false_ne_true, fun h => absurd h Bool.false_ne_true, fun h => absurd h Bool.false_ne_true, fun h => absurd h Bool.false_ne_true, fun h => absurd h Bool.false_ne_true⟩
        · refine AllS.consN 1 (some 32) rfl rfl ?_ (AllS.consN 2 (some 33) rfl rfl ?_ (AllS.consN 3 (some 34) rfl rfl ?_ (AllS.consN 4 (some 35) rfl rfl ?_ (AllS.consN 5 (some 5) rfl rfl ?_ (AllS.consN 6 (some 6) rfl rfl ?_ (AllS.consN 7 none rfl rfl ?_ (AllS.consN 8 none rfl rfl ?_ AllS.nil)))))))
          · intro L s w2 h hk hd hn
            have s4 : s 4 = _ := hk 4 (by kernel_rfl)
            refine stepS rfl fun K hK => ?_
            go_simp
            exact hK _ _ { h with e0 := fun _ => rfl }
          · intro L s w2 h hk hd hn
            have s32 := h.e0 hd.1
            obtain ⟨c0, c1, c2, c3, c4, c5, c6, c7, c8, c9, c10, c11⟩ := pvBox_all ((h.bel.block _ (lt_of_block HPB.out)).trans HPB.out)
            refine stepS rfl fun K hK => ?_
            go_simp
            exact hK _ _ { h with e1 := fun _ => rfl }
          · intro L s w2 h hk hd hn
            have s4 : s 4 = _ := hk 4 (by kernel_rfl)
            refine stepS rfl fun K hK => ?_
            go_simp
            exact hK _ _ { h with e2 := fun _ => rfl }
          · intro L s w2 h hk hd hn
            have s34 := h.e2 hd.1
            obtain ⟨c0, c1, c2, c3, c4, c5, c6, c7, c8, c9, c10, c11⟩ := pvBox_all ((h.bel.block _ (lt_of_block HPB.out)).trans HPB.out)
            refine stepS rfl fun K hK => ?_
            go_simp
            exact hK _ _ { h with e3 := fun _ => rfl }
          · intro L s w2 h hk hd hn
            refine stepS rfl fun K hK => ?_
            go_simp
            exact hK _ _ { h with bel := below_alloc h.bel _, e4 := fun _ => BxV.new h.bel.size (fun g => by rw [h.d6 g] at hn; cases hn), e5 := fun d => (h.e5 d).al _, ne := fun _ d => fun g => (h.e5 d).lt g.symm, d6 := fun _ => rfl }
          · intro L s w2 h hk hd hn
            refine stepS rfl fun K hK => ?_
            go_simp
            exact hK _ _ { h with bel := below_alloc h.bel _, e5 := fun _ => BxV.new h.bel.size (fun g => by rw [h.d7 g] at hn; cases hn), e4 := fun d => (h.e4 d).al _, ne := fun d _ => (h.e4 d).lt, d7 := fun _ => rfl }
          · intro L s w2 h hk hd hn
            obtain ⟨g, s5, hg, u, hu, -⟩ := h.e4 hd.1
            have s33 := h.e1 hd.2.1
            obtain ⟨c0, c1, c2, c3, c4, c5⟩ := vobj_six hu
            have f0 := vobj_free hu 0
            have f1 := vobj_free hu 1
            have f2 := vobj_free hu 2
            have f3 := vobj_free hu 3
            have f4 := vobj_free hu 4
            have f5 := vobj_free hu 5
            have l := lt_of_block hu
            refine stepS rfl fun K hK => ?_
            go_simp
            exact hK _ _ { h with bel := bel6 h.bel hg _ _ _ _ _ _, e4 := fun _ => ⟨g, s5, hg, p.1, same6 hu p.1, fun _ => rfl⟩, e5 := fun d => (h.e5 d).set (by rw [← s5]; exact (h.ne hd.1 d).symm), d6 := fun _ => hd.1 }
          · intro L s w2 h hk hd hn
            obtain ⟨g, s6, hg, u, hu, -⟩ := h.e5 hd.1
            have s35 := h.e3 hd.2.1
            obtain ⟨c0, c1, c2, c3, c4, c5⟩ := vobj_six hu
            have f0 := vobj_free hu 0
            have f1 := vobj_free hu 1
            have f2 := vobj_free hu 2
            have f3 := vobj_free hu 3
            have f4 := vobj_free hu 4
            have f5 := vobj_free hu 5
            have l := lt_of_block hu
            refine stepS rfl fun K hK => ?_
            go_simp
            exact hK _ _ { h with bel := bel6 h.bel hg _ _ _ _ _ _, e5 := fun _ => ⟨g, s6, hg, p.2, same6 hu p.2, fun _ => rfl⟩, e4 := fun d => (h.e4 d).set (by rw [← s6]; exact h.ne d hd.1), d7 := fun _ => hd.1 }
        · intro L s w2 h hk hl
          obtain ⟨ga, sa, ha1, ua, ha2, za⟩ := h.e4 (hl 4 (by decide))
          obtain rfl := za (hl 6 (by decide))
          obtain ⟨gb, sb, hb1, ub, hb2, zb⟩ := h.e5 (hl 5 (by decide))
          obtain rfl := zb (hl 7 (by decide))
          rename_i J K' hR hM
          refine hM _ _ (Met.intro (hR _ _ ?_))
          repeat apply Exists.intro
          refine ⟨⟨ga, gb, sa, sb, Lib.hid ⟨(HK.out.on h.bel).bel, fun q hq => by
            rcases List.mem_cons.1 hq with rfl | hq
            · exact hb2
            rcases List.mem_cons.1 hq with rfl | hq
            · exact ha2
            exact (HK.out.on h.bel).blk q hq⟩⟩, ?_⟩
          refine congrArg (fun l => (⟨List.toArray l, []⟩ : Act)) ?_
          show [s 0, s 1, s 2, s 3, s 4, s 5, s 6, s 7, s 8, s 9, s 10, s 11, s 12, s 13, s 14, s 15, s 16, s 17, s 18, s 19, s 20, s 21, s 22, s 23, s 24, s 25, s 26, s 27, s 28, s 29, s 30, s 31, s 32, s 33, s 34, s 35, s 36, s 37, s 38, s 39, s 40, s 41, s 42, s 43, s 44, s 45, s 46, s 47, s 48, s 49, s 50, s 51, s 52, s 53, s 54, s 55, s 56, s 57, s 58, s 59, s 60, s 61, s 62, s 63, s 64, s 65, s 66, s 67, s 68, s 69, s 70, s 71, s 72, s 73, s 74, s 75, s 76, s 77, s 78, s 79, s 80, s 81, s 82, s 83, s 84, s 85, s 86, s 87, s 88, s 89, s 90, s 91, s 92, s 93, s 94, s 95, s 96, s 97, s 98, s 99, s 100, s 101, s 102, s 103, s 104, s 105, s 106, s 107, s 108, s 109, s 110, s 111, s 112, s 113, s 114, s 115, s 116, s 117, s 118, s 119, s 120, s 121, s 122, s 123, s 124, s 125, s 126, s 127, s 128, s 129, s 130, s 131, s 132, s 133, s 134, s 135, s 136, s 137, s 138, s 139, s 140, s 141, s 142, s 143, s 144, s 145, s 146, s 147, s 148, s 149, s 150, s 151, s 152, s 153, s 154, s 155, s 156, s 157, s 158, s 159, s 160, s 161, s 162, s 163, s 164, s 165, s 166, s 167, s 168] = _
          exact lc (hk 0 (by kernel_rfl)) (lc (hk 1 (by kernel_rfl)) (lc (hk 2 (by kernel_rfl)) (lc (hk 3 (by kernel_rfl)) (lc (hk 4 (by kernel_rfl)) (lc rfl (lc rfl (lc (hk 7 (by kernel_rfl)) (lc (hk 8 (by kernel_rfl)) (lc (hk 9 (by kernel_rfl)) (lc (hk 10 (by kernel_rfl)) (lc (hk 11 (by kernel_rfl)) (lc (hk 12 (by kernel_rfl)) (lc (hk 13 (by kernel_rfl)) (lc (hk 14 (by kernel_rfl)) (lc (hk 15 (by kernel_rfl)) (lc (hk 16 (by kernel_rfl)) (lc (hk 17 (by kernel_rfl)) (lc (hk 18 (by kernel_rfl)) (lc (hk 19 (by kernel_rfl)) (lc (hk 20 (by kernel_rfl)) (lc (hk 21 (by kernel_rfl)) (lc (hk 22 (by kernel_rfl)) (lc (hk 23 (by kernel_rfl)) (lc (hk 24 (by kernel_rfl)) (lc (hk 25 (by kernel_rfl)) (lc (hk 26 (by kernel_rfl)) (lc (hk 27 (by kernel_rfl)) (lc (hk 28 (by kernel_rfl)) (lc (hk 29 (by kernel_rfl)) (lc (hk 30 (by kernel_rfl)) (lc (hk 31 (by kernel_rfl)) (lc rfl (lc rfl (lc rfl (lc rfl (lc (hk 36 (by kernel_rfl)) (lc (hk 37 (by kernel_rfl)) (lc (hk 38 (by kernel_rfl)) (lc (hk 39 (by kernel_rfl)) (lc (hk 40 (by kernel_rfl)) (lc (hk 41 (by kernel_rfl)) (lc (hk 42 (by kernel_rfl)) (lc (hk 43 (by kernel_rfl)) (lc (hk 44 (by kernel_rfl)) (lc (hk 45 (by kernel_rfl)) (lc (hk 46 (by kernel_rfl)) (lc (hk 47 (by kernel_rfl)) (lc (hk 48 (by kernel_rfl)) (lc (hk 49 (by kernel_rfl)) (lc (hk 50 (by kernel_rfl)) (lc (hk 51 (by kernel_rfl)) (lc (hk 52 (by kernel_rfl)) (lc (hk 53 (by kernel_rfl)) (lc (hk 54 (by kernel_rfl)) (lc (hk 55 (by kernel_rfl)) (lc (hk 56 (by kernel_rfl)) (lc (hk 57 (by kernel_rfl)) (lc (hk 58 (by kernel_rfl)) (lc (hk 59 (by kernel_rfl)) (lc (hk 60 (by kernel_rfl)) (lc (hk 61 (by kernel_rfl)) (lc (hk 62 (by kernel_rfl)) (lc (hk 63 (by kernel_rfl)) (lc (hk 64 (by kernel_rfl)) (lc (hk 65 (by kernel_rfl)) (lc (hk 66 (by kernel_rfl)) (lc (hk 67 (by kernel_rfl)) (lc (hk 68 (by kernel_rfl)) (lc (hk 69 (by kernel_rfl)) (lc (hk 70 (by kernel_rfl)) (lc (hk 71 (by kernel_rfl)) (lc (hk 72 (by kernel_rfl)) (lc (hk 73 (by kernel_rfl)) (lc (hk 74 (by kernel_rfl)) (lc (hk 75 (by kernel_rfl)) (lc (hk 76 (by kernel_rfl)) (lc (hk 77 (by kernel_rfl)) (lc (hk 78 (by kernel_rfl)) (lc (hk 79 (by kernel_rfl)) (lc (hk 80 (by kernel_rfl)) (lc (hk 81 (by kernel_rfl)) (lc (hk 82 (by kernel_rfl)) (lc (hk 83 (by kernel_rfl)) (lc (hk 84 (by kernel_rfl)) (lc (hk 85 (by kernel_rfl)) (lc (hk 86 (by kernel_rfl)) (lc (hk 87 (by kernel_rfl)) (lc (hk 88 (by kernel_rfl)) (lc (hk 89 (by kernel_rfl)) (lc (hk 90 (by kernel_rfl)) (lc (hk 91 (by kernel_rfl)) (lc (hk 92 (by kernel_rfl)) (lc (hk 93 (by kernel_rfl)) (lc (hk 94 (by kernel_rfl)) (lc (hk 95 (by kernel_rfl)) (lc (hk 96 (by kernel_rfl)) (lc (hk 97 (by kernel_rfl)) (lc (hk 98 (by kernel_rfl)) (lc (hk 99 (by kernel_rfl)) (lc (hk 100 (by kernel_rfl)) (lc (hk 101 (by kernel_rfl)) (lc (hk 102 (by kernel_rfl)) (lc (hk 103 (by kernel_rfl)) (lc (hk 104 (by kernel_rfl)) (lc (hk 105 (by kernel_rfl)) (lc (hk 106 (by kernel_rfl)) (lc (hk 107 (by kernel_rfl)) (lc (hk 108 (by kernel_rfl)) (lc (hk 109 (by kernel_rfl)) (lc (hk 110 (by kernel_rfl)) (lc (hk 111 (by kernel_rfl)) (lc (hk 112 (by kernel_rfl)) (lc (hk 113 (by kernel_rfl)) (lc (hk 114 (by kernel_rfl)) (lc (hk 115 (by kernel_rfl)) (lc (hk 116 (by kernel_rfl)) (lc (hk 117 (by kernel_rfl)) (lc (hk 118 (by kernel_rfl)) (lc (hk 119 (by kernel_rfl)) (lc (hk 120 (by kernel_rfl)) (lc (hk 121 (by kernel_rfl)) (lc (hk 122 (by kernel_rfl)) (lc (hk 123 (by kernel_rfl)) (lc (hk 124 (by kernel_rfl)) (lc (hk 125 (by kernel_rfl)) (lc (hk 126 (by kernel_rfl)) (lc (hk 127 (by kernel_rfl)) (lc (hk 128 (by kernel_rfl)) (lc (hk 129 (by kernel_rfl)) (lc (hk 130 (by kernel_rfl)) (lc (hk 131 (by kernel_rfl)) (lc (hk 132 (by kernel_rfl)) (lc (hk 133 (by kernel_rfl)) (lc (hk 134 (by kernel_rfl)) (lc (hk 135 (by kernel_rfl)) (lc (hk 136 (by kernel_rfl)) (lc (hk 137 (by kernel_rfl)) (lc (hk 138 (by kernel_rfl)) (lc (hk 139 (by kernel_rfl)) (lc (hk 140 (by kernel_rfl)) (lc (hk 141 (by kernel_rfl)) (lc (hk 142 (by kernel_rfl)) (lc (hk 143 (by kernel_rfl)) (lc (hk 144 (by kernel_rfl)) (lc (hk 145 (by kernel_rfl)) (lc (hk 146 (by kernel_rfl)) (lc (hk 147 (by kernel_rfl)) (lc (hk 148 (by kernel_rfl)) (lc (hk 149 (by kernel_rfl)) (lc (hk 150 (by kernel_rfl)) (lc (hk 151 (by kernel_rfl)) (lc (hk 152 (by kernel_rfl)) (lc (hk 153 (by kernel_rfl)) (lc (hk 154 (by kernel_rfl)) (lc (hk 155 (by kernel_rfl)) (lc (hk 156 (by kernel_rfl)) (lc (hk 157 (by kernel_rfl)) (lc (hk 158 (by kernel_rfl)) (lc (hk 159 (by kernel_rfl)) (lc (hk 160 (by kernel_rfl)) (lc (hk 161 (by kernel_rfl)) (lc (hk 162 (by kernel_rfl)) (lc (hk 163 (by kernel_rfl)) (lc (hk 164 (by kernel_rfl)) (lc (hk 165 (by kernel_rfl)) (lc (hk 166 (by kernel_rfl)) (lc (hk 167 (by kernel_rfl)) (lc (hk 168 (by kernel_rfl)) rfl))))))))))))))))))))))))))))))))))))))))))))))))))))))))))))))))))))))))))))))))))))))))))))))))))))))))))))))))))))))))))))))))))))))))))))))))))))))))))))))))))))))))
      case rest =>
        obtain ⟨A, B, rfl, rfl, HB⟩ := hcut
        clear HK HPB
        have hK := HB.out
        clear HB
        obtain ⟨vc, Hc⟩ : ∃ r, Hid (vCross p.1 p.2 = r) := ⟨_, Lib.hid rfl⟩
        obtain ⟨vd, Hd⟩ : ∃ r, Hid (vDot p.1 vc.1 = r) := ⟨_, Lib.hid rfl⟩
        obtain ⟨vn, Hn⟩ : ∃ r, Hid (vNorm p.1 = r) := ⟨_, Lib.hid rfl⟩
        obtain ⟨vy, Hy⟩ : ∃ r, Hid (vDot p.1 p.1 = r) := ⟨_, Lib.hid rfl⟩
        obtain ⟨vq, Hq⟩ : ∃ r, Hid (sPow vn.1 2 = r) := ⟨_, Lib.hid rfl⟩
        obtain ⟨vz, Hz⟩ : ∃ r, Hid (sMeet vq.1 vy.1 = r) := ⟨_, Lib.hid rfl⟩
        obtain ⟨vu, Hu⟩ : ∃ r, Hid (vUnit p.1 = r) := ⟨_, Lib.hid rfl⟩
        obtain ⟨vo, Ho⟩ : ∃ r, Hid (vNorm vu.1 = r) := ⟨_, Lib.hid rfl⟩
        obtain ⟨vm, Hm⟩ : ∃ r, Hid (vNorm p.2 = r) := ⟨_, Lib.hid rfl⟩
        obtain ⟨vs, Hs⟩ : ∃ r, Hid (vAdd p.1 p.2 = r) := ⟨_, Lib.hid rfl⟩
        obtain ⟨vt, Ht⟩ : ∃ r, Hid (vNorm vs.1 = r) := ⟨_, Lib.hid rfl⟩
        have FQ1 := Lib.hid (cross_right HO.out.1 HO.out.2)
        rw [Hc.out, Hd.out] at FQ1
        have FQ2 := Lib.hid (norm_meet HO.out.1)
        rw [Hn.out, Hy.out, Hq.out, Hz.out] at FQ2
        have FQ3 := Lib.hid (unit_one HO.out.1)
        rw [Hu.out, Ho.out] at FQ3
        have FQ4 := Lib.hid (norm_sum HO.out.1 HO.out.2)
        rw [Hn.out, Hm.out, Hs.out, Ht.out] at FQ4
        have FQ5 := Lib.hid (vNorm_okS p.1)
        have FQ6 := Lib.hid (vNorm_okS p.2)
        rw [Hn.out] at FQ5
        rw [Hm.out] at FQ6
        obtain ⟨cA0, cA1, cA2, cA3, cA4, cA5⟩ := vobj_six (hK.blk _ (List.Mem.tail _ (List.Mem.head _)))
        have lA := lt_of_block (hK.blk _ (List.Mem.tail _ (List.Mem.head _)))
        obtain ⟨cB0, cB1, cB2, cB3, cB4, cB5⟩ := vobj_six (hK.blk _ (List.Mem.head _))
        have lB := lt_of_block (hK.blk _ (List.Mem.head _))
        go_wp2_with fail
        refine (vCrossK p.1 p.2 vc.1 vc.2 Hc.out _).mono ?_; rintro e w1 ⟨rfl, hb⟩
        replace hK := hK.on hb
        clear cA0 cA1 cA2 cA3 cA4 cA5 lA cB0 cB1 cB2 cB3 cB4 cB5 lB hb
        replace hK : Kv w (w1.alloc (.cells #[.int .i64 vc.1.1.1, .int .i64 vc.1.1.2, .int .i64 vc.1.2.1.1, .int .i64 vc.1.2.1.2, .int .i64 vc.1.2.2.1, .int .i64 vc.1.2.2.2] 25)) [(w1.heap.size, vobj (vl vc.1)), (B, vobj (vl p.2)), (A, vobj (vl p.1)), (P9, pvBox p), (g, pvObj prs)] := hK.al (vobj (vl vc.1)) (n := w1.heap.size) (by simp)
        obtain ⟨cA0, cA1, cA2, cA3, cA4, cA5⟩ := vobj_six (hK.blk _ (List.Mem.tail _ (List.Mem.tail _ (List.Mem.head _))))
        have lA := lt_of_block (hK.blk _ (List.Mem.tail _ (List.Mem.tail _ (List.Mem.head _))))
        obtain ⟨cx70, cx71, cx72, cx73, cx74, cx75⟩ := vobj_six (hK.blk _ (List.Mem.head _))
        have lx7 := lt_of_block (hK.blk _ (List.Mem.head _))
        go_wp2_with fail
        refine (vDotK p.1 vc.1 vd.1 vd.2 Hd.out _).mono ?_; rintro e w2 ⟨rfl, hb⟩
        replace hK := hK.on hb
        clear cA0 cA1 cA2 cA3 cA4 cA5 lA cx70 cx71 cx72 cx73 cx74 cx75 lx7 hb
        have gx9 : w.heap.size ≤ w2.heap.size := by have h := hK.bel.size; first | exact h | (simp at h; omega)
        have nx9_g : w2.heap.size ≠ g := by have h := lt_of_block (hK.blk _ (List.Mem.tail _ (List.Mem.tail _ (List.Mem.tail _ (List.Mem.tail _ (List.Mem.head _)))))); first | exact Nat.ne_of_gt h | (simp at h; omega)
        have nx9_P : w2.heap.size ≠ P9 := by have h := lt_of_block (hK.blk _ (List.Mem.tail _ (List.Mem.tail _ (List.Mem.tail _ (List.Mem.head _))))); first | exact Nat.ne_of_gt h | (simp at h; omega)
        have nx9_A : w2.heap.size ≠ A := by have h := lt_of_block (hK.blk _ (List.Mem.tail _ (List.Mem.tail _ (List.Mem.head _)))); first | exact Nat.ne_of_gt h | (simp at h; omega)
        have nx9_B : w2.heap.size ≠ B := by have h := lt_of_block (hK.blk _ (List.Mem.tail _ (List.Mem.head _))); first | exact Nat.ne_of_gt h | (simp at h; omega)
        have nx9_x7 : w2.heap.size ≠ w1.heap.size := by have h := lt_of_block (hK.blk _ (List.Mem.head _)); first | exact Nat.ne_of_gt h | (simp at h; omega)
        replace hK : Kv w (w2.alloc (.cells #[.int .i64 vd.1.1, .int .i64 vd.1.2] 23)) [(w2.heap.size, .cells #[.int .i64 vd.1.1, .int .i64 vd.1.2] 23 (0, 0)), (w1.heap.size, vobj (vl vc.1)), (B, vobj (vl p.2)), (A, vobj (vl p.1)), (P9, pvBox p), (g, pvObj prs)] := hK.al (.cells #[.int .i64 vd.1.1, .int .i64 vd.1.2] 23 (0, 0)) (n := w2.heap.size) (by simp)
        go_upto_region 9 with (fail)
        replace hK := hK.sub (cs := [(w2.heap.size, .cells #[.int .i64 vd.1.1, .int .i64 vd.1.2] 23 (0, 0)), (B, vobj (vl p.2)), (A, vobj (vl p.1)), (g, pvObj prs)]) (by simp)
        have HE := Lib.hid hK
        generalize (w2.alloc (.cells #[.int .i64 vd.1.1, .int .i64 vd.1.2] 23)) = WW at *
        refine wp_cut_merge [none, none, none, none, none, none, none, none, some 8, none, some 10, none, none, none, none, none, none, none, none, none, none, none, none, none, none, none, none, none, none, some 29, some 30, some 31, some 32, some 33, some 34, some 35, some 36, some 37, some 38, some 39, some 40, some 41, some 42, some 43, some 44, some 45, some 46, some 47, some 48, some 49, some 50, some 51, some 52, some 53, some 54, some 55, some 56, some 57, some 58, some 59, some 60, some 61, some 62, some 63, some 64, some 65, some 66, some 67, some 68, some 69, some 70, some 71, some 72, some 73, some 74, some 75, some 76, some 77, some 78, some 79, some 80, some 81, some 82, some 83, some 84, some 85, some 86, some 87, some 88, some 89, some 90, some 91, some 92, some 93, some 94, some 95, some 96, some 97, some 98, some 99, some 100, some 101, some 102, some 103, some 104, some 105, some 106, some 107, some 108, some 109, some 110, some 111, some 112, some 113, some 114, some 115, some 116, some 117, some 118, some 119, some 120, some 121, some 122, some 123, some 124, some 125, some 126, some 127, some 128, some 129, some 130, some 131, some 132, some 133, some 134, some 135, some 136, some 137, some 138, some 139, some 140, some 141, some 142, some 143, some 144, some 145, some 146, some 147, some 148, some 149, some 150, some 151, some 152, some 153, some 154, some 155, some 156, some 157, some 158, some 159, some 160, some 161, some 162, some 163, some 164, some 165, some 166, some 167, some 168] (fun s wx => s 63 = .bool false ∧ Hid (Kv w wx [(w2.heap.size, .cells #[.int .i64 vd.1.1, .int .i64 vd.1.2] 23 (0, 0)), (B, vobj (vl p.2)), (A, vobj (vl p.1)), (g, pvObj prs)])) ?_ ?_
        · intro Q2 hQ2
          have cx90 := cell_two0 (hK.blk _ (List.Mem.head _))
          have cx91 := cell_two1 (hK.blk _ (List.Mem.head _))
          have lx9 := lt_of_block (hK.blk _ (List.Mem.head _))
          clear hK
          by_cases he : vc.2 = 0
          rotate_left
          · have q0 : (vc.2 == 0) = false := by simp [he]
            clear he
            go_wp2_with fail
            exact merge_meet hQ2 (by kernel_rfl) ⟨by first | rfl | (simp; omega), HE⟩
          have q0 : (vc.2 == 0) = true := by simp [he]
          have HE0 := Lib.hid he
          clear he
          by_cases he : vd.2 = 0
          rotate_left
          · have q1 : (vd.2 == 0) = false := by simp [he]
            clear he
            go_wp2_with fail
            exact merge_meet hQ2 (by kernel_rfl) ⟨by first | rfl | (simp; omega), HE⟩
          have q1 : (vd.2 == 0) = true := by simp [he]
          have HE1 := Lib.hid he
          clear he
          obtain ⟨z1, z2⟩ := FQ1.out HE0.out HE1.out
          have z3 : decide (0 < vd.1.1) = false := by simp; omega
          have z4 : decide (vd.1.2 < 0) = false := by simp; omega
          clear z1 z2
          go_wp2_with fail
          exact merge_meet hQ2 (by kernel_rfl) ⟨by first | rfl | (simp; omega), HE⟩
        · rintro s wc ⟨e63, HE⟩
          simp only [mergeL, e63]
          clear e63
          have hK := HE.out
          clear HE
          obtain ⟨cA0, cA1, cA2, cA3, cA4, cA5⟩ := vobj_six (hK.blk _ (List.Mem.tail _ (List.Mem.tail _ (List.Mem.head _))))
          have lA := lt_of_block (hK.blk _ (List.Mem.tail _ (List.Mem.tail _ (List.Mem.head _))))
          go_wp2_with fail
          refine (vNormK p.1 vn.1 vn.2 Hn.out _).mono ?_; rintro e w3 ⟨rfl, hb⟩
          replace hK := hK.on hb
          clear cA0 cA1 cA2 cA3 cA4 cA5 lA hb
          have nx11_x9 : w3.heap.size ≠ w2.heap.size := by have h := lt_of_block (hK.blk _ (List.Mem.head _)); first | exact Nat.ne_of_gt h | (simp at h; omega)
          replace hK : Kv w (w3.alloc (.cells #[.int .i64 vn.1.1, .int .i64 vn.1.2] 23)) [(w3.heap.size, .cells #[.int .i64 vn.1.1, .int .i64 vn.1.2] 23 (0, 0)), (w2.heap.size, .cells #[.int .i64 vd.1.1, .int .i64 vd.1.2] 23 (0, 0)), (B, vobj (vl p.2)), (A, vobj (vl p.1)), (g, pvObj prs)] := hK.al (.cells #[.int .i64 vn.1.1, .int .i64 vn.1.2] 23 (0, 0)) (n := w3.heap.size) (by simp)
          obtain ⟨cA0, cA1, cA2, cA3, cA4, cA5⟩ := vobj_six (hK.blk _ (List.Mem.tail _ (List.Mem.tail _ (List.Mem.tail _ (List.Mem.head _)))))
          have lA := lt_of_block (hK.blk _ (List.Mem.tail _ (List.Mem.tail _ (List.Mem.tail _ (List.Mem.head _)))))
          go_wp2_with fail
          refine (vDotK p.1 p.1 vy.1 vy.2 Hy.out _).mono ?_; rintro e w4 ⟨rfl, hb⟩
          replace hK := hK.on hb
          clear cA0 cA1 cA2 cA3 cA4 cA5 lA hb
          have cx90 := cell_two0 (hK.blk _ (List.Mem.tail _ (List.Mem.head _)))
          have cx91 := cell_two1 (hK.blk _ (List.Mem.tail _ (List.Mem.head _)))
          have lx9 := lt_of_block (hK.blk _ (List.Mem.tail _ (List.Mem.head _)))
          have fx90 := free_two (i := 0) (hK.blk _ (List.Mem.tail _ (List.Mem.head _)))
          have fx91 := free_two (i := 1) (hK.blk _ (List.Mem.tail _ (List.Mem.head _)))
          replace hK := hK.setb (cs := [(w3.heap.size, .cells #[.int .i64 vn.1.1, .int .i64 vn.1.2] 23 (0, 0)), (w2.heap.size, .cells #[.int .i64 vy.1.1, .int .i64 vy.1.2] 23 (0, 0)), (B, vobj (vl p.2)), (A, vobj (vl p.1)), (g, pvObj prs)]) (List.Mem.tail _ (List.Mem.head _)) gx9 vy.1 (List.forall_mem_cons.2 ⟨.inr ⟨(List.Mem.head _), nx11_x9⟩, (List.forall_mem_cons.2 ⟨.inl rfl, (List.forall_mem_cons.2 ⟨.inr ⟨(List.Mem.tail _ (List.Mem.tail _ (List.Mem.head _))), (Ne.symm nx9_B)⟩, (List.forall_mem_cons.2 ⟨.inr ⟨(List.Mem.tail _ (List.Mem.tail _ (List.Mem.tail _ (List.Mem.head _)))), (Ne.symm nx9_A)⟩, (List.forall_mem_cons.2 ⟨.inr ⟨(List.Mem.tail _ (List.Mem.tail _ (List.Mem.tail _ (List.Mem.tail _ (List.Mem.head _))))), (Ne.symm nx9_g)⟩, (List.forall_mem_nil _)⟩)⟩)⟩)⟩)⟩)
          have cx110 := cell_two0 (hK.blk _ (List.Mem.head _))
          have cx111 := cell_two1 (hK.blk _ (List.Mem.head _))
          have lx11 := lt_of_block (hK.blk _ (List.Mem.head _))
          go_wp2_with fail
          refine (sqrK vn.1 vq.1 vq.2 Hq.out _).mono ?_; rintro e w5 ⟨rfl, hb⟩
          replace hK := hK.on hb
          clear cx90 cx91 lx9 fx90 fx91 cx110 cx111 lx11 hb
          have nx12_x9 : w5.heap.size ≠ w2.heap.size := by have h := lt_of_block (hK.blk _ (List.Mem.tail _ (List.Mem.head _))); first | exact Nat.ne_of_gt h | (simp at h; omega)
          replace hK : Kv w (w5.alloc (.cells #[.int .i64 vq.1.1, .int .i64 vq.1.2] 23)) [(w5.heap.size, .cells #[.int .i64 vq.1.1, .int .i64 vq.1.2] 23 (0, 0)), (w3.heap.size, .cells #[.int .i64 vn.1.1, .int .i64 vn.1.2] 23 (0, 0)), (w2.heap.size, .cells #[.int .i64 vy.1.1, .int .i64 vy.1.2] 23 (0, 0)), (B, vobj (vl p.2)), (A, vobj (vl p.1)), (g, pvObj prs)] := hK.al (.cells #[.int .i64 vq.1.1, .int .i64 vq.1.2] 23 (0, 0)) (n := w5.heap.size) (by simp)
          go_upto_region 14 with (fail)
          replace hK := hK.sub (cs := [(w5.heap.size, .cells #[.int .i64 vq.1.1, .int .i64 vq.1.2] 23 (0, 0)), (w3.heap.size, .cells #[.int .i64 vn.1.1, .int .i64 vn.1.2] 23 (0, 0)), (w2.heap.size, .cells #[.int .i64 vy.1.1, .int .i64 vy.1.2] 23 (0, 0)), (B, vobj (vl p.2)), (A, vobj (vl p.1)), (g, pvObj prs)]) (by simp)
          have HE := Lib.hid hK
          generalize (w5.alloc (.cells #[.int .i64 vq.1.1, .int .i64 vq.1.2] 23)) = WW at *
          refine wp_cut_merge [none, none, none, none, none, none, none, none, some 8, none, some 10, none, none, some 13, none, none, none, none, none, none, none, none, none, none, none, none, none, none, none, some 29, some 30, some 31, some 32, some 33, some 34, some 35, some 36, some 37, some 38, some 39, some 40, some 41, some 42, some 43, some 44, some 45, some 46, some 47, some 48, some 49, some 50, some 51, some 52, some 53, some 54, some 55, some 56, some 57, some 58, some 59, some 60, some 61, some 62, some 63, some 64, some 65, some 66, some 67, some 68, some 69, some 70, some 71, some 72, some 73, some 74, some 75, some 76, some 77, some 78, some 79, some 80, some 81, some 82, some 83, some 84, some 85, some 86, some 87, some 88, some 89, some 90, some 91, some 92, some 93, some 94, some 95, some 96, some 97, some 98, some 99, some 100, some 101, some 102, some 103, some 104, some 105, some 106, some 107, some 108, some 109, some 110, some 111, some 112, some 113, some 114, some 115, some 116, some 117, some 118, some 119, some 120, some 121, some 122, some 123, some 124, some 125, some 126, some 127, some 128, some 129, some 130, some 131, some 132, some 133, some 134, some 135, some 136, some 137, some 138, some 139, some 140, some 141, some 142, some 143, some 144, some 145, some 146, some 147, some 148, some 149, some 150, some 151, some 152, some 153, some 154, some 155, some 156, some 157, some 158, some 159, some 160, some 161, some 162, some 163, some 164, some 165, some 166, some 167, some 168] (fun s wx => (∃ bb : Bool, s 89 = .bool bb ∧ Hid (bb = true → vn.2 = 0 ∧ vy.2 = 0 ∧ vq.2 = 0)) ∧ s 8 = .int .i64 vn.2 ∧ Hid (Kv w wx [(w5.heap.size, .cells #[.int .i64 vq.1.1, .int .i64 vq.1.2] 23 (0, 0)), (w3.heap.size, .cells #[.int .i64 vn.1.1, .int .i64 vn.1.2] 23 (0, 0)), (w2.heap.size, .cells #[.int .i64 vy.1.1, .int .i64 vy.1.2] 23 (0, 0)), (B, vobj (vl p.2)), (A, vobj (vl p.1)), (g, pvObj prs)])) ?_ ?_
          · intro Q2 hQ2
            clear hK
            by_cases he : vn.2 = 0
            rotate_left
            · have q0 : (vn.2 == 0) = false := by simp [he]
              clear he
              go_wp2_with fail
              exact merge_meet hQ2 (by kernel_rfl) ⟨⟨false, rfl, Lib.hid fun h => Bool.noConfusion h⟩, rfl, HE⟩
            have q0 : (vn.2 == 0) = true := by simp [he]
            have HE0 := Lib.hid he
            clear he
            by_cases he : vy.2 = 0
            rotate_left
            · have q1 : (vy.2 == 0) = false := by simp [he]
              clear he
              go_wp2_with fail
              exact merge_meet hQ2 (by kernel_rfl) ⟨⟨false, rfl, Lib.hid fun h => Bool.noConfusion h⟩, by first | rfl | exact congrArg (Value.int .i64) HE0.out.symm, HE⟩
            have q1 : (vy.2 == 0) = true := by simp [he]
            have HE1 := Lib.hid he
            clear he
            by_cases he : vq.2 = 0
            rotate_left
            · have q2 : (vq.2 == 0) = false := by simp [he]
              clear he
              go_wp2_with fail
              exact merge_meet hQ2 (by kernel_rfl) ⟨⟨false, rfl, Lib.hid fun h => Bool.noConfusion h⟩, by first | rfl | exact congrArg (Value.int .i64) HE0.out.symm, HE⟩
            have q2 : (vq.2 == 0) = true := by simp [he]
            have HE2 := Lib.hid he
            clear he
            go_wp2_with fail
            exact merge_meet hQ2 (by kernel_rfl) ⟨⟨true, rfl, Lib.hid fun _ => ⟨HE0.out, HE1.out, HE2.out⟩⟩, by first | rfl | exact congrArg (Value.int .i64) HE0.out.symm, HE⟩
          · rintro s wc ⟨⟨bb, e89, HBB⟩, f0, HE⟩
            simp only [mergeL, e89, f0]
            clear e89 f0
            go_upto_if 89 with (fail)
            refine wp_cut_merge [none, none, none, none, none, none, none, none, some 8, none, some 10, none, none, some 13, some 14, some 15, none, none, none, none, none, none, none, none, none, none, none, none, none, some 29, some 30, some 31, some 32, some 33, some 34, some 35, some 36, some 37, some 38, some 39, some 40, some 41, some 42, some 43, some 44, some 45, some 46, some 47, some 48, some 49, some 50, some 51, some 52, some 53, some 54, some 55, some 56, some 57, some 58, some 59, some 60, some 61, some 62, some 63, some 64, some 65, some 66, some 67, some 68, some 69, some 70, some 71, some 72, some 73, some 74, some 75, some 76, some 77, some 78, some 79, some 80, some 81, some 82, some 83, some 84, some 85, some 86, some 87, some 88, some 89, some 90, some 91, some 92, some 93, some 94, some 95, some 96, some 97, some 98, some 99, some 100, some 101, some 102, some 103, some 104, some 105, some 106, some 107, some 108, some 109, some 110, some 111, some 112, some 113, some 114, some 115, some 116, some 117, some 118, some 119, some 120, some 121, some 122, some 123, some 124, some 125, some 126, some 127, some 128, some 129, some 130, some 131, some 132, some 133, some 134, some 135, some 136, some 137, some 138, some 139, some 140, some 141, some 142, some 143, some 144, some 145, some 146, some 147, some 148, some 149, some 150, some 151, some 152, some 153, some 154, some 155, some 156, some 157, some 158, some 159, some 160, some 161, some 162, some 163, some 164, some 165, some 166, some 167, some 168] (fun s wx => s 8 = .int .i64 vn.2 ∧ Hid (Kv w wx [(w3.heap.size, .cells #[.int .i64 vn.1.1, .int .i64 vn.1.2] 23 (0, 0)), (w2.heap.size, .cells #[.int .i64 vy.1.1, .int .i64 vy.1.2] 23 (0, 0)), (B, vobj (vl p.2)), (A, vobj (vl p.1)), (g, pvObj prs)])) ?_ ?_
            · intro Q2 hQ2
              have hK := HE.out
              clear HE
              cases bb
              · have HX := Lib.hid (hK.sub (cs := [(w3.heap.size, .cells #[.int .i64 vn.1.1, .int .i64 vn.1.2] 23 (0, 0)), (w2.heap.size, .cells #[.int .i64 vy.1.1, .int .i64 vy.1.2] 23 (0, 0)), (B, vobj (vl p.2)), (A, vobj (vl p.1)), (g, pvObj prs)]) (by simp))
                clear hK
                go_wp2_with fail
                exact merge_meet hQ2 (by kernel_rfl) ⟨rfl, HX⟩
              · obtain ⟨e1, e2, e3⟩ := HBB.out rfl
                have ez := FQ2.out e1 e2 e3
                have q0 : (vz.2 == 0) = true := by simp [ez]
                clear e1 e2 e3 ez
                have cx120 := cell_two0 (hK.blk _ (List.Mem.head _))
                have cx121 := cell_two1 (hK.blk _ (List.Mem.head _))
                have lx12 := lt_of_block (hK.blk _ (List.Mem.head _))
                have cx90 := cell_two0 (hK.blk _ (List.Mem.tail _ (List.Mem.tail _ (List.Mem.head _))))
                have cx91 := cell_two1 (hK.blk _ (List.Mem.tail _ (List.Mem.tail _ (List.Mem.head _))))
                have lx9 := lt_of_block (hK.blk _ (List.Mem.tail _ (List.Mem.tail _ (List.Mem.head _))))
                go_wp2_with fail
                refine (meetK vq.1 vy.1 vz.1 vz.2 Hz.out _).mono ?_; rintro e w6 ⟨rfl, hb⟩
                replace hK := hK.on hb
                clear cx120 cx121 lx12 cx90 cx91 lx9 hb
                have nx14_x9 : w6.heap.size ≠ w2.heap.size := by have h := lt_of_block (hK.blk _ (List.Mem.tail _ (List.Mem.tail _ (List.Mem.head _)))); first | exact Nat.ne_of_gt h | (simp at h; omega)
                replace hK : Kv w (w6.alloc (.cells #[.int .i64 vz.1.1, .int .i64 vz.1.2] 23)) [(w6.heap.size, .cells #[.int .i64 vz.1.1, .int .i64 vz.1.2] 23 (0, 0)), (w5.heap.size, .cells #[.int .i64 vq.1.1, .int .i64 vq.1.2] 23 (0, 0)), (w3.heap.size, .cells #[.int .i64 vn.1.1, .int .i64 vn.1.2] 23 (0, 0)), (w2.heap.size, .cells #[.int .i64 vy.1.1, .int .i64 vy.1.2] 23 (0, 0)), (B, vobj (vl p.2)), (A, vobj (vl p.1)), (g, pvObj prs)] := hK.al (.cells #[.int .i64 vz.1.1, .int .i64 vz.1.2] 23 (0, 0)) (n := w6.heap.size) (by simp)
                have HX := Lib.hid (hK.sub (cs := [(w3.heap.size, .cells #[.int .i64 vn.1.1, .int .i64 vn.1.2] 23 (0, 0)), (w2.heap.size, .cells #[.int .i64 vy.1.1, .int .i64 vy.1.2] 23 (0, 0)), (B, vobj (vl p.2)), (A, vobj (vl p.1)), (g, pvObj prs)]) (by simp))
                go_wp2_with fail
                exact merge_meet hQ2 (by kernel_rfl) ⟨rfl, HX⟩
            · rintro s wc ⟨f0, HE⟩
              simp only [mergeL, f0]
              clear f0
              have hK := HE.out
              clear HE HBB
              obtain ⟨cA0, cA1, cA2, cA3, cA4, cA5⟩ := vobj_six (hK.blk _ (List.Mem.tail _ (List.Mem.tail _ (List.Mem.tail _ (List.Mem.head _)))))
              have lA := lt_of_block (hK.blk _ (List.Mem.tail _ (List.Mem.tail _ (List.Mem.tail _ (List.Mem.head _)))))
              go_wp2_with fail
              refine (vUnitK p.1 vu.1 vu.2 Hu.out _).mono ?_; rintro e w7 ⟨rfl, hb⟩
              replace hK := hK.on hb
              clear cA0 cA1 cA2 cA3 cA4 cA5 lA hb
              replace hK : Kv w (w7.alloc (.cells #[.int .i64 vu.1.1.1, .int .i64 vu.1.1.2, .int .i64 vu.1.2.1.1, .int .i64 vu.1.2.1.2, .int .i64 vu.1.2.2.1, .int .i64 vu.1.2.2.2] 25)) [(w7.heap.size, vobj (vl vu.1)), (w3.heap.size, .cells #[.int .i64 vn.1.1, .int .i64 vn.1.2] 23 (0, 0)), (w2.heap.size, .cells #[.int .i64 vy.1.1, .int .i64 vy.1.2] 23 (0, 0)), (B, vobj (vl p.2)), (A, vobj (vl p.1)), (g, pvObj prs)] := hK.al (vobj (vl vu.1)) (n := w7.heap.size) (by simp)
              obtain ⟨cx160, cx161, cx162, cx163, cx164, cx165⟩ := vobj_six (hK.blk _ (List.Mem.head _))
              have lx16 := lt_of_block (hK.blk _ (List.Mem.head _))
              go_wp2_with fail
              refine (vNormK vu.1 vo.1 vo.2 Ho.out _).mono ?_; rintro e w8 ⟨rfl, hb⟩
              replace hK := hK.on hb
              clear cx160 cx161 cx162 cx163 cx164 cx165 lx16 hb
              replace hK : Kv w (w8.alloc (.cells #[.int .i64 vo.1.1, .int .i64 vo.1.2] 23)) [(w8.heap.size, .cells #[.int .i64 vo.1.1, .int .i64 vo.1.2] 23 (0, 0)), (w7.heap.size, vobj (vl vu.1)), (w3.heap.size, .cells #[.int .i64 vn.1.1, .int .i64 vn.1.2] 23 (0, 0)), (w2.heap.size, .cells #[.int .i64 vy.1.1, .int .i64 vy.1.2] 23 (0, 0)), (B, vobj (vl p.2)), (A, vobj (vl p.1)), (g, pvObj prs)] := hK.al (.cells #[.int .i64 vo.1.1, .int .i64 vo.1.2] 23 (0, 0)) (n := w8.heap.size) (by simp)
              go_upto_region 20 with (fail)
              replace hK := hK.sub (cs := [(w8.heap.size, .cells #[.int .i64 vo.1.1, .int .i64 vo.1.2] 23 (0, 0)), (w3.heap.size, .cells #[.int .i64 vn.1.1, .int .i64 vn.1.2] 23 (0, 0)), (B, vobj (vl p.2)), (A, vobj (vl p.1)), (g, pvObj prs)]) (by simp)
              have HE := Lib.hid hK
              generalize (w8.alloc (.cells #[.int .i64 vo.1.1, .int .i64 vo.1.2] 23)) = WW at *
              refine wp_cut_merge [none, none, none, none, none, none, none, none, some 8, none, some 10, none, none, some 13, none, none, none, none, none, none, none, none, none, none, none, none, none, none, none, some 29, some 30, some 31, some 32, some 33, some 34, some 35, some 36, some 37, some 38, some 39, some 40, some 41, some 42, some 43, some 44, some 45, some 46, some 47, some 48, some 49, some 50, some 51, some 52, some 53, some 54, some 55, some 56, some 57, some 58, some 59, some 60, some 61, some 62, some 63, some 64, some 65, some 66, some 67, some 68, some 69, some 70, some 71, some 72, some 73, some 74, some 75, some 76, some 77, some 78, some 79, some 80, some 81, some 82, some 83, some 84, some 85, some 86, some 87, some 88, some 89, some 90, some 91, some 92, some 93, some 94, some 95, some 96, some 97, some 98, some 99, some 100, some 101, some 102, some 103, some 104, some 105, some 106, some 107, some 108, some 109, some 110, some 111, some 112, some 113, some 114, some 115, some 116, some 117, some 118, some 119, some 120, some 121, some 122, some 123, some 124, some 125, some 126, some 127, some 128, some 129, some 130, some 131, some 132, some 133, some 134, some 135, some 136, some 137, some 138, some 139, some 140, some 141, some 142, some 143, some 144, some 145, some 146, some 147, some 148, some 149, some 150, some 151, some 152, some 153, some 154, some 155, some 156, some 157, some 158, some 159, some 160, some 161, some 162, some 163, some 164, some 165, some 166, some 167, some 168] (fun s wx => s 127 = .bool false ∧ s 8 = .int .i64 vn.2 ∧ Hid (Kv w wx [(w8.heap.size, .cells #[.int .i64 vo.1.1, .int .i64 vo.1.2] 23 (0, 0)), (w3.heap.size, .cells #[.int .i64 vn.1.1, .int .i64 vn.1.2] 23 (0, 0)), (B, vobj (vl p.2)), (A, vobj (vl p.1)), (g, pvObj prs)])) ?_ ?_
              · intro Q2 hQ2
                have cx170 := cell_two0 (hK.blk _ (List.Mem.head _))
                have cx171 := cell_two1 (hK.blk _ (List.Mem.head _))
                have lx17 := lt_of_block (hK.blk _ (List.Mem.head _))
                clear hK
                by_cases he : vn.2 = 0
                rotate_left
                · have q0 : (vn.2 == 0) = false := by simp [he]
                  clear he
                  go_wp2_with fail
                  exact merge_meet hQ2 (by kernel_rfl) ⟨by first | rfl | (simp; omega), rfl, HE⟩
                have q0 : (vn.2 == 0) = true := by simp [he]
                have HE0 := Lib.hid he
                clear he
                by_cases he : vu.2 = 0
                rotate_left
                · have q1 : (vu.2 == 0) = false := by simp [he]
                  clear he
                  go_wp2_with fail
                  exact merge_meet hQ2 (by kernel_rfl) ⟨by first | rfl | (simp; omega), by first | rfl | exact congrArg (Value.int .i64) HE0.out.symm, HE⟩
                have q1 : (vu.2 == 0) = true := by simp [he]
                have HE1 := Lib.hid he
                clear he
                by_cases he : vo.2 = 0
                rotate_left
                · have q2 : (vo.2 == 0) = false := by simp [he]
                  clear he
                  go_wp2_with fail
                  exact merge_meet hQ2 (by kernel_rfl) ⟨by first | rfl | (simp; omega), by first | rfl | exact congrArg (Value.int .i64) HE0.out.symm | exact congrArg (Value.int .i64) HE1.out.symm, HE⟩
                have q2 : (vo.2 == 0) = true := by simp [he]
                have HE2 := Lib.hid he
                clear he
                obtain ⟨z1, z2⟩ := FQ3.out HE1.out HE2.out
                have z3 : decide (4294967296 < vo.1.1) = false := by simp; omega
                have z4 : decide (vo.1.2 < 4294967296) = false := by simp; omega
                clear z1 z2
                go_wp2_with fail
                exact merge_meet hQ2 (by kernel_rfl) ⟨by first | rfl | (simp; omega), by first | rfl | exact congrArg (Value.int .i64) HE0.out.symm | exact congrArg (Value.int .i64) HE1.out.symm | exact congrArg (Value.int .i64) HE2.out.symm, HE⟩
              · rintro s wc ⟨e63, f0, HE⟩
                simp only [mergeL, e63, f0]
                clear e63 f0
                have hK := HE.out
                clear HE
                obtain ⟨cB0, cB1, cB2, cB3, cB4, cB5⟩ := vobj_six (hK.blk _ (List.Mem.tail _ (List.Mem.tail _ (List.Mem.head _))))
                have lB := lt_of_block (hK.blk _ (List.Mem.tail _ (List.Mem.tail _ (List.Mem.head _))))
                go_wp2_with fail
                refine (vNormK p.2 vm.1 vm.2 Hm.out _).mono ?_; rintro e w9 ⟨rfl, hb⟩
                replace hK := hK.on hb
                clear cB0 cB1 cB2 cB3 cB4 cB5 lB hb
                replace hK : Kv w (w9.alloc (.cells #[.int .i64 vm.1.1, .int .i64 vm.1.2] 23)) [(w9.heap.size, .cells #[.int .i64 vm.1.1, .int .i64 vm.1.2] 23 (0, 0)), (w8.heap.size, .cells #[.int .i64 vo.1.1, .int .i64 vo.1.2] 23 (0, 0)), (w3.heap.size, .cells #[.int .i64 vn.1.1, .int .i64 vn.1.2] 23 (0, 0)), (B, vobj (vl p.2)), (A, vobj (vl p.1)), (g, pvObj prs)] := hK.al (.cells #[.int .i64 vm.1.1, .int .i64 vm.1.2] 23 (0, 0)) (n := w9.heap.size) (by simp)
                obtain ⟨cA0, cA1, cA2, cA3, cA4, cA5⟩ := vobj_six (hK.blk _ (List.Mem.tail _ (List.Mem.tail _ (List.Mem.tail _ (List.Mem.tail _ (List.Mem.head _))))))
                have lA := lt_of_block (hK.blk _ (List.Mem.tail _ (List.Mem.tail _ (List.Mem.tail _ (List.Mem.tail _ (List.Mem.head _))))))
                obtain ⟨cB0, cB1, cB2, cB3, cB4, cB5⟩ := vobj_six (hK.blk _ (List.Mem.tail _ (List.Mem.tail _ (List.Mem.tail _ (List.Mem.head _)))))
                have lB := lt_of_block (hK.blk _ (List.Mem.tail _ (List.Mem.tail _ (List.Mem.tail _ (List.Mem.head _)))))
                go_wp2_with fail
                refine (vAddK p.1 p.2 vs.1 vs.2 Hs.out _).mono ?_; rintro e w10 ⟨rfl, hb⟩
                replace hK := hK.on hb
                clear cA0 cA1 cA2 cA3 cA4 cA5 lA cB0 cB1 cB2 cB3 cB4 cB5 lB hb
                replace hK : Kv w (w10.alloc (.cells #[.int .i64 vs.1.1.1, .int .i64 vs.1.1.2, .int .i64 vs.1.2.1.1, .int .i64 vs.1.2.1.2, .int .i64 vs.1.2.2.1, .int .i64 vs.1.2.2.2] 25)) [(w10.heap.size, vobj (vl vs.1)), (w9.heap.size, .cells #[.int .i64 vm.1.1, .int .i64 vm.1.2] 23 (0, 0)), (w8.heap.size, .cells #[.int .i64 vo.1.1, .int .i64 vo.1.2] 23 (0, 0)), (w3.heap.size, .cells #[.int .i64 vn.1.1, .int .i64 vn.1.2] 23 (0, 0)), (B, vobj (vl p.2)), (A, vobj (vl p.1)), (g, pvObj prs)] := hK.al (vobj (vl vs.1)) (n := w10.heap.size) (by simp)
                obtain ⟨cx190, cx191, cx192, cx193, cx194, cx195⟩ := vobj_six (hK.blk _ (List.Mem.head _))
                have lx19 := lt_of_block (hK.blk _ (List.Mem.head _))
                go_wp2_with fail
                refine (vNormK vs.1 vt.1 vt.2 Ht.out _).mono ?_; rintro e w11 ⟨rfl, hb⟩
                replace hK := hK.on hb
                clear cx190 cx191 cx192 cx193 cx194 cx195 lx19 hb
                replace hK : Kv w (w11.alloc (.cells #[.int .i64 vt.1.1, .int .i64 vt.1.2] 23)) [(w11.heap.size, .cells #[.int .i64 vt.1.1, .int .i64 vt.1.2] 23 (0, 0)), (w10.heap.size, vobj (vl vs.1)), (w9.heap.size, .cells #[.int .i64 vm.1.1, .int .i64 vm.1.2] 23 (0, 0)), (w8.heap.size, .cells #[.int .i64 vo.1.1, .int .i64 vo.1.2] 23 (0, 0)), (w3.heap.size, .cells #[.int .i64 vn.1.1, .int .i64 vn.1.2] 23 (0, 0)), (B, vobj (vl p.2)), (A, vobj (vl p.1)), (g, pvObj prs)] := hK.al (.cells #[.int .i64 vt.1.1, .int .i64 vt.1.2] 23 (0, 0)) (n := w11.heap.size) (by simp)
                go_upto_region 25 with (fail)
                replace hK := hK.sub (cs := [(w11.heap.size, .cells #[.int .i64 vt.1.1, .int .i64 vt.1.2] 23 (0, 0)), (w9.heap.size, .cells #[.int .i64 vm.1.1, .int .i64 vm.1.2] 23 (0, 0)), (w3.heap.size, .cells #[.int .i64 vn.1.1, .int .i64 vn.1.2] 23 (0, 0)), (g, pvObj prs)]) (by simp)
                have HE := Lib.hid hK
                generalize (w11.alloc (.cells #[.int .i64 vt.1.1, .int .i64 vt.1.2] 23)) = WW at *
                refine wp_cut_merge [none, none, none, none, none, none, none, none, some 8, none, some 10, none, none, some 13, none, none, none, none, none, none, none, some 21, none, none, none, none, none, none, none, some 29, some 30, some 31, some 32, some 33, some 34, some 35, some 36, some 37, some 38, some 39, some 40, some 41, some 42, some 43, some 44, some 45, some 46, some 47, some 48, some 49, some 50, some 51, some 52, some 53, some 54, some 55, some 56, some 57, some 58, some 59, some 60, some 61, some 62, some 63, some 64, some 65, some 66, some 67, some 68, some 69, some 70, some 71, some 72, some 73, some 74, some 75, some 76, some 77, some 78, some 79, some 80, some 81, some 82, some 83, some 84, some 85, some 86, some 87, some 88, some 89, some 90, some 91, some 92, some 93, some 94, some 95, some 96, some 97, some 98, some 99, some 100, some 101, some 102, some 103, some 104, some 105, some 106, some 107, some 108, some 109, some 110, some 111, some 112, some 113, some 114, some 115, some 116, some 117, some 118, some 119, some 120, some 121, some 122, some 123, some 124, some 125, some 126, some 127, some 128, some 129, some 130, some 131, some 132, some 133, some 134, some 135, some 136, some 137, some 138, some 139, some 140, some 141, some 142, some 143, some 144, some 145, some 146, some 147, some 148, some 149, some 150, some 151, some 152, some 153, some 154, some 155, some 156, some 157, some 158, some 159, some 160, some 161, some 162, some 163, some 164, some 165, some 166, some 167, some 168] (fun s wx => s 167 = .bool false ∧ Hid (Kv w wx [(w11.heap.size, .cells #[.int .i64 vt.1.1, .int .i64 vt.1.2] 23 (0, 0)), (w9.heap.size, .cells #[.int .i64 vm.1.1, .int .i64 vm.1.2] 23 (0, 0)), (w3.heap.size, .cells #[.int .i64 vn.1.1, .int .i64 vn.1.2] 23 (0, 0)), (g, pvObj prs)])) ?_ ?_
                · intro Q2 hQ2
                  have cx110 := cell_two0 (hK.blk _ (List.Mem.tail _ (List.Mem.tail _ (List.Mem.head _))))
                  have cx111 := cell_two1 (hK.blk _ (List.Mem.tail _ (List.Mem.tail _ (List.Mem.head _))))
                  have lx11 := lt_of_block (hK.blk _ (List.Mem.tail _ (List.Mem.tail _ (List.Mem.head _))))
                  have cx180 := cell_two0 (hK.blk _ (List.Mem.tail _ (List.Mem.head _)))
                  have cx181 := cell_two1 (hK.blk _ (List.Mem.tail _ (List.Mem.head _)))
                  have lx18 := lt_of_block (hK.blk _ (List.Mem.tail _ (List.Mem.head _)))
                  have cx200 := cell_two0 (hK.blk _ (List.Mem.head _))
                  have cx201 := cell_two1 (hK.blk _ (List.Mem.head _))
                  have lx20 := lt_of_block (hK.blk _ (List.Mem.head _))
                  clear hK
                  by_cases he : vn.2 = 0
                  rotate_left
                  · have q0 : (vn.2 == 0) = false := by simp [he]
                    clear he
                    go_wp2_with fail
                    exact merge_meet hQ2 (by kernel_rfl) ⟨by first | rfl | (simp; omega), HE⟩
                  have q0 : (vn.2 == 0) = true := by simp [he]
                  have HE0 := Lib.hid he
                  clear he
                  by_cases he : vm.2 = 0
                  rotate_left
                  · have q1 : (vm.2 == 0) = false := by simp [he]
                    clear he
                    go_wp2_with fail
                    exact merge_meet hQ2 (by kernel_rfl) ⟨by first | rfl | (simp; omega), HE⟩
                  have q1 : (vm.2 == 0) = true := by simp [he]
                  have HE1 := Lib.hid he
                  clear he
                  by_cases he : vs.2 = 0
                  rotate_left
                  · have q2 : (vs.2 == 0) = false := by simp [he]
                    clear he
                    go_wp2_with fail
                    exact merge_meet hQ2 (by kernel_rfl) ⟨by first | rfl | (simp; omega), HE⟩
                  have q2 : (vs.2 == 0) = true := by simp [he]
                  have HE2 := Lib.hid he
                  clear he
                  by_cases he : vt.2 = 0
                  rotate_left
                  · have q3 : (vt.2 == 0) = false := by simp [he]
                    clear he
                    go_wp2_with fail
                    exact merge_meet hQ2 (by kernel_rfl) ⟨by first | rfl | (simp; omega), HE⟩
                  have q3 : (vt.2 == 0) = true := by simp [he]
                  have HE3 := Lib.hid he
                  clear he
                  have z1 := FQ4.out HE0.out HE1.out HE2.out HE3.out
                  obtain ⟨b1, b2, b3⟩ := FQ5.out
                  obtain ⟨b4, b5, b6⟩ := FQ6.out
                  have z3 : decide (vn.1.2 + vm.1.2 < vt.1.1) = false := by simp; omega
                  have b7 : -4503599627370496 ≤ vn.1.2 := by omega
                  have b8 : -4503599627370496 ≤ vm.1.2 := by omega
                  clear z1 b1 b2 b4 b5
                  go_wp2_with fail
                  exact merge_meet hQ2 (by kernel_rfl) ⟨by first | rfl | (simp; omega), HE⟩
                · rintro s wc ⟨e63, HE⟩
                  simp only [mergeL, e63]
                  clear e63
                  have hK := HE.out
                  clear HE
                  go_wp2_with fail
                  go_roundw
                  case rel => exact ⟨k + 1, by omega, by go_num, Lib.hid (hK.sub (by simp))⟩
                  case measure => simp [intOf]; omega
    · obtain rfl : k = 2 := by omega
      go_wp2_with fail
      go_ret
      exact ⟨rfl, HA.out.bel⟩
end Go.Proofs.Ytmnccbhlllnlbaa.vecSquares
