/- The walk of monoclelaw06.VecSums. Printed by wip/genVL2.py. -/
import Derived.Deep.DeepCutAuto
import Derived.Deep.CutBlock
import Derived.Test.YtmnccbhlllnlbaaGreatLawVS
import Derived.Test.YtmnccbhlllnlbaaGreatCutMerge
import Derived.Test.YtmnccbhlllnlbaaGreatVecLaw
import Derived.Test.YtmnccbhlllnlbaaGreatRefVC
namespace Go.Proofs.YtmnccbhlllnlbaaGreat.vecSums
open Go.RowKit Mnc
attribute [local go_sem] RunS_value RunS_skip RunS_enter evS_tmp evS_const evS_global evS_func
structure Sz (W : World) (KP K9 K11 K13 K15 K17 K19 : Nat) (p : V3 × V3) (ra rs rn : V3 × Int) (n : Int) (L : Nat → Bool) (s : Nat → Value) (w : World) : Prop where
  bel : Below W.heap.size W w
  e0 : L 0 = true → s 80 = .pointer (some ⟨KP, 0, none⟩)
  e1 : L 1 = true → s 81 = .agg #[.int .i64 p.1.1.1, .int .i64 p.1.1.2, .int .i64 p.1.2.1.1, .int .i64 p.1.2.1.2, .int .i64 p.1.2.2.1, .int .i64 p.1.2.2.2]
  e2 : L 2 = true → s 82 = .int .i64 n
  e3 : L 3 = true → s 83 = .pointer (some ⟨KP, 0, none⟩)
  e4 : L 4 = true → s 84 = .agg #[.int .i64 p.1.1.1, .int .i64 p.1.1.2, .int .i64 p.1.2.1.1, .int .i64 p.1.2.1.2, .int .i64 p.1.2.2.1, .int .i64 p.1.2.2.2]
  e5 : L 5 = true → s 85 = .int .i64 n
  e6 : L 6 = true → s 86 = .bool false
  e7 : L 7 = true → s 87 = .bool false
  e8 : L 8 = true → s 88 = .agg #[.int .i64 ra.1.1.1, .int .i64 ra.1.1.2, .int .i64 ra.1.2.1.1, .int .i64 ra.1.2.1.2, .int .i64 ra.1.2.2.1, .int .i64 ra.1.2.2.2]
  e9 : L 9 = true → s 89 = .agg #[.int .i64 ra.1.1.1, .int .i64 ra.1.1.2, .int .i64 ra.1.2.1.1, .int .i64 ra.1.2.1.2, .int .i64 ra.1.2.2.1, .int .i64 ra.1.2.2.2]
  e10 : L 10 = true → s 90 = .bool false
  e11 : L 11 = true → s 91 = .bool false
  e12 : L 12 = true → s 92 = .bool false
  e13 : L 13 = true → s 93 = .int .i64 ra.2
  e14 : L 14 = true → s 94 = .int .i64 ra.2
  e15 : L 15 = true → s 95 = .bool false
  e16 : L 16 = true → s 96 = .bool false
  e17 : L 17 = true → s 97 = .bool false
  e18 : L 18 = true → s 98 = .agg #[.int .i64 rs.1.1.1, .int .i64 rs.1.1.2, .int .i64 rs.1.2.1.1, .int .i64 rs.1.2.1.2, .int .i64 rs.1.2.2.1, .int .i64 rs.1.2.2.2]
  e19 : L 19 = true → s 99 = .agg #[.int .i64 rs.1.1.1, .int .i64 rs.1.1.2, .int .i64 rs.1.2.1.1, .int .i64 rs.1.2.1.2, .int .i64 rs.1.2.2.1, .int .i64 rs.1.2.2.2]
  e20 : L 20 = true → s 100 = .bool false
  e21 : L 21 = true → s 101 = .bool false
  e22 : L 22 = true → s 102 = .bool false
  e23 : L 23 = true → s 103 = .int .i64 rs.2
  e24 : L 24 = true → s 104 = .int .i64 rs.2
  e25 : L 25 = true → s 105 = .bool false
  e26 : L 26 = true → s 106 = .bool false
  e27 : L 27 = true → s 107 = .bool false
  e28 : L 28 = true → s 108 = .agg #[.int .i64 rn.1.1.1, .int .i64 rn.1.1.2, .int .i64 rn.1.2.1.1, .int .i64 rn.1.2.1.2, .int .i64 rn.1.2.2.1, .int .i64 rn.1.2.2.2]
  e29 : L 29 = true → s 109 = .agg #[.int .i64 rn.1.1.1, .int .i64 rn.1.1.2, .int .i64 rn.1.2.1.1, .int .i64 rn.1.2.1.2, .int .i64 rn.1.2.2.1, .int .i64 rn.1.2.2.2]
  e30 : L 30 = true → s 110 = .bool false
  e31 : L 31 = true → s 111 = .bool false
  e32 : L 32 = true → s 112 = .bool false
  e33 : L 33 = true → s 113 = .int .i64 rn.2
  e34 : L 34 = true → s 114 = .int .i64 rn.2
  e35 : L 35 = true → s 115 = .bool false
  e36 : L 36 = true → s 116 = .bool false
structure Sy (W : World) (K1 K2 : Nat) (sv sm : Int × Int) (x : Dn) (L : Nat → Bool) (s : Nat → Value) (w : World) : Prop where
  bel : Below W.heap.size W w
  e0 : L 0 = true → s 117 = .agg #[.int .i64 sv.1, .int .i64 sv.2]
  e1 : L 1 = true → s 118 = .agg #[.int .i64 x.1, .int .u8 x.2.1, .int .u32 x.2.2]
  e2 : L 2 = true → s 119 = .agg #[.int .i64 sm.1, .int .i64 sm.2]
  e3 : L 3 = true → s 120 = .agg #[.int .i64 sv.1, .int .i64 sv.2, .int .i64 sm.1, .int .i64 sm.2]
  e4 : L 4 = true → s 121 = .int .i64 0
set_option maxRecDepth 100000 in
set_option maxHeartbeats 16000000 in
theorem walk (T : Tv) (hT : T.ok) (sv : Int × Int) (x : Dn) (hx : x.wf) (w : World) :
    Calls Tryz.prog 3 #[T.val, .agg #[.int .i64 sv.1, .int .i64 sv.2], .agg #[.int .i64 x.1, .int .u8 x.2.1, .int .u32 x.2.2]] w fun e w' => e = .returned (.bool true) ∧ Below w.heap.size w w' := by
  have hK := (((Kv.start w).al T.obj (n := w.heap.size) rfl).al (.cells #[.int .i64 sv.1, .int .i64 sv.2] 23 (0, 0)) (n := w.heap.size + 1) (by simp)).al (.cells #[.int .i64 x.1, .int .u8 x.2.1, .int .u32 x.2.2] 28 (0, 0)) (n := w.heap.size + 1 + 1) (by simp)
  have HT := Lib.hid hT
  clear hT
  have HW := Lib.hid hx
  clear hx
  unfold Tv.val
  go_enter Tryz.func3, Tryz.ntmps3
  go_wp2_with fail
  refine (law6_works _).mono ?_; rintro e w1 ⟨rfl, hb⟩
  replace hK := hK.on hb
  clear hb
  obtain ⟨dT, hdT, hrT⟩ := tv_desc
  have hl := tv_range (hK.blk _ (List.Mem.tail _ (List.Mem.tail _ (List.Mem.head _))))
  go_upto_region 3 with (fail)
  refine wp_region_lit ?_
  refine wpList_load_mid rfl 32 _ rfl _ _ rfl _ _ hl hdT hrT (by kernel_rfl) ?_
  go_wp2_with fail
  refine (law6_pairs' T HT.out _).mono ?_; rintro e w2 ⟨⟨v, rfl, g, rfl, hg, hbl⟩, hb⟩
  have HS := Lib.hid (((hK.on hb).put (Below.refl _ _) hbl).sub (cs := [(g, pvObj (pvs T)), (w.heap.size + 1 + 1, .cells #[.int .i64 x.1, .int .u8 x.2.1, .int .u32 x.2.2] 28 (0, 0)), (w.heap.size + 1, .cells #[.int .i64 sv.1, .int .i64 sv.2] 23 (0, 0))]) (by simp))
  have HP : Hid (∀ k, k < 4 → ∃ p, (pvs T)[k]? = some p) := Lib.hid fun k hk => ⟨_, List.getElem?_eq_getElem (show k < (pvs T).length by unfold pvs; simp only [List.length_cons, List.length_nil]; omega)⟩
  clear hK hb hl hdT hrT hg hbl
  generalize pvs T = prs at *
  go_wp2_with fail
  go_loopw [32] (fun i wr => ∃ k : Nat, k ≤ 4 ∧ i = .int .i64 k ∧ Hid (Kv w wr [(g, pvObj prs), (w.heap.size + 1 + 1, .cells #[.int .i64 x.1, .int .u8 x.2.1, .int .u32 x.2.2] 28 (0, 0)), (w.heap.size + 1, .cells #[.int .i64 sv.1, .int .i64 sv.2] 23 (0, 0))])) (fun i _ => 4 - (intOf i).toNat)
  case atStart => exact ⟨0, by omega, rfl, HS⟩
  case round =>
    clear HS
    obtain ⟨k, hk, rfl, HA⟩ := hrel
    rcases Nat.lt_or_ge k 4 with hk' | hk'
    · obtain ⟨p, hp⟩ := HP.out k hk'
      obtain ⟨c0, c1, c2, c3, c4, c5, c6, c7, c8, c9, c10, c11⟩ := pv_cells (k := k * 12) (HA.out.blk _ (List.Mem.head _)) hp rfl
      have lg := lt_of_block (HA.out.blk _ (List.Mem.head _))
      have hK : Kv w (wr.alloc (.cells #[.int .i64 p.1.1.1, .int .i64 p.1.1.2, .int .i64 p.1.2.1.1, .int .i64 p.1.2.1.2, .int .i64 p.1.2.2.1, .int .i64 p.1.2.2.2, .int .i64 p.2.1.1, .int .i64 p.2.1.2, .int .i64 p.2.2.1.1, .int .i64 p.2.2.1.2, .int .i64 p.2.2.2.1, .int .i64 p.2.2.2.2] 36)) [(wr.heap.size, pvBox p), (g, pvObj prs), (w.heap.size + 1 + 1, .cells #[.int .i64 x.1, .int .u8 x.2.1, .int .u32 x.2.2] 28 (0, 0)), (w.heap.size + 1, .cells #[.int .i64 sv.1, .int .i64 sv.2] 23 (0, 0))] := HA.out.al (pvBox p) (n := wr.heap.size) rfl
      clear hp
      obtain ⟨ra, Hra⟩ : ∃ r, Hid (vAdd p.1 p.2 = r) := ⟨_, Lib.hid rfl⟩
      have Xra := Lib.hid (fun W => ref6_Add p.1 p.2 W)
      rw [Hra.out] at Xra
      obtain ⟨rs, Hrs⟩ : ∃ r, Hid (vSub p.1 p.2 = r) := ⟨_, Lib.hid rfl⟩
      have Xrs := Lib.hid (fun W => ref6_Sub p.1 p.2 W)
      rw [Hrs.out] at Xrs
      obtain ⟨rn, Hrn⟩ : ∃ r, Hid (vNeg p.1 = r) := ⟨_, Lib.hid rfl⟩
      have Xrn := Lib.hid (fun W => ref6_Neg p.1 W)
      rw [Hrn.out] at Xrn
      obtain ⟨n, Hn⟩ : ∃ r, Hid (vNote 0 p.1 = r) := ⟨_, Lib.hid rfl⟩
      have Xn := Lib.hid (fun W => ref6_Check p.1 W)
      rw [Hn.out] at Xn
      obtain ⟨cP0, cP1, cP2, cP3, cP4, cP5, cP6, cP7, cP8, cP9, cP10, cP11⟩ := pvBox_all (hK.blk _ (List.Mem.head _))
      have lP := lt_of_block (hK.blk _ (List.Mem.head _))
      go_wp2_with fail
      refine (vAddK p.1 p.2 ra.1 ra.2 Hra.out _).mono ?_; rintro e w1 ⟨rfl, hb⟩
      replace hK := hK.on hb
      clear cP0 cP1 cP2 cP3 cP4 cP5 cP6 cP7 cP8 cP9 cP10 cP11 lP hb
      replace hK : Kv w (w1.alloc (.cells #[.int .i64 ra.1.1.1, .int .i64 ra.1.1.2, .int .i64 ra.1.2.1.1, .int .i64 ra.1.2.1.2, .int .i64 ra.1.2.2.1, .int .i64 ra.1.2.2.2] 25)) [(w1.heap.size, vobj (vl ra.1)), (wr.heap.size, pvBox p), (g, pvObj prs), (w.heap.size + 1 + 1, .cells #[.int .i64 x.1, .int .u8 x.2.1, .int .u32 x.2.2] 28 (0, 0)), (w.heap.size + 1, .cells #[.int .i64 sv.1, .int .i64 sv.2] 23 (0, 0))] := hK.al (vobj (vl ra.1)) (n := w1.heap.size) (by simp)
      obtain ⟨cP0, cP1, cP2, cP3, cP4, cP5, cP6, cP7, cP8, cP9, cP10, cP11⟩ := pvBox_all (hK.blk _ (List.Mem.tail _ (List.Mem.head _)))
      have lP := lt_of_block (hK.blk _ (List.Mem.tail _ (List.Mem.head _)))
      go_wp2_with fail
      refine (Xra.out _).mono ?_; rintro e w2 ⟨rfl, hb⟩
      replace hK := hK.on hb
      clear cP0 cP1 cP2 cP3 cP4 cP5 cP6 cP7 cP8 cP9 cP10 cP11 lP hb
      replace hK : Kv w (w2.alloc (.cells #[.int .i64 ra.1.1.1, .int .i64 ra.1.1.2, .int .i64 ra.1.2.1.1, .int .i64 ra.1.2.1.2, .int .i64 ra.1.2.2.1, .int .i64 ra.1.2.2.2] 25)) [(w2.heap.size, vobj (vl ra.1)), (w1.heap.size, vobj (vl ra.1)), (wr.heap.size, pvBox p), (g, pvObj prs), (w.heap.size + 1 + 1, .cells #[.int .i64 x.1, .int .u8 x.2.1, .int .u32 x.2.2] 28 (0, 0)), (w.heap.size + 1, .cells #[.int .i64 sv.1, .int .i64 sv.2] 23 (0, 0))] := hK.al (vobj (vl ra.1)) (n := w2.heap.size) (by simp)
      obtain ⟨cP0, cP1, cP2, cP3, cP4, cP5, cP6, cP7, cP8, cP9, cP10, cP11⟩ := pvBox_all (hK.blk _ (List.Mem.tail _ (List.Mem.tail _ (List.Mem.head _))))
      have lP := lt_of_block (hK.blk _ (List.Mem.tail _ (List.Mem.tail _ (List.Mem.head _))))
      go_wp2_with fail
      refine (vSubK p.1 p.2 rs.1 rs.2 Hrs.out _).mono ?_; rintro e w3 ⟨rfl, hb⟩
      replace hK := hK.on hb
      clear cP0 cP1 cP2 cP3 cP4 cP5 cP6 cP7 cP8 cP9 cP10 cP11 lP hb
      replace hK : Kv w (w3.alloc (.cells #[.int .i64 rs.1.1.1, .int .i64 rs.1.1.2, .int .i64 rs.1.2.1.1, .int .i64 rs.1.2.1.2, .int .i64 rs.1.2.2.1, .int .i64 rs.1.2.2.2] 25)) [(w3.heap.size, vobj (vl rs.1)), (w2.heap.size, vobj (vl ra.1)), (w1.heap.size, vobj (vl ra.1)), (wr.heap.size, pvBox p), (g, pvObj prs), (w.heap.size + 1 + 1, .cells #[.int .i64 x.1, .int .u8 x.2.1, .int .u32 x.2.2] 28 (0, 0)), (w.heap.size + 1, .cells #[.int .i64 sv.1, .int .i64 sv.2] 23 (0, 0))] := hK.al (vobj (vl rs.1)) (n := w3.heap.size) (by simp)
      obtain ⟨cP0, cP1, cP2, cP3, cP4, cP5, cP6, cP7, cP8, cP9, cP10, cP11⟩ := pvBox_all (hK.blk _ (List.Mem.tail _ (List.Mem.tail _ (List.Mem.tail _ (List.Mem.head _)))))
      have lP := lt_of_block (hK.blk _ (List.Mem.tail _ (List.Mem.tail _ (List.Mem.tail _ (List.Mem.head _)))))
      go_wp2_with fail
      refine (Xrs.out _).mono ?_; rintro e w4 ⟨rfl, hb⟩
      replace hK := hK.on hb
      clear cP0 cP1 cP2 cP3 cP4 cP5 cP6 cP7 cP8 cP9 cP10 cP11 lP hb
      replace hK : Kv w (w4.alloc (.cells #[.int .i64 rs.1.1.1, .int .i64 rs.1.1.2, .int .i64 rs.1.2.1.1, .int .i64 rs.1.2.1.2, .int .i64 rs.1.2.2.1, .int .i64 rs.1.2.2.2] 25)) [(w4.heap.size, vobj (vl rs.1)), (w3.heap.size, vobj (vl rs.1)), (w2.heap.size, vobj (vl ra.1)), (w1.heap.size, vobj (vl ra.1)), (wr.heap.size, pvBox p), (g, pvObj prs), (w.heap.size + 1 + 1, .cells #[.int .i64 x.1, .int .u8 x.2.1, .int .u32 x.2.2] 28 (0, 0)), (w.heap.size + 1, .cells #[.int .i64 sv.1, .int .i64 sv.2] 23 (0, 0))] := hK.al (vobj (vl rs.1)) (n := w4.heap.size) (by simp)
      obtain ⟨cP0, cP1, cP2, cP3, cP4, cP5, cP6, cP7, cP8, cP9, cP10, cP11⟩ := pvBox_all (hK.blk _ (List.Mem.tail _ (List.Mem.tail _ (List.Mem.tail _ (List.Mem.tail _ (List.Mem.head _))))))
      have lP := lt_of_block (hK.blk _ (List.Mem.tail _ (List.Mem.tail _ (List.Mem.tail _ (List.Mem.tail _ (List.Mem.head _))))))
      go_wp2_with fail
      refine (vNegK p.1 rn.1 rn.2 Hrn.out _).mono ?_; rintro e w5 ⟨rfl, hb⟩
      replace hK := hK.on hb
      clear cP0 cP1 cP2 cP3 cP4 cP5 cP6 cP7 cP8 cP9 cP10 cP11 lP hb
      replace hK : Kv w (w5.alloc (.cells #[.int .i64 rn.1.1.1, .int .i64 rn.1.1.2, .int .i64 rn.1.2.1.1, .int .i64 rn.1.2.1.2, .int .i64 rn.1.2.2.1, .int .i64 rn.1.2.2.2] 25)) [(w5.heap.size, vobj (vl rn.1)), (w4.heap.size, vobj (vl rs.1)), (w3.heap.size, vobj (vl rs.1)), (w2.heap.size, vobj (vl ra.1)), (w1.heap.size, vobj (vl ra.1)), (wr.heap.size, pvBox p), (g, pvObj prs), (w.heap.size + 1 + 1, .cells #[.int .i64 x.1, .int .u8 x.2.1, .int .u32 x.2.2] 28 (0, 0)), (w.heap.size + 1, .cells #[.int .i64 sv.1, .int .i64 sv.2] 23 (0, 0))] := hK.al (vobj (vl rn.1)) (n := w5.heap.size) (by simp)
      obtain ⟨cP0, cP1, cP2, cP3, cP4, cP5, cP6, cP7, cP8, cP9, cP10, cP11⟩ := pvBox_all (hK.blk _ (List.Mem.tail _ (List.Mem.tail _ (List.Mem.tail _ (List.Mem.tail _ (List.Mem.tail _ (List.Mem.head _)))))))
      have lP := lt_of_block (hK.blk _ (List.Mem.tail _ (List.Mem.tail _ (List.Mem.tail _ (List.Mem.tail _ (List.Mem.tail _ (List.Mem.head _)))))))
      go_wp2_with fail
      refine (Xrn.out _).mono ?_; rintro e w6 ⟨rfl, hb⟩
      replace hK := hK.on hb
      clear cP0 cP1 cP2 cP3 cP4 cP5 cP6 cP7 cP8 cP9 cP10 cP11 lP hb
      replace hK : Kv w (w6.alloc (.cells #[.int .i64 rn.1.1.1, .int .i64 rn.1.1.2, .int .i64 rn.1.2.1.1, .int .i64 rn.1.2.1.2, .int .i64 rn.1.2.2.1, .int .i64 rn.1.2.2.2] 25)) [(w6.heap.size, vobj (vl rn.1)), (w5.heap.size, vobj (vl rn.1)), (w4.heap.size, vobj (vl rs.1)), (w3.heap.size, vobj (vl rs.1)), (w2.heap.size, vobj (vl ra.1)), (w1.heap.size, vobj (vl ra.1)), (wr.heap.size, pvBox p), (g, pvObj prs), (w.heap.size + 1 + 1, .cells #[.int .i64 x.1, .int .u8 x.2.1, .int .u32 x.2.2] 28 (0, 0)), (w.heap.size + 1, .cells #[.int .i64 sv.1, .int .i64 sv.2] 23 (0, 0))] := hK.al (vobj (vl rn.1)) (n := w6.heap.size) (by simp)
      go_upto_region 12 with (fail)
      have HK := Lib.hid hK
      have HBP := Lib.hid (hK.blk _ (List.Mem.tail _ (List.Mem.tail _ (List.Mem.tail _ (List.Mem.tail _ (List.Mem.tail _ (List.Mem.tail _ (List.Mem.head _))))))))
      have HB9 := Lib.hid (hK.blk _ (List.Mem.tail _ (List.Mem.tail _ (List.Mem.tail _ (List.Mem.tail _ (List.Mem.tail _ (List.Mem.head _)))))))
      have HB11 := Lib.hid (hK.blk _ (List.Mem.tail _ (List.Mem.tail _ (List.Mem.tail _ (List.Mem.tail _ (List.Mem.head _))))))
      have HB13 := Lib.hid (hK.blk _ (List.Mem.tail _ (List.Mem.tail _ (List.Mem.tail _ (List.Mem.head _)))))
      have HB15 := Lib.hid (hK.blk _ (List.Mem.tail _ (List.Mem.tail _ (List.Mem.head _))))
      have HB17 := Lib.hid (hK.blk _ (List.Mem.tail _ (List.Mem.head _)))
      have HB19 := Lib.hid (hK.blk _ (List.Mem.head _))
      clear hK
      generalize (w6.alloc (.cells #[.int .i64 rn.1.1.1, .int .i64 rn.1.1.2, .int .i64 rn.1.2.1.1, .int .i64 rn.1.2.1.2, .int .i64 rn.1.2.2.1, .int .i64 rn.1.2.2.2] 25)) = WW at *
      refine wp_cut_merge [none, none, none, none, none, none, none, none, none, none, none, none, none, none, none, none, none, none, none, none, none, none, none, none, none, none, none, none, none, none, none, none, none, none, none, none, none, none, none, none, none, none, none, none, none, none, none, none, none, none, none, none, none, none, none, none, none, none, none, none, none, none, none, none, none, none, none, none, none, none, none, none, none, none, none, none, none, none, none, none, some 80, some 81, some 82, some 83, some 84, some 85, some 86, some 87, some 88, some 89, some 90, some 91, some 92, some 93, some 94, some 95, some 96, some 97, some 98, some 99, some 100, some 101, some 102, some 103, some 104, some 105, some 106, some 107, some 108, some 109, some 110, some 111, some 112, some 113, some 114, some 115, some 116, none, none, none, none, none, none, none, none, none, none, none, none, none, none, none, none, none, none, none, none, none, none, none, none, none, none, none, none, none, none, none] (fun s wx => s 116 = .bool false ∧ Hid (Kv w wx [(w6.heap.size, vobj (vl rn.1)), (w5.heap.size, vobj (vl rn.1)), (w4.heap.size, vobj (vl rs.1)), (w3.heap.size, vobj (vl rs.1)), (w2.heap.size, vobj (vl ra.1)), (w1.heap.size, vobj (vl ra.1)), (wr.heap.size, pvBox p), (g, pvObj prs), (w.heap.size + 1 + 1, .cells #[.int .i64 x.1, .int .u8 x.2.1, .int .u32 x.2.2] 28 (0, 0)), (w.heap.size + 1, .cells #[.int .i64 sv.1, .int .i64 sv.2] 23 (0, 0))])) ?_ ?_
      · intro Q2 hQ2
        refine wp_region_inv (Sz WW (wr.heap.size) (w1.heap.size) (w2.heap.size) (w3.heap.size) (w4.heap.size) (w5.heap.size) (w6.heap.size) p ra rs rn n) (by kernel_rfl) (by kernel_rfl) ?_ ?_ ?_
        · exact ⟨(Below.refl _ _).drew, fun h => absurd h Bool.false_ne_true, fun h => absurd h Bool.false_ne_true, fun h => absurd h Bool.false_ne_true, fun h => absurd h Bool.false_ne_true, fun h => absurd h Bool.false_ne_true, fun h => absurd h Bool.false_ne_true, fun h => absurd h Bool.false_ne_true, fun h => absurd h Bool.false_ne_true, fun h => absurd h Bool.false_ne_true, fun h => absurd h Bool.false_ne_true, fun h => absurd h Bool.false_ne_true, fun h => absurd h Bool.false_ne_true, fun h => absurd h Bool.false_ne_true, fun h => absurd h Bool.false_ne_true, fun h => absurd h Bool.false_ne_true, fun h => absurd h Bool.false_ne_true, fun h => absurd h Bool.false_ne_true, fun h => absurd h Bool.false_ne_true, fun h => absurd h Bool.false_ne_true, fun h => absurd h Bool.false_ne_true, fun h => absurd h Bool.false_ne_true, fun h => absurd h Bool.false_ne_true, fun h => absurd h Bool.false_ne_true, fun h => absurd h Bool.false_ne_true, fun h => absurd h Bool.false_ne_true, fun h => absurd h Bool.false_ne_true, fun h => absurd h Bool.false_ne_true, fun h => absurd h Bool.false_ne_true, fun h => absurd h Bool.false_ne_true, fun h => absurd h Bool.false_ne_true, fun h => absurd h Bool.false_ne_true, fun h => absurd h Bool.false_ne_true, fun h => absurd h Bool.false_ne_true, fun h => absurd h Bool.false_ne_true, fun h => absurd h Bool.false_ne_true, fun h => absurd h Bool.false_ne_true, fun h => absurd h Bool.false_ne_true⟩
        · refine AllS.consN 1 (some 80) rfl rfl ?_ (AllS.consN 2 (some 81) rfl rfl ?_ (AllS.consN 3 (some 82) rfl rfl ?_ (AllS.consN 4 (some 83) rfl rfl ?_ (AllS.consN 5 (some 84) rfl rfl ?_ (AllS.consN 6 (some 85) rfl rfl ?_ (AllS.consN 7 (some 86) rfl rfl ?_ (AllS.consN 8 (some 87) rfl rfl ?_ (AllS.consN 9 (some 88) rfl rfl ?_ (AllS.consN 10 (some 89) rfl rfl ?_ (AllS.consN 11 (some 90) rfl rfl ?_ (AllS.consN 12 (some 91) rfl rfl ?_ (AllS.consN 13 (some 92) rfl rfl ?_ (AllS.consN 14 (some 93) rfl rfl ?_ (AllS.consN 15 (some 94) rfl rfl ?_ (AllS.consN 16 (some 95) rfl rfl ?_ (AllS.consN 17 (some 96) rfl rfl ?_ (AllS.consN 18 (some 97) rfl rfl ?_ (AllS.consN 19 (some 98) rfl rfl ?_ (AllS.consN 20 (some 99) rfl rfl ?_ (AllS.consN 21 (some 100) rfl rfl ?_ (AllS.consN 22 (some 101) rfl rfl ?_ (AllS.consN 23 (some 102) rfl rfl ?_ (AllS.consN 24 (some 103) rfl rfl ?_ (AllS.consN 25 (some 104) rfl rfl ?_ (AllS.consN 26 (some 105) rfl rfl ?_ (AllS.consN 27 (some 106) rfl rfl ?_ (AllS.consN 28 (some 107) rfl rfl ?_ (AllS.consN 29 (some 108) rfl rfl ?_ (AllS.consN 30 (some 109) rfl rfl ?_ (AllS.consN 31 (some 110) rfl rfl ?_ (AllS.consN 32 (some 111) rfl rfl ?_ (AllS.consN 33 (some 112) rfl rfl ?_ (AllS.consN 34 (some 113) rfl rfl ?_ (AllS.consN 35 (some 114) rfl rfl ?_ (AllS.consN 36 (some 115) rfl rfl ?_ (AllS.consN 37 (some 116) rfl rfl ?_ AllS.nil))))))))))))))))))))))))))))))))))))
          · intro L s w2 h hk hd hn
            have s8 : s 8 = _ := hk 8 (by kernel_rfl)
            refine stepS rfl fun K hK => ?_
            go_simp
            exact hK _ _ { h with e0 := fun _ => rfl }
          · intro L s w2 h hk hd hn
            have s80 := h.e0 hd.1
            obtain ⟨c0, c1, c2, c3, c4, c5, c6, c7, c8, c9, c10, c11⟩ := pvBox_all ((h.bel.block _ (lt_of_block HBP.out)).trans HBP.out)
            refine stepS rfl fun K hK => ?_
            go_simp
            exact hK _ _ { h with e1 := fun _ => rfl }
          · intro L s w2 h hk hd hn
            have s81 := h.e1 hd.1
            refine stepS rfl fun K hK => ?_
            go_simp
            refine (vCheckK p.1 n Hn.out _).mono ?_
            rintro e w3 ⟨rfl, hb⟩
            exact ⟨_, rfl, hK _ _ { h with bel := below_step h.bel hb, e2 := fun _ => rfl }⟩
          · intro L s w2 h hk hd hn
            have s8 : s 8 = _ := hk 8 (by kernel_rfl)
            refine stepS rfl fun K hK => ?_
            go_simp
            exact hK _ _ { h with e3 := fun _ => rfl }
          · intro L s w2 h hk hd hn
            have s83 := h.e3 hd.1
            obtain ⟨c0, c1, c2, c3, c4, c5, c6, c7, c8, c9, c10, c11⟩ := pvBox_all ((h.bel.block _ (lt_of_block HBP.out)).trans HBP.out)
            refine stepS rfl fun K hK => ?_
            go_simp
            exact hK _ _ { h with e4 := fun _ => rfl }
          · intro L s w2 h hk hd hn
            have s84 := h.e4 hd.1
            refine stepS rfl fun K hK => ?_
            go_simp
            refine (Xn.out _).mono ?_
            rintro e w3 ⟨rfl, hb⟩
            exact ⟨_, rfl, hK _ _ { h with bel := below_step h.bel hb, e5 := fun _ => rfl }⟩
          · intro L s w2 h hk hd hn
            have s82 := h.e2 hd.1
            have s85 := h.e5 hd.2.1
            refine stepS rfl fun K hK => ?_
            go_simp
            exact hK _ _ { h with e6 := fun _ => rfl }
          · intro L s w2 h hk hd hn
            have s86 := h.e6 hd.1
            refine stepS rfl fun K hK => ?_
            go_simp
            exact hK _ _ { h with e7 := fun _ => rfl }
          · intro L s w2 h hk hd hn
            have gq := h.e7 hd.1
            have s9 : s 9 = _ := hk 9 (by kernel_rfl)
            obtain ⟨c0, c1, c2, c3, c4, c5⟩ := vobj_six ((h.bel.block _ (lt_of_block HB9.out)).trans HB9.out)
            refine stepS (by simp [Region.wanted, yieldS, gq]) fun K hK => ?_
            go_simp
            exact hK _ _ { h with e8 := fun _ => rfl }
          · intro L s w2 h hk hd hn
            have gq := h.e7 hd.1
            have s11 : s 11 = _ := hk 11 (by kernel_rfl)
            obtain ⟨c0, c1, c2, c3, c4, c5⟩ := vobj_six ((h.bel.block _ (lt_of_block HB11.out)).trans HB11.out)
            refine stepS (by simp [Region.wanted, yieldS, gq]) fun K hK => ?_
            go_simp
            exact hK _ _ { h with e9 := fun _ => rfl }
          · intro L s w2 h hk hd hn
            have gq := h.e7 hd.2.2.1
            have s88 := h.e8 hd.1
            have s89 := h.e9 hd.2.1
            have hq := fun W => (eqlV ra.1 ra.1 W).trans (show _ = Result.ok true W by simp)
            refine stepS (by simp [Region.wanted, yieldS, gq]) fun K hK => ?_
            go_simp
            exact hK _ _ { h with e10 := fun _ => rfl }
          · intro L s w2 h hk hd hn
            have s87 := h.e7 hd.1
            have s90 := h.e10 hd.2.1
            refine stepS rfl fun K hK => ?_
            go_simp
            exact hK _ _ { h with e11 := fun _ => rfl }
          · intro L s w2 h hk hd hn
            have s91 := h.e11 hd.1
            refine stepS rfl fun K hK => ?_
            go_simp
            exact hK _ _ { h with e12 := fun _ => rfl }
          · intro L s w2 h hk hd hn
            have gq := h.e12 hd.1
            have s10 : s 10 = _ := hk 10 (by kernel_rfl)
            refine stepS (by simp [Region.wanted, yieldS, gq]) fun K hK => ?_
            go_simp
            exact hK _ _ { h with e13 := fun _ => rfl }
          · intro L s w2 h hk hd hn
            have gq := h.e12 hd.1
            have s12 : s 12 = _ := hk 12 (by kernel_rfl)
            refine stepS (by simp [Region.wanted, yieldS, gq]) fun K hK => ?_
            go_simp
            exact hK _ _ { h with e14 := fun _ => rfl }
          · intro L s w2 h hk hd hn
            have gq := h.e12 hd.2.2.1
            have s93 := h.e13 hd.1
            have s94 := h.e14 hd.2.1
            refine stepS (by simp [Region.wanted, yieldS, gq]) fun K hK => ?_
            go_simp
            exact hK _ _ { h with e15 := fun _ => rfl }
          · intro L s w2 h hk hd hn
            have s92 := h.e12 hd.1
            have s95 := h.e15 hd.2.1
            refine stepS rfl fun K hK => ?_
            go_simp
            exact hK _ _ { h with e16 := fun _ => rfl }
          · intro L s w2 h hk hd hn
            have s96 := h.e16 hd.1
            refine stepS rfl fun K hK => ?_
            go_simp
            exact hK _ _ { h with e17 := fun _ => rfl }
          · intro L s w2 h hk hd hn
            have gq := h.e17 hd.1
            have s13 : s 13 = _ := hk 13 (by kernel_rfl)
            obtain ⟨c0, c1, c2, c3, c4, c5⟩ := vobj_six ((h.bel.block _ (lt_of_block HB13.out)).trans HB13.out)
            refine stepS (by simp [Region.wanted, yieldS, gq]) fun K hK => ?_
            go_simp
            exact hK _ _ { h with e18 := fun _ => rfl }
          · intro L s w2 h hk hd hn
            have gq := h.e17 hd.1
            have s15 : s 15 = _ := hk 15 (by kernel_rfl)
            obtain ⟨c0, c1, c2, c3, c4, c5⟩ := vobj_six ((h.bel.block _ (lt_of_block HB15.out)).trans HB15.out)
            refine stepS (by simp [Region.wanted, yieldS, gq]) fun K hK => ?_
            go_simp
            exact hK _ _ { h with e19 := fun _ => rfl }
          · intro L s w2 h hk hd hn
            have gq := h.e17 hd.2.2.1
            have s98 := h.e18 hd.1
            have s99 := h.e19 hd.2.1
            have hq := fun W => (eqlV rs.1 rs.1 W).trans (show _ = Result.ok true W by simp)
            refine stepS (by simp [Region.wanted, yieldS, gq]) fun K hK => ?_
            go_simp
            exact hK _ _ { h with e20 := fun _ => rfl }
          · intro L s w2 h hk hd hn
            have s97 := h.e17 hd.1
            have s100 := h.e20 hd.2.1
            refine stepS rfl fun K hK => ?_
            go_simp
            exact hK _ _ { h with e21 := fun _ => rfl }
          · intro L s w2 h hk hd hn
            have s101 := h.e21 hd.1
            refine stepS rfl fun K hK => ?_
            go_simp
            exact hK _ _ { h with e22 := fun _ => rfl }
          · intro L s w2 h hk hd hn
            have gq := h.e22 hd.1
            have s14 : s 14 = _ := hk 14 (by kernel_rfl)
            refine stepS (by simp [Region.wanted, yieldS, gq]) fun K hK => ?_
            go_simp
            exact hK _ _ { h with e23 := fun _ => rfl }
          · intro L s w2 h hk hd hn
            have gq := h.e22 hd.1
            have s16 : s 16 = _ := hk 16 (by kernel_rfl)
            refine stepS (by simp [Region.wanted, yieldS, gq]) fun K hK => ?_
            go_simp
            exact hK _ _ { h with e24 := fun _ => rfl }
          · intro L s w2 h hk hd hn
            have gq := h.e22 hd.2.2.1
            have s103 := h.e23 hd.1
            have s104 := h.e24 hd.2.1
            refine stepS (by simp [Region.wanted, yieldS, gq]) fun K hK => ?_
            go_simp
            exact hK _ _ { h with e25 := fun _ => rfl }
          · intro L s w2 h hk hd hn
            have s102 := h.e22 hd.1
            have s105 := h.e25 hd.2.1
            refine stepS rfl fun K hK => ?_
            go_simp
            exact hK _ _ { h with e26 := fun _ => rfl }
          · intro L s w2 h hk hd hn
            have s106 := h.e26 hd.1
            refine stepS rfl fun K hK => ?_
            go_simp
            exact hK _ _ { h with e27 := fun _ => rfl }
          · intro L s w2 h hk hd hn
            have gq := h.e27 hd.1
            have s17 : s 17 = _ := hk 17 (by kernel_rfl)
            obtain ⟨c0, c1, c2, c3, c4, c5⟩ := vobj_six ((h.bel.block _ (lt_of_block HB17.out)).trans HB17.out)
            refine stepS (by simp [Region.wanted, yieldS, gq]) fun K hK => ?_
            go_simp
            exact hK _ _ { h with e28 := fun _ => rfl }
          · intro L s w2 h hk hd hn
            have gq := h.e27 hd.1
            have s19 : s 19 = _ := hk 19 (by kernel_rfl)
            obtain ⟨c0, c1, c2, c3, c4, c5⟩ := vobj_six ((h.bel.block _ (lt_of_block HB19.out)).trans HB19.out)
            refine stepS (by simp [Region.wanted, yieldS, gq]) fun K hK => ?_
            go_simp
            exact hK _ _ { h with e29 := fun _ => rfl }
          · intro L s w2 h hk hd hn
            have gq := h.e27 hd.2.2.1
            have s108 := h.e28 hd.1
            have s109 := h.e29 hd.2.1
            have hq := fun W => (eqlV rn.1 rn.1 W).trans (show _ = Result.ok true W by simp)
            refine stepS (by simp [Region.wanted, yieldS, gq]) fun K hK => ?_
            go_simp
            exact hK _ _ { h with e30 := fun _ => rfl }
          · intro L s w2 h hk hd hn
            have s107 := h.e27 hd.1
            have s110 := h.e30 hd.2.1
            refine stepS rfl fun K hK => ?_
            go_simp
            exact hK _ _ { h with e31 := fun _ => rfl }
          · intro L s w2 h hk hd hn
            have s111 := h.e31 hd.1
            refine stepS rfl fun K hK => ?_
            go_simp
            exact hK _ _ { h with e32 := fun _ => rfl }
          · intro L s w2 h hk hd hn
            have gq := h.e32 hd.1
            have s18 : s 18 = _ := hk 18 (by kernel_rfl)
            refine stepS (by simp [Region.wanted, yieldS, gq]) fun K hK => ?_
            go_simp
            exact hK _ _ { h with e33 := fun _ => rfl }
          · intro L s w2 h hk hd hn
            have gq := h.e32 hd.1
            have s20 : s 20 = _ := hk 20 (by kernel_rfl)
            refine stepS (by simp [Region.wanted, yieldS, gq]) fun K hK => ?_
            go_simp
            exact hK _ _ { h with e34 := fun _ => rfl }
          · intro L s w2 h hk hd hn
            have gq := h.e32 hd.2.2.1
            have s113 := h.e33 hd.1
            have s114 := h.e34 hd.2.1
            refine stepS (by simp [Region.wanted, yieldS, gq]) fun K hK => ?_
            go_simp
            exact hK _ _ { h with e35 := fun _ => rfl }
          · intro L s w2 h hk hd hn
            have s112 := h.e32 hd.1
            have s115 := h.e35 hd.2.1
            refine stepS rfl fun K hK => ?_
            go_simp
            exact hK _ _ { h with e36 := fun _ => rfl }
        · intro L s w2 h hk hl
          refine (congrArg (fun a => Q2 .normal a w2) (?_ : _ = _)).mpr (hQ2 s w2 (⟨h.e36 (hl 36 (by decide)), Lib.hid (HK.out.on h.bel)⟩))
          refine congrArg (fun l => (⟨List.toArray l, []⟩ : Act)) ?_
          show [s 0, s 1, s 2, s 3, s 4, s 5, s 6, s 7, s 8, s 9, s 10, s 11, s 12, s 13, s 14, s 15, s 16, s 17, s 18, s 19, s 20, s 21, s 22, s 23, s 24, s 25, s 26, s 27, s 28, s 29, s 30, s 31, s 32, s 33, s 34, s 35, s 36, s 37, s 38, s 39, s 40, s 41, s 42, s 43, s 44, s 45, s 46, s 47, s 48, s 49, s 50, s 51, s 52, s 53, s 54, s 55, s 56, s 57, s 58, s 59, s 60, s 61, s 62, s 63, s 64, s 65, s 66, s 67, s 68, s 69, s 70, s 71, s 72, s 73, s 74, s 75, s 76, s 77, s 78, s 79, s 80, s 81, s 82, s 83, s 84, s 85, s 86, s 87, s 88, s 89, s 90, s 91, s 92, s 93, s 94, s 95, s 96, s 97, s 98, s 99, s 100, s 101, s 102, s 103, s 104, s 105, s 106, s 107, s 108, s 109, s 110, s 111, s 112, s 113, s 114, s 115, s 116, s 117, s 118, s 119, s 120, s 121, s 122, s 123, s 124, s 125, s 126, s 127, s 128, s 129, s 130, s 131, s 132, s 133, s 134, s 135, s 136, s 137, s 138, s 139, s 140, s 141, s 142, s 143, s 144, s 145, s 146, s 147] = _
          exact lc (hk 0 (by kernel_rfl)) (lc (hk 1 (by kernel_rfl)) (lc (hk 2 (by kernel_rfl)) (lc (hk 3 (by kernel_rfl)) (lc (hk 4 (by kernel_rfl)) (lc (hk 5 (by kernel_rfl)) (lc (hk 6 (by kernel_rfl)) (lc (hk 7 (by kernel_rfl)) (lc (hk 8 (by kernel_rfl)) (lc (hk 9 (by kernel_rfl)) (lc (hk 10 (by kernel_rfl)) (lc (hk 11 (by kernel_rfl)) (lc (hk 12 (by kernel_rfl)) (lc (hk 13 (by kernel_rfl)) (lc (hk 14 (by kernel_rfl)) (lc (hk 15 (by kernel_rfl)) (lc (hk 16 (by kernel_rfl)) (lc (hk 17 (by kernel_rfl)) (lc (hk 18 (by kernel_rfl)) (lc (hk 19 (by kernel_rfl)) (lc (hk 20 (by kernel_rfl)) (lc (hk 21 (by kernel_rfl)) (lc (hk 22 (by kernel_rfl)) (lc (hk 23 (by kernel_rfl)) (lc (hk 24 (by kernel_rfl)) (lc (hk 25 (by kernel_rfl)) (lc (hk 26 (by kernel_rfl)) (lc (hk 27 (by kernel_rfl)) (lc (hk 28 (by kernel_rfl)) (lc (hk 29 (by kernel_rfl)) (lc (hk 30 (by kernel_rfl)) (lc (hk 31 (by kernel_rfl)) (lc (hk 32 (by kernel_rfl)) (lc (hk 33 (by kernel_rfl)) (lc (hk 34 (by kernel_rfl)) (lc (hk 35 (by kernel_rfl)) (lc (hk 36 (by kernel_rfl)) (lc (hk 37 (by kernel_rfl)) (lc (hk 38 (by kernel_rfl)) (lc (hk 39 (by kernel_rfl)) (lc (hk 40 (by kernel_rfl)) (lc (hk 41 (by kernel_rfl)) (lc (hk 42 (by kernel_rfl)) (lc (hk 43 (by kernel_rfl)) (lc (hk 44 (by kernel_rfl)) (lc (hk 45 (by kernel_rfl)) (lc (hk 46 (by kernel_rfl)) (lc (hk 47 (by kernel_rfl)) (lc (hk 48 (by kernel_rfl)) (lc (hk 49 (by kernel_rfl)) (lc (hk 50 (by kernel_rfl)) (lc (hk 51 (by kernel_rfl)) (lc (hk 52 (by kernel_rfl)) (lc (hk 53 (by kernel_rfl)) (lc (hk 54 (by kernel_rfl)) (lc (hk 55 (by kernel_rfl)) (lc (hk 56 (by kernel_rfl)) (lc (hk 57 (by kernel_rfl)) (lc (hk 58 (by kernel_rfl)) (lc (hk 59 (by kernel_rfl)) (lc (hk 60 (by kernel_rfl)) (lc (hk 61 (by kernel_rfl)) (lc (hk 62 (by kernel_rfl)) (lc (hk 63 (by kernel_rfl)) (lc (hk 64 (by kernel_rfl)) (lc (hk 65 (by kernel_rfl)) (lc (hk 66 (by kernel_rfl)) (lc (hk 67 (by kernel_rfl)) (lc (hk 68 (by kernel_rfl)) (lc (hk 69 (by kernel_rfl)) (lc (hk 70 (by kernel_rfl)) (lc (hk 71 (by kernel_rfl)) (lc (hk 72 (by kernel_rfl)) (lc (hk 73 (by kernel_rfl)) (lc (hk 74 (by kernel_rfl)) (lc (hk 75 (by kernel_rfl)) (lc (hk 76 (by kernel_rfl)) (lc (hk 77 (by kernel_rfl)) (lc (hk 78 (by kernel_rfl)) (lc (hk 79 (by kernel_rfl)) (lc rfl (lc rfl (lc rfl (lc rfl (lc rfl (lc rfl (lc rfl (lc rfl (lc rfl (lc rfl (lc rfl (lc rfl (lc rfl (lc rfl (lc rfl (lc rfl (lc rfl (lc rfl (lc rfl (lc rfl (lc rfl (lc rfl (lc rfl (lc rfl (lc rfl (lc rfl (lc rfl (lc rfl (lc rfl (lc rfl (lc rfl (lc rfl (lc rfl (lc rfl (lc rfl (lc rfl (lc rfl (lc (hk 117 (by kernel_rfl)) (lc (hk 118 (by kernel_rfl)) (lc (hk 119 (by kernel_rfl)) (lc (hk 120 (by kernel_rfl)) (lc (hk 121 (by kernel_rfl)) (lc (hk 122 (by kernel_rfl)) (lc (hk 123 (by kernel_rfl)) (lc (hk 124 (by kernel_rfl)) (lc (hk 125 (by kernel_rfl)) (lc (hk 126 (by kernel_rfl)) (lc (hk 127 (by kernel_rfl)) (lc (hk 128 (by kernel_rfl)) (lc (hk 129 (by kernel_rfl)) (lc (hk 130 (by kernel_rfl)) (lc (hk 131 (by kernel_rfl)) (lc (hk 132 (by kernel_rfl)) (lc (hk 133 (by kernel_rfl)) (lc (hk 134 (by kernel_rfl)) (lc (hk 135 (by kernel_rfl)) (lc (hk 136 (by kernel_rfl)) (lc (hk 137 (by kernel_rfl)) (lc (hk 138 (by kernel_rfl)) (lc (hk 139 (by kernel_rfl)) (lc (hk 140 (by kernel_rfl)) (lc (hk 141 (by kernel_rfl)) (lc (hk 142 (by kernel_rfl)) (lc (hk 143 (by kernel_rfl)) (lc (hk 144 (by kernel_rfl)) (lc (hk 145 (by kernel_rfl)) (lc (hk 146 (by kernel_rfl)) (lc (hk 147 (by kernel_rfl)) rfl)))))))))))))))))))))))))))))))))))))))))))))))))))))))))))))))))))))))))))))))))))))))))))))))))))))))))))))))))))))))))))))))))))))))))))))))))))
      · rintro s wc ⟨e1, HE⟩
        simp only [mergeL, e1]
        clear e1 HK HBP HB9 HB11 HB13 HB15 HB17 HB19 Xra Xrs Xrn Xn Hra Hrs Hrn Hn
        have hK := HE.out
        clear HE
        replace hK := hK.sub (cs := [(wr.heap.size, pvBox p), (g, pvObj prs), (w.heap.size + 1 + 1, .cells #[.int .i64 x.1, .int .u8 x.2.1, .int .u32 x.2.2] 28 (0, 0)), (w.heap.size + 1, .cells #[.int .i64 sv.1, .int .i64 sv.2] 23 (0, 0))]) (by simp)
        obtain ⟨sm, Hsm⟩ : ∃ r, Hid (dSmall x.1 x.2.1 x.2.2 = r) := ⟨_, Lib.hid rfl⟩
        have HC := Lib.hid (fun W => draft_Small x.1 x.2.1 x.2.2 HW.out.1 HW.out.2 W)
        rw [Hsm.out] at HC
        clear Hsm
        go_upto_region 14 with (fail)
        have HK := Lib.hid hK
        have HB1 := Lib.hid (hK.blk _ (List.Mem.tail _ (List.Mem.tail _ (List.Mem.tail _ (List.Mem.head _)))))
        have HB2 := Lib.hid (hK.blk _ (List.Mem.tail _ (List.Mem.tail _ (List.Mem.head _))))
        clear hK
        refine wp_cut_merge [none, none, none, none, none, none, none, none, none, none, none, none, none, none, none, none, none, none, none, none, none, none, none, none, none, none, none, none, none, none, none, none, none, none, none, none, none, none, none, none, none, none, none, none, none, none, none, none, none, none, none, none, none, none, none, none, none, none, none, none, none, none, none, none, none, none, none, none, none, none, none, none, none, none, none, none, none, none, none, none, none, none, none, none, none, none, none, none, none, none, none, none, none, none, none, none, none, none, none, none, none, none, none, none, none, none, none, none, none, none, none, none, none, none, none, none, none, some 117, some 118, some 119, some 120, some 121, none, none, none, none, none, none, none, none, none, none, none, none, none, none, none, none, none, none, none, none, none, none, none, none, none, none] (fun s wx => s 120 = .agg #[.int .i64 sv.1, .int .i64 sv.2, .int .i64 sm.1, .int .i64 sm.2] ∧ s 121 = .int .i64 0 ∧ Hid (Kv w wx [(wr.heap.size, pvBox p), (g, pvObj prs), (w.heap.size + 1 + 1, .cells #[.int .i64 x.1, .int .u8 x.2.1, .int .u32 x.2.2] 28 (0, 0)), (w.heap.size + 1, .cells #[.int .i64 sv.1, .int .i64 sv.2] 23 (0, 0))])) ?_ ?_
        · intro Q2 hQ2
          refine wp_region_inv (Sy wc (w.heap.size + 1) (w.heap.size + 1 + 1) sv sm x) (by kernel_rfl) (by kernel_rfl) ?_ ?_ ?_
          · exact ⟨(Below.refl _ _).drew, fun h => absurd h Bool.false_ne_true, fun h => absurd h Bool.false_ne_true, fun h => absurd h Bool.false_ne_true, fun h => absurd h Bool.false_ne_true, fun h => absurd h Bool.false_ne_true⟩
          · refine AllS.consN 1 (some 117) rfl rfl ?_ (AllS.consN 2 (some 118) rfl rfl ?_ (AllS.consN 3 (some 119) rfl rfl ?_ (AllS.consN 4 (some 120) rfl rfl ?_ (AllS.consN 5 (some 121) rfl rfl ?_ AllS.nil))))
            · intro L s w2 h hk hd hn
              have s4 : s 4 = _ := hk 4 (by kernel_rfl)
              have b := (h.bel.block _ (lt_of_block HB1.out)).trans HB1.out
              have c0 := cell_two0 b
              have c1 := cell_two1 b
              refine stepS rfl fun K hK => ?_
              go_simp
              exact hK _ _ { h with e0 := fun _ => rfl }
            · intro L s w2 h hk hd hn
              have s5 : s 5 = _ := hk 5 (by kernel_rfl)
              have b := (h.bel.block _ (lt_of_block HB2.out)).trans HB2.out
              have c0 := cell_of_row _ _ 0 _ _ _ b
              have c1 := cell_of_row _ _ 1 _ _ _ b
              have c2 := cell_of_row _ _ 2 _ _ _ b
              refine stepS rfl fun K hK => ?_
              go_simp
              exact hK _ _ { h with e1 := fun _ => rfl }
            · intro L s w2 h hk hd hn
              have s118 := h.e1 hd.1
              refine stepS rfl fun K hK => ?_
              go_simp
              refine (HC.out _).mono ?_
              rintro e w3 ⟨rfl, hb⟩
              exact ⟨_, rfl, hK _ _ { h with bel := below_step h.bel hb, e2 := fun _ => rfl }⟩
            · intro L s w2 h hk hd hn
              have s117 := h.e0 hd.1
              have s119 := h.e2 hd.2.1
              refine stepS rfl fun K hK => ?_
              go_simp
              exact hK _ _ { h with e3 := fun _ => rfl }
            · intro L s w2 h hk hd hn
              refine stepS rfl fun K hK => ?_
              go_simp
              exact hK _ _ { h with e4 := fun _ => rfl }
          · intro L s w2 h hk hl
            refine (congrArg (fun a => Q2 .normal a w2) (?_ : _ = _)).mpr (hQ2 s w2 (⟨h.e3 (hl 3 (by decide)), h.e4 (hl 4 (by decide)), Lib.hid (HK.out.on h.bel)⟩))
            refine congrArg (fun l => (⟨List.toArray l, []⟩ : Act)) ?_
            show [s 0, s 1, s 2, s 3, s 4, s 5, s 6, s 7, s 8, s 9, s 10, s 11, s 12, s 13, s 14, s 15, s 16, s 17, s 18, s 19, s 20, s 21, s 22, s 23, s 24, s 25, s 26, s 27, s 28, s 29, s 30, s 31, s 32, s 33, s 34, s 35, s 36, s 37, s 38, s 39, s 40, s 41, s 42, s 43, s 44, s 45, s 46, s 47, s 48, s 49, s 50, s 51, s 52, s 53, s 54, s 55, s 56, s 57, s 58, s 59, s 60, s 61, s 62, s 63, s 64, s 65, s 66, s 67, s 68, s 69, s 70, s 71, s 72, s 73, s 74, s 75, s 76, s 77, s 78, s 79, s 80, s 81, s 82, s 83, s 84, s 85, s 86, s 87, s 88, s 89, s 90, s 91, s 92, s 93, s 94, s 95, s 96, s 97, s 98, s 99, s 100, s 101, s 102, s 103, s 104, s 105, s 106, s 107, s 108, s 109, s 110, s 111, s 112, s 113, s 114, s 115, s 116, s 117, s 118, s 119, s 120, s 121, s 122, s 123, s 124, s 125, s 126, s 127, s 128, s 129, s 130, s 131, s 132, s 133, s 134, s 135, s 136, s 137, s 138, s 139, s 140, s 141, s 142, s 143, s 144, s 145, s 146, s 147] = _
            exact lc (hk 0 (by kernel_rfl)) (lc (hk 1 (by kernel_rfl)) (lc (hk 2 (by kernel_rfl)) (lc (hk 3 (by kernel_rfl)) (lc (hk 4 (by kernel_rfl)) (lc (hk 5 (by kernel_rfl)) (lc (hk 6 (by kernel_rfl)) (lc (hk 7 (by kernel_rfl)) (lc (hk 8 (by kernel_rfl)) (lc (hk 9 (by kernel_rfl)) (lc (hk 10 (by kernel_rfl)) (lc (hk 11 (by kernel_rfl)) (lc (hk 12 (by kernel_rfl)) (lc (hk 13 (by kernel_rfl)) (lc (hk 14 (by kernel_rfl)) (lc (hk 15 (by kernel_rfl)) (lc (hk 16 (by kernel_rfl)) (lc (hk 17 (by kernel_rfl)) (lc (hk 18 (by kernel_rfl)) (lc (hk 19 (by kernel_rfl)) (lc (hk 20 (by kernel_rfl)) (lc (hk 21 (by kernel_rfl)) (lc (hk 22 (by kernel_rfl)) (lc (hk 23 (by kernel_rfl)) (lc (hk 24 (by kernel_rfl)) (lc (hk 25 (by kernel_rfl)) (lc (hk 26 (by kernel_rfl)) (lc (hk 27 (by kernel_rfl)) (lc (hk 28 (by kernel_rfl)) (lc (hk 29 (by kernel_rfl)) (lc (hk 30 (by kernel_rfl)) (lc (hk 31 (by kernel_rfl)) (lc (hk 32 (by kernel_rfl)) (lc (hk 33 (by kernel_rfl)) (lc (hk 34 (by kernel_rfl)) (lc (hk 35 (by kernel_rfl)) (lc (hk 36 (by kernel_rfl)) (lc (hk 37 (by kernel_rfl)) (lc (hk 38 (by kernel_rfl)) (lc (hk 39 (by kernel_rfl)) (lc (hk 40 (by kernel_rfl)) (lc (hk 41 (by kernel_rfl)) (lc (hk 42 (by kernel_rfl)) (lc (hk 43 (by kernel_rfl)) (lc (hk 44 (by kernel_rfl)) (lc (hk 45 (by kernel_rfl)) (lc (hk 46 (by kernel_rfl)) (lc (hk 47 (by kernel_rfl)) (lc (hk 48 (by kernel_rfl)) (lc (hk 49 (by kernel_rfl)) (lc (hk 50 (by kernel_rfl)) (lc (hk 51 (by kernel_rfl)) (lc (hk 52 (by kernel_rfl)) (lc (hk 53 (by kernel_rfl)) (lc (hk 54 (by kernel_rfl)) (lc (hk 55 (by kernel_rfl)) (lc (hk 56 (by kernel_rfl)) (lc (hk 57 (by kernel_rfl)) (lc (hk 58 (by kernel_rfl)) (lc (hk 59 (by kernel_rfl)) (lc (hk 60 (by kernel_rfl)) (lc (hk 61 (by kernel_rfl)) (lc (hk 62 (by kernel_rfl)) (lc (hk 63 (by kernel_rfl)) (lc (hk 64 (by kernel_rfl)) (lc (hk 65 (by kernel_rfl)) (lc (hk 66 (by kernel_rfl)) (lc (hk 67 (by kernel_rfl)) (lc (hk 68 (by kernel_rfl)) (lc (hk 69 (by kernel_rfl)) (lc (hk 70 (by kernel_rfl)) (lc (hk 71 (by kernel_rfl)) (lc (hk 72 (by kernel_rfl)) (lc (hk 73 (by kernel_rfl)) (lc (hk 74 (by kernel_rfl)) (lc (hk 75 (by kernel_rfl)) (lc (hk 76 (by kernel_rfl)) (lc (hk 77 (by kernel_rfl)) (lc (hk 78 (by kernel_rfl)) (lc (hk 79 (by kernel_rfl)) (lc (hk 80 (by kernel_rfl)) (lc (hk 81 (by kernel_rfl)) (lc (hk 82 (by kernel_rfl)) (lc (hk 83 (by kernel_rfl)) (lc (hk 84 (by kernel_rfl)) (lc (hk 85 (by kernel_rfl)) (lc (hk 86 (by kernel_rfl)) (lc (hk 87 (by kernel_rfl)) (lc (hk 88 (by kernel_rfl)) (lc (hk 89 (by kernel_rfl)) (lc (hk 90 (by kernel_rfl)) (lc (hk 91 (by kernel_rfl)) (lc (hk 92 (by kernel_rfl)) (lc (hk 93 (by kernel_rfl)) (lc (hk 94 (by kernel_rfl)) (lc (hk 95 (by kernel_rfl)) (lc (hk 96 (by kernel_rfl)) (lc (hk 97 (by kernel_rfl)) (lc (hk 98 (by kernel_rfl)) (lc (hk 99 (by kernel_rfl)) (lc (hk 100 (by kernel_rfl)) (lc (hk 101 (by kernel_rfl)) (lc (hk 102 (by kernel_rfl)) (lc (hk 103 (by kernel_rfl)) (lc (hk 104 (by kernel_rfl)) (lc (hk 105 (by kernel_rfl)) (lc (hk 106 (by kernel_rfl)) (lc (hk 107 (by kernel_rfl)) (lc (hk 108 (by kernel_rfl)) (lc (hk 109 (by kernel_rfl)) (lc (hk 110 (by kernel_rfl)) (lc (hk 111 (by kernel_rfl)) (lc (hk 112 (by kernel_rfl)) (lc (hk 113 (by kernel_rfl)) (lc (hk 114 (by kernel_rfl)) (lc (hk 115 (by kernel_rfl)) (lc (hk 116 (by kernel_rfl)) (lc rfl (lc rfl (lc rfl (lc rfl (lc rfl (lc (hk 122 (by kernel_rfl)) (lc (hk 123 (by kernel_rfl)) (lc (hk 124 (by kernel_rfl)) (lc (hk 125 (by kernel_rfl)) (lc (hk 126 (by kernel_rfl)) (lc (hk 127 (by kernel_rfl)) (lc (hk 128 (by kernel_rfl)) (lc (hk 129 (by kernel_rfl)) (lc (hk 130 (by kernel_rfl)) (lc (hk 131 (by kernel_rfl)) (lc (hk 132 (by kernel_rfl)) (lc (hk 133 (by kernel_rfl)) (lc (hk 134 (by kernel_rfl)) (lc (hk 135 (by kernel_rfl)) (lc (hk 136 (by kernel_rfl)) (lc (hk 137 (by kernel_rfl)) (lc (hk 138 (by kernel_rfl)) (lc (hk 139 (by kernel_rfl)) (lc (hk 140 (by kernel_rfl)) (lc (hk 141 (by kernel_rfl)) (lc (hk 142 (by kernel_rfl)) (lc (hk 143 (by kernel_rfl)) (lc (hk 144 (by kernel_rfl)) (lc (hk 145 (by kernel_rfl)) (lc (hk 146 (by kernel_rfl)) (lc (hk 147 (by kernel_rfl)) rfl)))))))))))))))))))))))))))))))))))))))))))))))))))))))))))))))))))))))))))))))))))))))))))))))))))))))))))))))))))))))))))))))))))))))))))))))))))
        · rintro s wc ⟨e1, e2, HE⟩
          simp only [mergeL, e1, e2]
          clear e1 e2 HK HB1 HB2 HC
          go_wp2_with fail
          generalize wr.heap.size = P9 at *
          go_loopw [121] (fun i wx => ∃ j : Nat, j ≤ 2 ∧ i = .int .i64 j ∧ Hid (Kv w wx [(P9, pvBox p), (g, pvObj prs), (w.heap.size + 1 + 1, .cells #[.int .i64 x.1, .int .u8 x.2.1, .int .u32 x.2.2] 28 (0, 0)), (w.heap.size + 1, .cells #[.int .i64 sv.1, .int .i64 sv.2] 23 (0, 0))])) (fun i _ => 2 - (intOf i).toNat)
          case atStart => exact ⟨0, by omega, rfl, HE⟩
          case round =>
            clear HE
            obtain ⟨j, hj, rfl, HE⟩ := hrel
            rcases Nat.lt_or_ge j 2 with hj' | hj'
            · obtain rfl | rfl : j = 0 ∨ j = 1 := by omega
              · have hK := HE.out
                clear HE
                obtain ⟨r, Hr⟩ : ∃ r, Hid (vScale p.1 sv = r) := ⟨_, Lib.hid rfl⟩
                have X := Lib.hid (fun W => ref6_Scale p.1 sv W)
                rw [Hr.out] at X
                have hpk : ∀ W, (Instr.index 43 (.agg #[.int .i64 sv.1, .int .i64 sv.2, .int .i64 sm.1, .int .i64 sm.2]) (.int .i64 0)).run Tryz.prog W = .ok (.agg #[.int .i64 sv.1, .int .i64 sv.2]) W := fun W => by kernel_rfl
                replace hK : Kv w (wr.alloc (.cells #[.int .i64 sv.1, .int .i64 sv.2] 23)) [(wr.heap.size, .cells #[.int .i64 sv.1, .int .i64 sv.2] 23 (0, 0)), (P9, pvBox p), (g, pvObj prs), (w.heap.size + 1 + 1, .cells #[.int .i64 x.1, .int .u8 x.2.1, .int .u32 x.2.2] 28 (0, 0)), (w.heap.size + 1, .cells #[.int .i64 sv.1, .int .i64 sv.2] 23 (0, 0))] := hK.al (.cells #[.int .i64 sv.1, .int .i64 sv.2] 23 (0, 0)) (n := wr.heap.size) (by simp)
                obtain ⟨cP0, cP1, cP2, cP3, cP4, cP5, cP6, cP7, cP8, cP9, cP10, cP11⟩ := pvBox_all (hK.blk _ (List.Mem.tail _ (List.Mem.head _)))
                have lP := lt_of_block (hK.blk _ (List.Mem.tail _ (List.Mem.head _)))
                have cx220 := cell_two0 (hK.blk _ (List.Mem.head _))
                have cx221 := cell_two1 (hK.blk _ (List.Mem.head _))
                have lx22 := lt_of_block (hK.blk _ (List.Mem.head _))
                go_wp2_with fail
                refine (vScaleK p.1 sv r.1 r.2 Hr.out _).mono ?_; rintro e w17 ⟨rfl, hb⟩
                replace hK := hK.on hb
                clear hpk cP0 cP1 cP2 cP3 cP4 cP5 cP6 cP7 cP8 cP9 cP10 cP11 lP cx220 cx221 lx22 hb
                replace hK : Kv w (w17.alloc (.cells #[.int .i64 r.1.1.1, .int .i64 r.1.1.2, .int .i64 r.1.2.1.1, .int .i64 r.1.2.1.2, .int .i64 r.1.2.2.1, .int .i64 r.1.2.2.2] 25)) [(w17.heap.size, vobj (vl r.1)), (wr.heap.size, .cells #[.int .i64 sv.1, .int .i64 sv.2] 23 (0, 0)), (P9, pvBox p), (g, pvObj prs), (w.heap.size + 1 + 1, .cells #[.int .i64 x.1, .int .u8 x.2.1, .int .u32 x.2.2] 28 (0, 0)), (w.heap.size + 1, .cells #[.int .i64 sv.1, .int .i64 sv.2] 23 (0, 0))] := hK.al (vobj (vl r.1)) (n := w17.heap.size) (by simp)
                obtain ⟨cP0, cP1, cP2, cP3, cP4, cP5, cP6, cP7, cP8, cP9, cP10, cP11⟩ := pvBox_all (hK.blk _ (List.Mem.tail _ (List.Mem.tail _ (List.Mem.head _))))
                have lP := lt_of_block (hK.blk _ (List.Mem.tail _ (List.Mem.tail _ (List.Mem.head _))))
                have cx220 := cell_two0 (hK.blk _ (List.Mem.tail _ (List.Mem.head _)))
                have cx221 := cell_two1 (hK.blk _ (List.Mem.tail _ (List.Mem.head _)))
                have lx22 := lt_of_block (hK.blk _ (List.Mem.tail _ (List.Mem.head _)))
                go_wp2_with fail
                refine (X.out _).mono ?_; rintro e w18 ⟨rfl, hb⟩
                replace hK := hK.on hb
                clear cP0 cP1 cP2 cP3 cP4 cP5 cP6 cP7 cP8 cP9 cP10 cP11 lP cx220 cx221 lx22 hb
                replace hK : Kv w (w18.alloc (.cells #[.int .i64 r.1.1.1, .int .i64 r.1.1.2, .int .i64 r.1.2.1.1, .int .i64 r.1.2.1.2, .int .i64 r.1.2.2.1, .int .i64 r.1.2.2.2] 25)) [(w18.heap.size, vobj (vl r.1)), (w17.heap.size, vobj (vl r.1)), (wr.heap.size, .cells #[.int .i64 sv.1, .int .i64 sv.2] 23 (0, 0)), (P9, pvBox p), (g, pvObj prs), (w.heap.size + 1 + 1, .cells #[.int .i64 x.1, .int .u8 x.2.1, .int .u32 x.2.2] 28 (0, 0)), (w.heap.size + 1, .cells #[.int .i64 sv.1, .int .i64 sv.2] 23 (0, 0))] := hK.al (vobj (vl r.1)) (n := w18.heap.size) (by simp)
                obtain ⟨cx230, cx231, cx232, cx233, cx234, cx235⟩ := vobj_six (hK.blk _ (List.Mem.tail _ (List.Mem.head _)))
                have lx23 := lt_of_block (hK.blk _ (List.Mem.tail _ (List.Mem.head _)))
                obtain ⟨cx250, cx251, cx252, cx253, cx254, cx255⟩ := vobj_six (hK.blk _ (List.Mem.head _))
                have lx25 := lt_of_block (hK.blk _ (List.Mem.head _))
                have hq19_2 : ∀ W, (Op.equalIn 10000 25 (.agg #[.int .i64 r.1.1.1, .int .i64 r.1.1.2, .int .i64 r.1.2.1.1, .int .i64 r.1.2.1.2, .int .i64 r.1.2.2.1, .int .i64 r.1.2.2.2]) (.agg #[.int .i64 r.1.1.1, .int .i64 r.1.1.2, .int .i64 r.1.2.1.1, .int .i64 r.1.2.1.2, .int .i64 r.1.2.2.1, .int .i64 r.1.2.2.2])).run Tryz.prog W = .ok true W := fun W => (eqlV r.1 r.1 W).trans (by simp)
                go_wp2_with fail
                go_roundw
                case rel => exact ⟨1, by omega, by go_num, Lib.hid (hK.sub (by simp))⟩
                case measure => simp [intOf]
              · have hK := HE.out
                clear HE
                obtain ⟨r, Hr⟩ : ∃ r, Hid (vScale p.1 sm = r) := ⟨_, Lib.hid rfl⟩
                have X := Lib.hid (fun W => ref6_Scale p.1 sm W)
                rw [Hr.out] at X
                have hpk : ∀ W, (Instr.index 43 (.agg #[.int .i64 sv.1, .int .i64 sv.2, .int .i64 sm.1, .int .i64 sm.2]) (.int .i64 1)).run Tryz.prog W = .ok (.agg #[.int .i64 sm.1, .int .i64 sm.2]) W := fun W => by kernel_rfl
                replace hK : Kv w (wr.alloc (.cells #[.int .i64 sm.1, .int .i64 sm.2] 23)) [(wr.heap.size, .cells #[.int .i64 sm.1, .int .i64 sm.2] 23 (0, 0)), (P9, pvBox p), (g, pvObj prs), (w.heap.size + 1 + 1, .cells #[.int .i64 x.1, .int .u8 x.2.1, .int .u32 x.2.2] 28 (0, 0)), (w.heap.size + 1, .cells #[.int .i64 sv.1, .int .i64 sv.2] 23 (0, 0))] := hK.al (.cells #[.int .i64 sm.1, .int .i64 sm.2] 23 (0, 0)) (n := wr.heap.size) (by simp)
                obtain ⟨cP0, cP1, cP2, cP3, cP4, cP5, cP6, cP7, cP8, cP9, cP10, cP11⟩ := pvBox_all (hK.blk _ (List.Mem.tail _ (List.Mem.head _)))
                have lP := lt_of_block (hK.blk _ (List.Mem.tail _ (List.Mem.head _)))
                have cx220 := cell_two0 (hK.blk _ (List.Mem.head _))
                have cx221 := cell_two1 (hK.blk _ (List.Mem.head _))
                have lx22 := lt_of_block (hK.blk _ (List.Mem.head _))
                go_wp2_with fail
                refine (vScaleK p.1 sm r.1 r.2 Hr.out _).mono ?_; rintro e w17 ⟨rfl, hb⟩
                replace hK := hK.on hb
                clear hpk cP0 cP1 cP2 cP3 cP4 cP5 cP6 cP7 cP8 cP9 cP10 cP11 lP cx220 cx221 lx22 hb
                replace hK : Kv w (w17.alloc (.cells #[.int .i64 r.1.1.1, .int .i64 r.1.1.2, .int .i64 r.1.2.1.1, .int .i64 r.1.2.1.2, .int .i64 r.1.2.2.1, .int .i64 r.1.2.2.2] 25)) [(w17.heap.size, vobj (vl r.1)), (wr.heap.size, .cells #[.int .i64 sm.1, .int .i64 sm.2] 23 (0, 0)), (P9, pvBox p), (g, pvObj prs), (w.heap.size + 1 + 1, .cells #[.int .i64 x.1, .int .u8 x.2.1, .int .u32 x.2.2] 28 (0, 0)), (w.heap.size + 1, .cells #[.int .i64 sv.1, .int .i64 sv.2] 23 (0, 0))] := hK.al (vobj (vl r.1)) (n := w17.heap.size) (by simp)
                obtain ⟨cP0, cP1, cP2, cP3, cP4, cP5, cP6, cP7, cP8, cP9, cP10, cP11⟩ := pvBox_all (hK.blk _ (List.Mem.tail _ (List.Mem.tail _ (List.Mem.head _))))
                have lP := lt_of_block (hK.blk _ (List.Mem.tail _ (List.Mem.tail _ (List.Mem.head _))))
                have cx220 := cell_two0 (hK.blk _ (List.Mem.tail _ (List.Mem.head _)))
                have cx221 := cell_two1 (hK.blk _ (List.Mem.tail _ (List.Mem.head _)))
                have lx22 := lt_of_block (hK.blk _ (List.Mem.tail _ (List.Mem.head _)))
                go_wp2_with fail
                refine (X.out _).mono ?_; rintro e w18 ⟨rfl, hb⟩
                replace hK := hK.on hb
                clear cP0 cP1 cP2 cP3 cP4 cP5 cP6 cP7 cP8 cP9 cP10 cP11 lP cx220 cx221 lx22 hb
                replace hK : Kv w (w18.alloc (.cells #[.int .i64 r.1.1.1, .int .i64 r.1.1.2, .int .i64 r.1.2.1.1, .int .i64 r.1.2.1.2, .int .i64 r.1.2.2.1, .int .i64 r.1.2.2.2] 25)) [(w18.heap.size, vobj (vl r.1)), (w17.heap.size, vobj (vl r.1)), (wr.heap.size, .cells #[.int .i64 sm.1, .int .i64 sm.2] 23 (0, 0)), (P9, pvBox p), (g, pvObj prs), (w.heap.size + 1 + 1, .cells #[.int .i64 x.1, .int .u8 x.2.1, .int .u32 x.2.2] 28 (0, 0)), (w.heap.size + 1, .cells #[.int .i64 sv.1, .int .i64 sv.2] 23 (0, 0))] := hK.al (vobj (vl r.1)) (n := w18.heap.size) (by simp)
                obtain ⟨cx230, cx231, cx232, cx233, cx234, cx235⟩ := vobj_six (hK.blk _ (List.Mem.tail _ (List.Mem.head _)))
                have lx23 := lt_of_block (hK.blk _ (List.Mem.tail _ (List.Mem.head _)))
                obtain ⟨cx250, cx251, cx252, cx253, cx254, cx255⟩ := vobj_six (hK.blk _ (List.Mem.head _))
                have lx25 := lt_of_block (hK.blk _ (List.Mem.head _))
                have hq19_2 : ∀ W, (Op.equalIn 10000 25 (.agg #[.int .i64 r.1.1.1, .int .i64 r.1.1.2, .int .i64 r.1.2.1.1, .int .i64 r.1.2.1.2, .int .i64 r.1.2.2.1, .int .i64 r.1.2.2.2]) (.agg #[.int .i64 r.1.1.1, .int .i64 r.1.1.2, .int .i64 r.1.2.1.1, .int .i64 r.1.2.1.2, .int .i64 r.1.2.2.1, .int .i64 r.1.2.2.2])).run Tryz.prog W = .ok true W := fun W => (eqlV r.1 r.1 W).trans (by simp)
                go_wp2_with fail
                go_roundw
                case rel => exact ⟨2, by omega, by go_num, Lib.hid (hK.sub (by simp))⟩
                case measure => simp [intOf]
            · obtain rfl : j = 2 := by omega
              have hK := HE.out
              clear HE
              go_wp2_with fail
              go_roundw
              case rel => exact ⟨k + 1, by omega, by go_num, Lib.hid (hK.sub (by simp))⟩
              case measure => simp [intOf]; omega
    · obtain rfl : k = 4 := by omega
      go_wp2_with fail
      go_ret
      exact ⟨rfl, HA.out.bel⟩
end Go.Proofs.YtmnccbhlllnlbaaGreat.vecSums
