/- The walk of monoclelaw06.VecNorms. Printed by wip/genVL2.py. -/
import Derived.Deep.DeepCutAuto
import Derived.Deep.CutBlock
import Derived.Test.YtmnccbhlllnlbaaGreatLawVS
import Derived.Test.YtmnccbhlllnlbaaGreatCutMerge
import Derived.Test.YtmnccbhlllnlbaaGreatVecLaw
import Derived.Test.YtmnccbhlllnlbaaGreatRefVE
namespace Go.Proofs.YtmnccbhlllnlbaaGreat.vecNorms
open Go.RowKit Mnc
attribute [local go_sem] RunS_value RunS_skip RunS_enter evS_tmp evS_const evS_global evS_func
set_option maxRecDepth 100000 in
set_option maxHeartbeats 16000000 in
theorem walk (T : Tv) (hT : T.ok) (w : World) :
    Calls Tryz.prog 5 #[T.val] w fun e w' => e = .returned (.bool true) ∧ Below w.heap.size w w' := by
  have hK := (Kv.start w).al T.obj (n := w.heap.size) rfl
  have HT := Lib.hid hT
  clear hT
  unfold Tv.val
  go_enter Tryz.func5, Tryz.ntmps5
  go_wp2_with fail
  refine (law6_works _).mono ?_; rintro e w1 ⟨rfl, hb⟩
  replace hK := hK.on hb
  clear hb
  obtain ⟨dT, hdT, hrT⟩ := tv_desc
  have hl := tv_range (hK.blk _ (List.Mem.head _))
  go_upto_region 3 with (fail)
  refine wp_region_lit ?_
  refine wpList_load_mid rfl 32 _ rfl _ _ rfl _ _ hl hdT hrT (by kernel_rfl) ?_
  go_wp2_with fail
  refine (law6_pairs' T HT.out _).mono ?_; rintro e w2 ⟨⟨v, rfl, g, rfl, hg, hbl⟩, hb⟩
  have HS := Lib.hid (((hK.on hb).put (Below.refl _ _) hbl).sub (cs := [(g, pvObj (pvs T))]) (by simp))
  have HP : Hid (∀ k, k < 4 → ∃ p, (pvs T)[k]? = some p) := Lib.hid fun k hk => ⟨_, List.getElem?_eq_getElem (show k < (pvs T).length by unfold pvs; simp only [List.length_cons, List.length_nil]; omega)⟩
  clear hK hb hl hdT hrT hg hbl
  generalize pvs T = prs at *
  go_wp2_with fail
  go_loopw [18] (fun i wr => ∃ k : Nat, k ≤ 4 ∧ i = .int .i64 k ∧ Hid (Kv w wr [(g, pvObj prs)])) (fun i _ => 4 - (intOf i).toNat)
  case atStart => exact ⟨0, by omega, rfl, HS⟩
  case round =>
    clear HS
    obtain ⟨k, hk, rfl, HA⟩ := hrel
    rcases Nat.lt_or_ge k 4 with hk' | hk'
    · obtain ⟨p, hp⟩ := HP.out k hk'
      obtain ⟨c0, c1, c2, c3, c4, c5, c6, c7, c8, c9, c10, c11⟩ := pv_cells (k := k * 12) (HA.out.blk _ (List.Mem.head _)) hp rfl
      have lg := lt_of_block (HA.out.blk _ (List.Mem.head _))
      have hK : Kv w (wr.alloc (.cells #[.int .i64 p.1.1.1, .int .i64 p.1.1.2, .int .i64 p.1.2.1.1, .int .i64 p.1.2.1.2, .int .i64 p.1.2.2.1, .int .i64 p.1.2.2.2, .int .i64 p.2.1.1, .int .i64 p.2.1.2, .int .i64 p.2.2.1.1, .int .i64 p.2.2.1.2, .int .i64 p.2.2.2.1, .int .i64 p.2.2.2.2] 36)) [(wr.heap.size, pvBox p), (g, pvObj prs)] := HA.out.al (pvBox p) (n := wr.heap.size) rfl
      clear hp
      obtain ⟨d, Hd⟩ : ∃ r, Hid (vNorm p.1 = r) := ⟨_, Lib.hid rfl⟩
      obtain ⟨c, Hc⟩ : ∃ r, Hid (vUnit p.1 = r) := ⟨_, Lib.hid rfl⟩
      have HR := Lib.hid (fun W => ref6_Norm p.1 W)
      have HX := Lib.hid (fun W => ref6_Unit p.1 W)
      rw [Hd.out] at HR
      rw [Hc.out] at HX
      obtain ⟨cP0, cP1, cP2, cP3, cP4, cP5, cP6, cP7, cP8, cP9, cP10, cP11⟩ := pvBox_all (hK.blk _ (List.Mem.head _))
      have lP := lt_of_block (hK.blk _ (List.Mem.head _))
      go_wp2_with fail
      refine (vNormK p.1 d.1 d.2 Hd.out _).mono ?_; rintro e w1 ⟨rfl, hb⟩
      replace hK := hK.on hb
      clear cP0 cP1 cP2 cP3 cP4 cP5 cP6 cP7 cP8 cP9 cP10 cP11 lP hb
      replace hK : Kv w (w1.alloc (.cells #[.int .i64 d.1.1, .int .i64 d.1.2] 23)) [(w1.heap.size, .cells #[.int .i64 d.1.1, .int .i64 d.1.2] 23 (0, 0)), (wr.heap.size, pvBox p), (g, pvObj prs)] := hK.al (.cells #[.int .i64 d.1.1, .int .i64 d.1.2] 23 (0, 0)) (n := w1.heap.size) (by simp)
      obtain ⟨cP0, cP1, cP2, cP3, cP4, cP5, cP6, cP7, cP8, cP9, cP10, cP11⟩ := pvBox_all (hK.blk _ (List.Mem.tail _ (List.Mem.head _)))
      have lP := lt_of_block (hK.blk _ (List.Mem.tail _ (List.Mem.head _)))
      go_wp2_with fail
      refine (HR.out _).mono ?_; rintro e w2 ⟨rfl, hb⟩
      replace hK := hK.on hb
      clear cP0 cP1 cP2 cP3 cP4 cP5 cP6 cP7 cP8 cP9 cP10 cP11 lP hb
      replace hK : Kv w (w2.alloc (.cells #[.int .i64 d.1.1, .int .i64 d.1.2] 23)) [(w2.heap.size, .cells #[.int .i64 d.1.1, .int .i64 d.1.2] 23 (0, 0)), (w1.heap.size, .cells #[.int .i64 d.1.1, .int .i64 d.1.2] 23 (0, 0)), (wr.heap.size, pvBox p), (g, pvObj prs)] := hK.al (.cells #[.int .i64 d.1.1, .int .i64 d.1.2] 23 (0, 0)) (n := w2.heap.size) (by simp)
      obtain ⟨cP0, cP1, cP2, cP3, cP4, cP5, cP6, cP7, cP8, cP9, cP10, cP11⟩ := pvBox_all (hK.blk _ (List.Mem.tail _ (List.Mem.tail _ (List.Mem.head _))))
      have lP := lt_of_block (hK.blk _ (List.Mem.tail _ (List.Mem.tail _ (List.Mem.head _))))
      go_wp2_with fail
      refine (vUnitK p.1 c.1 c.2 Hc.out _).mono ?_; rintro e w3 ⟨rfl, hb⟩
      replace hK := hK.on hb
      clear cP0 cP1 cP2 cP3 cP4 cP5 cP6 cP7 cP8 cP9 cP10 cP11 lP hb
      replace hK : Kv w (w3.alloc (.cells #[.int .i64 c.1.1.1, .int .i64 c.1.1.2, .int .i64 c.1.2.1.1, .int .i64 c.1.2.1.2, .int .i64 c.1.2.2.1, .int .i64 c.1.2.2.2] 25)) [(w3.heap.size, vobj (vl c.1)), (w2.heap.size, .cells #[.int .i64 d.1.1, .int .i64 d.1.2] 23 (0, 0)), (w1.heap.size, .cells #[.int .i64 d.1.1, .int .i64 d.1.2] 23 (0, 0)), (wr.heap.size, pvBox p), (g, pvObj prs)] := hK.al (vobj (vl c.1)) (n := w3.heap.size) (by simp)
      obtain ⟨cP0, cP1, cP2, cP3, cP4, cP5, cP6, cP7, cP8, cP9, cP10, cP11⟩ := pvBox_all (hK.blk _ (List.Mem.tail _ (List.Mem.tail _ (List.Mem.tail _ (List.Mem.head _)))))
      have lP := lt_of_block (hK.blk _ (List.Mem.tail _ (List.Mem.tail _ (List.Mem.tail _ (List.Mem.head _)))))
      go_wp2_with fail
      refine (HX.out _).mono ?_; rintro e w4 ⟨rfl, hb⟩
      replace hK := hK.on hb
      clear cP0 cP1 cP2 cP3 cP4 cP5 cP6 cP7 cP8 cP9 cP10 cP11 lP hb
      replace hK : Kv w (w4.alloc (.cells #[.int .i64 c.1.1.1, .int .i64 c.1.1.2, .int .i64 c.1.2.1.1, .int .i64 c.1.2.1.2, .int .i64 c.1.2.2.1, .int .i64 c.1.2.2.2] 25)) [(w4.heap.size, vobj (vl c.1)), (w3.heap.size, vobj (vl c.1)), (w2.heap.size, .cells #[.int .i64 d.1.1, .int .i64 d.1.2] 23 (0, 0)), (w1.heap.size, .cells #[.int .i64 d.1.1, .int .i64 d.1.2] 23 (0, 0)), (wr.heap.size, pvBox p), (g, pvObj prs)] := hK.al (vobj (vl c.1)) (n := w4.heap.size) (by simp)
      have cx50 := cell_two0 (hK.blk _ (List.Mem.tail _ (List.Mem.tail _ (List.Mem.tail _ (List.Mem.head _)))))
      have cx51 := cell_two1 (hK.blk _ (List.Mem.tail _ (List.Mem.tail _ (List.Mem.tail _ (List.Mem.head _)))))
      have lx5 := lt_of_block (hK.blk _ (List.Mem.tail _ (List.Mem.tail _ (List.Mem.tail _ (List.Mem.head _)))))
      have cx70 := cell_two0 (hK.blk _ (List.Mem.tail _ (List.Mem.tail _ (List.Mem.head _))))
      have cx71 := cell_two1 (hK.blk _ (List.Mem.tail _ (List.Mem.tail _ (List.Mem.head _))))
      have lx7 := lt_of_block (hK.blk _ (List.Mem.tail _ (List.Mem.tail _ (List.Mem.head _))))
      obtain ⟨cx90, cx91, cx92, cx93, cx94, cx95⟩ := vobj_six (hK.blk _ (List.Mem.tail _ (List.Mem.head _)))
      have lx9 := lt_of_block (hK.blk _ (List.Mem.tail _ (List.Mem.head _)))
      obtain ⟨cx110, cx111, cx112, cx113, cx114, cx115⟩ := vobj_six (hK.blk _ (List.Mem.head _))
      have lx11 := lt_of_block (hK.blk _ (List.Mem.head _))
      have hq10_11 : ∀ W, (Op.equalIn 10000 25 (.agg #[.int .i64 c.1.1.1, .int .i64 c.1.1.2, .int .i64 c.1.2.1.1, .int .i64 c.1.2.1.2, .int .i64 c.1.2.2.1, .int .i64 c.1.2.2.2]) (.agg #[.int .i64 c.1.1.1, .int .i64 c.1.1.2, .int .i64 c.1.2.1.1, .int .i64 c.1.2.1.2, .int .i64 c.1.2.2.1, .int .i64 c.1.2.2.2])).run Tryz.prog W = .ok true W := fun W => (eqlV c.1 c.1 W).trans (by simp)
      go_wp2_with fail
      go_roundw
      case rel => exact ⟨k + 1, by omega, by go_num, Lib.hid (hK.sub (by simp))⟩
      case measure => simp [intOf]; omega
    · obtain rfl : k = 4 := by omega
      go_wp2_with fail
      go_ret
      exact ⟨rfl, HA.out.bel⟩
end Go.Proofs.YtmnccbhlllnlbaaGreat.vecNorms
