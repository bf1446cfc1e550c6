/- The walk of monoclelaw02.SpanSets. Printed by a generator. -/
import Derived.Test.YtjphhdfkkkdppaaDoorLawS
import Derived.Test.YtjphhdfkkkdppaaDoorRefSE
import Derived.Test.YtjphhdfkkkdppaaDoorRefSM
namespace Go.Proofs.YtjphhdfkkkdppaaDoor
open Go.RowKit Mnc

set_option maxRecDepth 100000 in
set_option maxHeartbeats 8000000 in
theorem law2_SpanSets (T : Tw) (hT : T.ok) (w : World) (hP : Pows w) :
    Calls Tryd.prog 6 #[T.val] w fun e w' => e = .returned (.bool true) ∧ Below w.heap.size w w' := by
  have HP := Lib.hid (hP.below (below_alloc (Below.refl _ _) T.obj))
  have HT := Lib.hid hT
  clear hP hT
  have hS := (Kn.start w).al T.obj
  unfold Tw.val
  go_enter Tryd.func6, Tryd.ntmps6
  go_wp2_with fail
  refine (hS.call (law2_works _ HP.out)).mono ?_; rintro e w1 ⟨rfl, hS⟩
  obtain ⟨k0, k1, k2, k3, k4, k5, k6, k7, k8, k9⟩ := tw_all (hS.blk (w.heap.size, T.obj) (by simp))
  go_wp2_with fail
  refine (hS.pairs T HT.out).mono ?_; rintro e w2 ⟨g, rfl, hS⟩
  have HS := Lib.hid (hS.sub (cs := [(g, prObj (prsOf T))]) (by simp))
  have HL := Lib.hid (show (prsOf T).length = 5 from rfl)
  clear hS k0 k1 k2 k3 k4 k5 k6 k7 k8 k9 HP
  generalize prsOf T = prs at *
  go_wp2_with fail
  go_loopw [22] (fun i wr => ∃ k : Nat, k ≤ 5 ∧ i = .int .i64 k ∧ Hid (Kn w wr [(g, prObj prs)])) (fun i _ => 5 - (intOf i).toNat)
  case atStart => exact ⟨0, by omega, rfl, HS⟩
  case round =>
    clear HS
    obtain ⟨k, hk, rfl, HA⟩ := hrel
    rcases Nat.lt_or_ge k 5 with hk' | hk'
    · obtain ⟨p, hp⟩ : ∃ p, prs[k]? = some p := ⟨_, List.getElem?_eq_getElem (by rw [HL.out]; exact hk')⟩
      obtain ⟨c0, c1, c2, c3⟩ := pr_cells (HA.out.blk (g, prObj prs) (by simp)) hp
      have HPk := Lib.hid hp
      have hS := HA.out
      clear hp
      go_wp2_with fail
      clear c0 c1 c2 c3
      replace hS := hS.al (.cells #[.int .i64 p.1.1, .int .i64 p.1.2, .int .i64 p.2.1, .int .i64 p.2.2] 29 (0, 0))
      refine (hS.call (span_Abs p.1 _)).mono ?_; rintro e x0 ⟨rfl, hS⟩
      have lP := lt_of_block (hS.blk (wr.heap.size, .cells #[.int .i64 p.1.1, .int .i64 p.1.2, .int .i64 p.2.1, .int .i64 p.2.2] 29 (0, 0)) (List.Mem.head _))
      obtain ⟨cP0, cP1, cP2, cP3⟩ := cell_four (hS.blk (wr.heap.size, .cells #[.int .i64 p.1.1, .int .i64 p.1.2, .int .i64 p.2.1, .int .i64 p.2.2] 29 (0, 0)) (List.Mem.head _))
      go_wp2_with fail
      clear lP cP0 cP1 cP2 cP3
      have gA : w.heap.size ≤ x0.heap.size := hS.bel.size
      have nAP : x0.heap.size ≠ wr.heap.size := Nat.ne_of_gt (lt_of_block (hS.blk (wr.heap.size, .cells #[.int .i64 p.1.1, .int .i64 p.1.2, .int .i64 p.2.1, .int .i64 p.2.2] 29 (0, 0)) (List.Mem.head _)))
      have nAg : x0.heap.size ≠ g := Nat.ne_of_gt (lt_of_block (hS.blk (g, prObj prs) (List.Mem.tail _ (List.Mem.head _))))
      replace hS := hS.al (.cells #[.int .i64 (sAbs p.1).1.1, .int .i64 (sAbs p.1).1.2] 23 (0, 0))
      refine (hS.call (ref2_Abs p.1 _)).mono ?_; rintro e x1 ⟨rfl, hS⟩
      have lP := lt_of_block (hS.blk (wr.heap.size, .cells #[.int .i64 p.1.1, .int .i64 p.1.2, .int .i64 p.2.1, .int .i64 p.2.2] 29 (0, 0)) (List.Mem.tail _ (List.Mem.head _)))
      obtain ⟨cP0, cP1, cP2, cP3⟩ := cell_four (hS.blk (wr.heap.size, .cells #[.int .i64 p.1.1, .int .i64 p.1.2, .int .i64 p.2.1, .int .i64 p.2.2] 29 (0, 0)) (List.Mem.tail _ (List.Mem.head _)))
      go_wp2_with fail
      clear lP cP0 cP1 cP2 cP3
      have gB : w.heap.size ≤ x1.heap.size := hS.bel.size
      have nBA : x1.heap.size ≠ x0.heap.size := Nat.ne_of_gt (lt_of_block (hS.blk (x0.heap.size, .cells #[.int .i64 (sAbs p.1).1.1, .int .i64 (sAbs p.1).1.2] 23 (0, 0)) (List.Mem.head _)))
      have nBP : x1.heap.size ≠ wr.heap.size := Nat.ne_of_gt (lt_of_block (hS.blk (wr.heap.size, .cells #[.int .i64 p.1.1, .int .i64 p.1.2, .int .i64 p.2.1, .int .i64 p.2.2] 29 (0, 0)) (List.Mem.tail _ (List.Mem.head _))))
      have nBg : x1.heap.size ≠ g := Nat.ne_of_gt (lt_of_block (hS.blk (g, prObj prs) (List.Mem.tail _ (List.Mem.tail _ (List.Mem.head _)))))
      replace hS := hS.al (.cells #[.int .i64 (sAbs p.1).1.1, .int .i64 (sAbs p.1).1.2] 23 (0, 0))
      refine (hS.call (span_Min p.1 p.2 _)).mono ?_; rintro e x2 ⟨rfl, hS⟩
      have lP := lt_of_block (hS.blk (wr.heap.size, .cells #[.int .i64 p.1.1, .int .i64 p.1.2, .int .i64 p.2.1, .int .i64 p.2.2] 29 (0, 0)) (List.Mem.tail _ (List.Mem.tail _ (List.Mem.head _))))
      obtain ⟨cP0, cP1, cP2, cP3⟩ := cell_four (hS.blk (wr.heap.size, .cells #[.int .i64 p.1.1, .int .i64 p.1.2, .int .i64 p.2.1, .int .i64 p.2.2] 29 (0, 0)) (List.Mem.tail _ (List.Mem.tail _ (List.Mem.head _))))
      go_wp2_with fail
      clear lP cP0 cP1 cP2 cP3
      have gC : w.heap.size ≤ x2.heap.size := hS.bel.size
      have nCB : x2.heap.size ≠ x1.heap.size := Nat.ne_of_gt (lt_of_block (hS.blk (x1.heap.size, .cells #[.int .i64 (sAbs p.1).1.1, .int .i64 (sAbs p.1).1.2] 23 (0, 0)) (List.Mem.head _)))
      have nCA : x2.heap.size ≠ x0.heap.size := Nat.ne_of_gt (lt_of_block (hS.blk (x0.heap.size, .cells #[.int .i64 (sAbs p.1).1.1, .int .i64 (sAbs p.1).1.2] 23 (0, 0)) (List.Mem.tail _ (List.Mem.head _))))
      have nCP : x2.heap.size ≠ wr.heap.size := Nat.ne_of_gt (lt_of_block (hS.blk (wr.heap.size, .cells #[.int .i64 p.1.1, .int .i64 p.1.2, .int .i64 p.2.1, .int .i64 p.2.2] 29 (0, 0)) (List.Mem.tail _ (List.Mem.tail _ (List.Mem.head _)))))
      have nCg : x2.heap.size ≠ g := Nat.ne_of_gt (lt_of_block (hS.blk (g, prObj prs) (List.Mem.tail _ (List.Mem.tail _ (List.Mem.tail _ (List.Mem.head _))))))
      replace hS := hS.al (.cells #[.int .i64 (sMin p.1 p.2).1.1, .int .i64 (sMin p.1 p.2).1.2] 23 (0, 0))
      refine (hS.call (ref2_Min p.1 p.2 _)).mono ?_; rintro e x3 ⟨rfl, hS⟩
      have lP := lt_of_block (hS.blk (wr.heap.size, .cells #[.int .i64 p.1.1, .int .i64 p.1.2, .int .i64 p.2.1, .int .i64 p.2.2] 29 (0, 0)) (List.Mem.tail _ (List.Mem.tail _ (List.Mem.tail _ (List.Mem.head _)))))
      obtain ⟨cP0, cP1, cP2, cP3⟩ := cell_four (hS.blk (wr.heap.size, .cells #[.int .i64 p.1.1, .int .i64 p.1.2, .int .i64 p.2.1, .int .i64 p.2.2] 29 (0, 0)) (List.Mem.tail _ (List.Mem.tail _ (List.Mem.tail _ (List.Mem.head _)))))
      go_wp2_with fail
      clear lP cP0 cP1 cP2 cP3
      have gD : w.heap.size ≤ x3.heap.size := hS.bel.size
      have nDC : x3.heap.size ≠ x2.heap.size := Nat.ne_of_gt (lt_of_block (hS.blk (x2.heap.size, .cells #[.int .i64 (sMin p.1 p.2).1.1, .int .i64 (sMin p.1 p.2).1.2] 23 (0, 0)) (List.Mem.head _)))
      have nDB : x3.heap.size ≠ x1.heap.size := Nat.ne_of_gt (lt_of_block (hS.blk (x1.heap.size, .cells #[.int .i64 (sAbs p.1).1.1, .int .i64 (sAbs p.1).1.2] 23 (0, 0)) (List.Mem.tail _ (List.Mem.head _))))
      have nDA : x3.heap.size ≠ x0.heap.size := Nat.ne_of_gt (lt_of_block (hS.blk (x0.heap.size, .cells #[.int .i64 (sAbs p.1).1.1, .int .i64 (sAbs p.1).1.2] 23 (0, 0)) (List.Mem.tail _ (List.Mem.tail _ (List.Mem.head _)))))
      have nDP : x3.heap.size ≠ wr.heap.size := Nat.ne_of_gt (lt_of_block (hS.blk (wr.heap.size, .cells #[.int .i64 p.1.1, .int .i64 p.1.2, .int .i64 p.2.1, .int .i64 p.2.2] 29 (0, 0)) (List.Mem.tail _ (List.Mem.tail _ (List.Mem.tail _ (List.Mem.head _))))))
      have nDg : x3.heap.size ≠ g := Nat.ne_of_gt (lt_of_block (hS.blk (g, prObj prs) (List.Mem.tail _ (List.Mem.tail _ (List.Mem.tail _ (List.Mem.tail _ (List.Mem.head _)))))))
      replace hS := hS.al (.cells #[.int .i64 (sMin p.1 p.2).1.1, .int .i64 (sMin p.1 p.2).1.2] 23 (0, 0))
      refine (hS.call (span_Max p.1 p.2 _)).mono ?_; rintro e x4 ⟨rfl, hS⟩
      have lP := lt_of_block (hS.blk (wr.heap.size, .cells #[.int .i64 p.1.1, .int .i64 p.1.2, .int .i64 p.2.1, .int .i64 p.2.2] 29 (0, 0)) (List.Mem.tail _ (List.Mem.tail _ (List.Mem.tail _ (List.Mem.tail _ (List.Mem.head _))))))
      obtain ⟨cP0, cP1, cP2, cP3⟩ := cell_four (hS.blk (wr.heap.size, .cells #[.int .i64 p.1.1, .int .i64 p.1.2, .int .i64 p.2.1, .int .i64 p.2.2] 29 (0, 0)) (List.Mem.tail _ (List.Mem.tail _ (List.Mem.tail _ (List.Mem.tail _ (List.Mem.head _))))))
      go_wp2_with fail
      clear lP cP0 cP1 cP2 cP3
      have gE : w.heap.size ≤ x4.heap.size := hS.bel.size
      have nED : x4.heap.size ≠ x3.heap.size := Nat.ne_of_gt (lt_of_block (hS.blk (x3.heap.size, .cells #[.int .i64 (sMin p.1 p.2).1.1, .int .i64 (sMin p.1 p.2).1.2] 23 (0, 0)) (List.Mem.head _)))
      have nEC : x4.heap.size ≠ x2.heap.size := Nat.ne_of_gt (lt_of_block (hS.blk (x2.heap.size, .cells #[.int .i64 (sMin p.1 p.2).1.1, .int .i64 (sMin p.1 p.2).1.2] 23 (0, 0)) (List.Mem.tail _ (List.Mem.head _))))
      have nEB : x4.heap.size ≠ x1.heap.size := Nat.ne_of_gt (lt_of_block (hS.blk (x1.heap.size, .cells #[.int .i64 (sAbs p.1).1.1, .int .i64 (sAbs p.1).1.2] 23 (0, 0)) (List.Mem.tail _ (List.Mem.tail _ (List.Mem.head _)))))
      have nEA : x4.heap.size ≠ x0.heap.size := Nat.ne_of_gt (lt_of_block (hS.blk (x0.heap.size, .cells #[.int .i64 (sAbs p.1).1.1, .int .i64 (sAbs p.1).1.2] 23 (0, 0)) (List.Mem.tail _ (List.Mem.tail _ (List.Mem.tail _ (List.Mem.head _))))))
      have nEP : x4.heap.size ≠ wr.heap.size := Nat.ne_of_gt (lt_of_block (hS.blk (wr.heap.size, .cells #[.int .i64 p.1.1, .int .i64 p.1.2, .int .i64 p.2.1, .int .i64 p.2.2] 29 (0, 0)) (List.Mem.tail _ (List.Mem.tail _ (List.Mem.tail _ (List.Mem.tail _ (List.Mem.head _)))))))
      have nEg : x4.heap.size ≠ g := Nat.ne_of_gt (lt_of_block (hS.blk (g, prObj prs) (List.Mem.tail _ (List.Mem.tail _ (List.Mem.tail _ (List.Mem.tail _ (List.Mem.tail _ (List.Mem.head _))))))))
      replace hS := hS.al (.cells #[.int .i64 (sMax p.1 p.2).1.1, .int .i64 (sMax p.1 p.2).1.2] 23 (0, 0))
      refine (hS.call (ref2_Max p.1 p.2 _)).mono ?_; rintro e x5 ⟨rfl, hS⟩
      have lA := lt_of_block (hS.blk (x0.heap.size, .cells #[.int .i64 (sAbs p.1).1.1, .int .i64 (sAbs p.1).1.2] 23 (0, 0)) (List.Mem.tail _ (List.Mem.tail _ (List.Mem.tail _ (List.Mem.tail _ (List.Mem.head _))))))
      have cA0 := cell_two0 (hS.blk (x0.heap.size, .cells #[.int .i64 (sAbs p.1).1.1, .int .i64 (sAbs p.1).1.2] 23 (0, 0)) (List.Mem.tail _ (List.Mem.tail _ (List.Mem.tail _ (List.Mem.tail _ (List.Mem.head _))))))
      have cA1 := cell_two1 (hS.blk (x0.heap.size, .cells #[.int .i64 (sAbs p.1).1.1, .int .i64 (sAbs p.1).1.2] 23 (0, 0)) (List.Mem.tail _ (List.Mem.tail _ (List.Mem.tail _ (List.Mem.tail _ (List.Mem.head _))))))
      have lB := lt_of_block (hS.blk (x1.heap.size, .cells #[.int .i64 (sAbs p.1).1.1, .int .i64 (sAbs p.1).1.2] 23 (0, 0)) (List.Mem.tail _ (List.Mem.tail _ (List.Mem.tail _ (List.Mem.head _)))))
      have cB0 := cell_two0 (hS.blk (x1.heap.size, .cells #[.int .i64 (sAbs p.1).1.1, .int .i64 (sAbs p.1).1.2] 23 (0, 0)) (List.Mem.tail _ (List.Mem.tail _ (List.Mem.tail _ (List.Mem.head _)))))
      have cB1 := cell_two1 (hS.blk (x1.heap.size, .cells #[.int .i64 (sAbs p.1).1.1, .int .i64 (sAbs p.1).1.2] 23 (0, 0)) (List.Mem.tail _ (List.Mem.tail _ (List.Mem.tail _ (List.Mem.head _)))))
      have lC := lt_of_block (hS.blk (x2.heap.size, .cells #[.int .i64 (sMin p.1 p.2).1.1, .int .i64 (sMin p.1 p.2).1.2] 23 (0, 0)) (List.Mem.tail _ (List.Mem.tail _ (List.Mem.head _))))
      have cC0 := cell_two0 (hS.blk (x2.heap.size, .cells #[.int .i64 (sMin p.1 p.2).1.1, .int .i64 (sMin p.1 p.2).1.2] 23 (0, 0)) (List.Mem.tail _ (List.Mem.tail _ (List.Mem.head _))))
      have cC1 := cell_two1 (hS.blk (x2.heap.size, .cells #[.int .i64 (sMin p.1 p.2).1.1, .int .i64 (sMin p.1 p.2).1.2] 23 (0, 0)) (List.Mem.tail _ (List.Mem.tail _ (List.Mem.head _))))
      have lD := lt_of_block (hS.blk (x3.heap.size, .cells #[.int .i64 (sMin p.1 p.2).1.1, .int .i64 (sMin p.1 p.2).1.2] 23 (0, 0)) (List.Mem.tail _ (List.Mem.head _)))
      have cD0 := cell_two0 (hS.blk (x3.heap.size, .cells #[.int .i64 (sMin p.1 p.2).1.1, .int .i64 (sMin p.1 p.2).1.2] 23 (0, 0)) (List.Mem.tail _ (List.Mem.head _)))
      have cD1 := cell_two1 (hS.blk (x3.heap.size, .cells #[.int .i64 (sMin p.1 p.2).1.1, .int .i64 (sMin p.1 p.2).1.2] 23 (0, 0)) (List.Mem.tail _ (List.Mem.head _)))
      have lE := lt_of_block (hS.blk (x4.heap.size, .cells #[.int .i64 (sMax p.1 p.2).1.1, .int .i64 (sMax p.1 p.2).1.2] 23 (0, 0)) (List.Mem.head _))
      have cE0 := cell_two0 (hS.blk (x4.heap.size, .cells #[.int .i64 (sMax p.1 p.2).1.1, .int .i64 (sMax p.1 p.2).1.2] 23 (0, 0)) (List.Mem.head _))
      have cE1 := cell_two1 (hS.blk (x4.heap.size, .cells #[.int .i64 (sMax p.1 p.2).1.1, .int .i64 (sMax p.1 p.2).1.2] 23 (0, 0)) (List.Mem.head _))
      have gF : w.heap.size ≤ x5.heap.size := hS.bel.size
      have nFE : x5.heap.size ≠ x4.heap.size := Nat.ne_of_gt (lt_of_block (hS.blk (x4.heap.size, .cells #[.int .i64 (sMax p.1 p.2).1.1, .int .i64 (sMax p.1 p.2).1.2] 23 (0, 0)) (List.Mem.head _)))
      have nFD : x5.heap.size ≠ x3.heap.size := Nat.ne_of_gt (lt_of_block (hS.blk (x3.heap.size, .cells #[.int .i64 (sMin p.1 p.2).1.1, .int .i64 (sMin p.1 p.2).1.2] 23 (0, 0)) (List.Mem.tail _ (List.Mem.head _))))
      have nFC : x5.heap.size ≠ x2.heap.size := Nat.ne_of_gt (lt_of_block (hS.blk (x2.heap.size, .cells #[.int .i64 (sMin p.1 p.2).1.1, .int .i64 (sMin p.1 p.2).1.2] 23 (0, 0)) (List.Mem.tail _ (List.Mem.tail _ (List.Mem.head _)))))
      have nFB : x5.heap.size ≠ x1.heap.size := Nat.ne_of_gt (lt_of_block (hS.blk (x1.heap.size, .cells #[.int .i64 (sAbs p.1).1.1, .int .i64 (sAbs p.1).1.2] 23 (0, 0)) (List.Mem.tail _ (List.Mem.tail _ (List.Mem.tail _ (List.Mem.head _))))))
      have nFA : x5.heap.size ≠ x0.heap.size := Nat.ne_of_gt (lt_of_block (hS.blk (x0.heap.size, .cells #[.int .i64 (sAbs p.1).1.1, .int .i64 (sAbs p.1).1.2] 23 (0, 0)) (List.Mem.tail _ (List.Mem.tail _ (List.Mem.tail _ (List.Mem.tail _ (List.Mem.head _)))))))
      have nFP : x5.heap.size ≠ wr.heap.size := Nat.ne_of_gt (lt_of_block (hS.blk (wr.heap.size, .cells #[.int .i64 p.1.1, .int .i64 p.1.2, .int .i64 p.2.1, .int .i64 p.2.2] 29 (0, 0)) (List.Mem.tail _ (List.Mem.tail _ (List.Mem.tail _ (List.Mem.tail _ (List.Mem.tail _ (List.Mem.head _))))))))
      have nFg : x5.heap.size ≠ g := Nat.ne_of_gt (lt_of_block (hS.blk (g, prObj prs) (List.Mem.tail _ (List.Mem.tail _ (List.Mem.tail _ (List.Mem.tail _ (List.Mem.tail _ (List.Mem.tail _ (List.Mem.head _)))))))))
      replace hS := hS.al (.cells #[.int .i64 (sMax p.1 p.2).1.1, .int .i64 (sMax p.1 p.2).1.2] 23 (0, 0))
      go_wp2_with fail
      clear lA cA0 cA1 lB cB0 cB1 lC cC0 cC1 lD cD0 cD1 lE cE0 cE1
      refine (hS.call (law2_alike (sAbs p.1) _)).mono ?_; rintro e y0 ⟨rfl, hS⟩
      have lC := lt_of_block (hS.blk (x2.heap.size, .cells #[.int .i64 (sMin p.1 p.2).1.1, .int .i64 (sMin p.1 p.2).1.2] 23 (0, 0)) (List.Mem.tail _ (List.Mem.tail _ (List.Mem.tail _ (List.Mem.head _)))))
      have cC0 := cell_two0 (hS.blk (x2.heap.size, .cells #[.int .i64 (sMin p.1 p.2).1.1, .int .i64 (sMin p.1 p.2).1.2] 23 (0, 0)) (List.Mem.tail _ (List.Mem.tail _ (List.Mem.tail _ (List.Mem.head _)))))
      have cC1 := cell_two1 (hS.blk (x2.heap.size, .cells #[.int .i64 (sMin p.1 p.2).1.1, .int .i64 (sMin p.1 p.2).1.2] 23 (0, 0)) (List.Mem.tail _ (List.Mem.tail _ (List.Mem.tail _ (List.Mem.head _)))))
      have lD := lt_of_block (hS.blk (x3.heap.size, .cells #[.int .i64 (sMin p.1 p.2).1.1, .int .i64 (sMin p.1 p.2).1.2] 23 (0, 0)) (List.Mem.tail _ (List.Mem.tail _ (List.Mem.head _))))
      have cD0 := cell_two0 (hS.blk (x3.heap.size, .cells #[.int .i64 (sMin p.1 p.2).1.1, .int .i64 (sMin p.1 p.2).1.2] 23 (0, 0)) (List.Mem.tail _ (List.Mem.tail _ (List.Mem.head _))))
      have cD1 := cell_two1 (hS.blk (x3.heap.size, .cells #[.int .i64 (sMin p.1 p.2).1.1, .int .i64 (sMin p.1 p.2).1.2] 23 (0, 0)) (List.Mem.tail _ (List.Mem.tail _ (List.Mem.head _))))
      go_wp2_with fail
      clear lC cC0 cC1 lD cD0 cD1
      refine (hS.call (law2_alike (sMin p.1 p.2) _)).mono ?_; rintro e y1 ⟨rfl, hS⟩
      have lE := lt_of_block (hS.blk (x4.heap.size, .cells #[.int .i64 (sMax p.1 p.2).1.1, .int .i64 (sMax p.1 p.2).1.2] 23 (0, 0)) (List.Mem.tail _ (List.Mem.head _)))
      have cE0 := cell_two0 (hS.blk (x4.heap.size, .cells #[.int .i64 (sMax p.1 p.2).1.1, .int .i64 (sMax p.1 p.2).1.2] 23 (0, 0)) (List.Mem.tail _ (List.Mem.head _)))
      have cE1 := cell_two1 (hS.blk (x4.heap.size, .cells #[.int .i64 (sMax p.1 p.2).1.1, .int .i64 (sMax p.1 p.2).1.2] 23 (0, 0)) (List.Mem.tail _ (List.Mem.head _)))
      have lF := lt_of_block (hS.blk (x5.heap.size, .cells #[.int .i64 (sMax p.1 p.2).1.1, .int .i64 (sMax p.1 p.2).1.2] 23 (0, 0)) (List.Mem.head _))
      have cF0 := cell_two0 (hS.blk (x5.heap.size, .cells #[.int .i64 (sMax p.1 p.2).1.1, .int .i64 (sMax p.1 p.2).1.2] 23 (0, 0)) (List.Mem.head _))
      have cF1 := cell_two1 (hS.blk (x5.heap.size, .cells #[.int .i64 (sMax p.1 p.2).1.1, .int .i64 (sMax p.1 p.2).1.2] 23 (0, 0)) (List.Mem.head _))
      go_wp2_with fail
      clear lE cE0 cE1 lF cF0 cF1
      refine (hS.call (law2_alike (sMax p.1 p.2) _)).mono ?_; rintro e y2 ⟨rfl, hS⟩
      have lP := lt_of_block (hS.blk (wr.heap.size, .cells #[.int .i64 p.1.1, .int .i64 p.1.2, .int .i64 p.2.1, .int .i64 p.2.2] 29 (0, 0)) (List.Mem.tail _ (List.Mem.tail _ (List.Mem.tail _ (List.Mem.tail _ (List.Mem.tail _ (List.Mem.tail _ (List.Mem.head _))))))))
      obtain ⟨cP0, cP1, cP2, cP3⟩ := cell_four (hS.blk (wr.heap.size, .cells #[.int .i64 p.1.1, .int .i64 p.1.2, .int .i64 p.2.1, .int .i64 p.2.2] 29 (0, 0)) (List.Mem.tail _ (List.Mem.tail _ (List.Mem.tail _ (List.Mem.tail _ (List.Mem.tail _ (List.Mem.tail _ (List.Mem.head _))))))))
      go_wp2_with fail
      clear lP cP0 cP1 cP2 cP3
      replace hS := hS.sub (cs := [(x3.heap.size, .cells #[.int .i64 (sMin p.1 p.2).1.1, .int .i64 (sMin p.1 p.2).1.2] 23 (0, 0)), (x2.heap.size, .cells #[.int .i64 (sMin p.1 p.2).1.1, .int .i64 (sMin p.1 p.2).1.2] 23 (0, 0)), (x1.heap.size, .cells #[.int .i64 (sAbs p.1).1.1, .int .i64 (sAbs p.1).1.2] 23 (0, 0)), (x0.heap.size, .cells #[.int .i64 (sAbs p.1).1.1, .int .i64 (sAbs p.1).1.2] 23 (0, 0)), (wr.heap.size, .cells #[.int .i64 p.1.1, .int .i64 p.1.2, .int .i64 p.2.1, .int .i64 p.2.2] 29 (0, 0)), (g, prObj prs)]) (by simp)
      refine (hS.call (span_Hull p.1 p.2 _)).mono ?_; rintro e z0 ⟨rfl, hS⟩
      have lP := lt_of_block (hS.blk (wr.heap.size, .cells #[.int .i64 p.1.1, .int .i64 p.1.2, .int .i64 p.2.1, .int .i64 p.2.2] 29 (0, 0)) (List.Mem.tail _ (List.Mem.tail _ (List.Mem.tail _ (List.Mem.tail _ (List.Mem.head _))))))
      obtain ⟨cP0, cP1, cP2, cP3⟩ := cell_four (hS.blk (wr.heap.size, .cells #[.int .i64 p.1.1, .int .i64 p.1.2, .int .i64 p.2.1, .int .i64 p.2.2] 29 (0, 0)) (List.Mem.tail _ (List.Mem.tail _ (List.Mem.tail _ (List.Mem.tail _ (List.Mem.head _))))))
      have lA := lt_of_block (hS.blk (x0.heap.size, .cells #[.int .i64 (sAbs p.1).1.1, .int .i64 (sAbs p.1).1.2] 23 (0, 0)) (List.Mem.tail _ (List.Mem.tail _ (List.Mem.tail _ (List.Mem.head _)))))
      have cA0 := cell_two0 (hS.blk (x0.heap.size, .cells #[.int .i64 (sAbs p.1).1.1, .int .i64 (sAbs p.1).1.2] 23 (0, 0)) (List.Mem.tail _ (List.Mem.tail _ (List.Mem.tail _ (List.Mem.head _)))))
      have cA1 := cell_two1 (hS.blk (x0.heap.size, .cells #[.int .i64 (sAbs p.1).1.1, .int .i64 (sAbs p.1).1.2] 23 (0, 0)) (List.Mem.tail _ (List.Mem.tail _ (List.Mem.tail _ (List.Mem.head _)))))
      have fA0 := free_two (i := 0) (hS.blk (x0.heap.size, .cells #[.int .i64 (sAbs p.1).1.1, .int .i64 (sAbs p.1).1.2] 23 (0, 0)) (List.Mem.tail _ (List.Mem.tail _ (List.Mem.tail _ (List.Mem.head _)))))
      have fA1 := free_two (i := 1) (hS.blk (x0.heap.size, .cells #[.int .i64 (sAbs p.1).1.1, .int .i64 (sAbs p.1).1.2] 23 (0, 0)) (List.Mem.tail _ (List.Mem.tail _ (List.Mem.tail _ (List.Mem.head _)))))
      have qP := nAP
      have rP := (Ne.symm nAP)
      go_wp2_with fail
      clear lP cP0 cP1 cP2 cP3 lA cA0 cA1 fA0 fA1 qP rP
      replace hS := hS.st (u := .int .i64 (sHull p.1 p.2).1.1) (v := .int .i64 (sHull p.1 p.2).1.2) (List.Mem.tail _ (List.Mem.tail _ (List.Mem.tail _ (List.Mem.head _)))) gA (List.forall_mem_cons.2 ⟨⟨(List.Mem.head _), nDA⟩, (List.forall_mem_cons.2 ⟨⟨(List.Mem.tail _ (List.Mem.head _)), nCA⟩, (List.forall_mem_cons.2 ⟨⟨(List.Mem.tail _ (List.Mem.tail _ (List.Mem.head _))), nBA⟩, (List.forall_mem_cons.2 ⟨⟨(List.Mem.tail _ (List.Mem.tail _ (List.Mem.tail _ (List.Mem.tail _ (List.Mem.head _))))), (Ne.symm nAP)⟩, (List.forall_mem_cons.2 ⟨⟨(List.Mem.tail _ (List.Mem.tail _ (List.Mem.tail _ (List.Mem.tail _ (List.Mem.tail _ (List.Mem.head _)))))), (Ne.symm nAg)⟩, (List.forall_mem_nil _)⟩)⟩)⟩)⟩)⟩)
      refine (hS.call (ref2_Hull p.1 p.2 _)).mono ?_; rintro e z1 ⟨rfl, hS⟩
      have lP := lt_of_block (hS.blk (wr.heap.size, .cells #[.int .i64 p.1.1, .int .i64 p.1.2, .int .i64 p.2.1, .int .i64 p.2.2] 29 (0, 0)) (List.Mem.tail _ (List.Mem.tail _ (List.Mem.tail _ (List.Mem.tail _ (List.Mem.head _))))))
      obtain ⟨cP0, cP1, cP2, cP3⟩ := cell_four (hS.blk (wr.heap.size, .cells #[.int .i64 p.1.1, .int .i64 p.1.2, .int .i64 p.2.1, .int .i64 p.2.2] 29 (0, 0)) (List.Mem.tail _ (List.Mem.tail _ (List.Mem.tail _ (List.Mem.tail _ (List.Mem.head _))))))
      have lB := lt_of_block (hS.blk (x1.heap.size, .cells #[.int .i64 (sAbs p.1).1.1, .int .i64 (sAbs p.1).1.2] 23 (0, 0)) (List.Mem.tail _ (List.Mem.tail _ (List.Mem.tail _ (List.Mem.head _)))))
      have cB0 := cell_two0 (hS.blk (x1.heap.size, .cells #[.int .i64 (sAbs p.1).1.1, .int .i64 (sAbs p.1).1.2] 23 (0, 0)) (List.Mem.tail _ (List.Mem.tail _ (List.Mem.tail _ (List.Mem.head _)))))
      have cB1 := cell_two1 (hS.blk (x1.heap.size, .cells #[.int .i64 (sAbs p.1).1.1, .int .i64 (sAbs p.1).1.2] 23 (0, 0)) (List.Mem.tail _ (List.Mem.tail _ (List.Mem.tail _ (List.Mem.head _)))))
      have fB0 := free_two (i := 0) (hS.blk (x1.heap.size, .cells #[.int .i64 (sAbs p.1).1.1, .int .i64 (sAbs p.1).1.2] 23 (0, 0)) (List.Mem.tail _ (List.Mem.tail _ (List.Mem.tail _ (List.Mem.head _)))))
      have fB1 := free_two (i := 1) (hS.blk (x1.heap.size, .cells #[.int .i64 (sAbs p.1).1.1, .int .i64 (sAbs p.1).1.2] 23 (0, 0)) (List.Mem.tail _ (List.Mem.tail _ (List.Mem.tail _ (List.Mem.head _)))))
      have qP := nBP
      have rP := (Ne.symm nBP)
      go_wp2_with fail
      clear lP cP0 cP1 cP2 cP3 lB cB0 cB1 fB0 fB1 qP rP
      replace hS := hS.st (u := .int .i64 (sHull p.1 p.2).1.1) (v := .int .i64 (sHull p.1 p.2).1.2) (List.Mem.tail _ (List.Mem.tail _ (List.Mem.tail _ (List.Mem.head _)))) gB (List.forall_mem_cons.2 ⟨⟨(List.Mem.head _), (Ne.symm nBA)⟩, (List.forall_mem_cons.2 ⟨⟨(List.Mem.tail _ (List.Mem.head _)), nDB⟩, (List.forall_mem_cons.2 ⟨⟨(List.Mem.tail _ (List.Mem.tail _ (List.Mem.head _))), nCB⟩, (List.forall_mem_cons.2 ⟨⟨(List.Mem.tail _ (List.Mem.tail _ (List.Mem.tail _ (List.Mem.tail _ (List.Mem.head _))))), (Ne.symm nBP)⟩, (List.forall_mem_cons.2 ⟨⟨(List.Mem.tail _ (List.Mem.tail _ (List.Mem.tail _ (List.Mem.tail _ (List.Mem.tail _ (List.Mem.head _)))))), (Ne.symm nBg)⟩, (List.forall_mem_nil _)⟩)⟩)⟩)⟩)⟩)
      refine (hS.call (span_Meet p.1 p.2 _)).mono ?_; rintro e z2 ⟨rfl, hS⟩
      have lP := lt_of_block (hS.blk (wr.heap.size, .cells #[.int .i64 p.1.1, .int .i64 p.1.2, .int .i64 p.2.1, .int .i64 p.2.2] 29 (0, 0)) (List.Mem.tail _ (List.Mem.tail _ (List.Mem.tail _ (List.Mem.tail _ (List.Mem.head _))))))
      obtain ⟨cP0, cP1, cP2, cP3⟩ := cell_four (hS.blk (wr.heap.size, .cells #[.int .i64 p.1.1, .int .i64 p.1.2, .int .i64 p.2.1, .int .i64 p.2.2] 29 (0, 0)) (List.Mem.tail _ (List.Mem.tail _ (List.Mem.tail _ (List.Mem.tail _ (List.Mem.head _))))))
      have lC := lt_of_block (hS.blk (x2.heap.size, .cells #[.int .i64 (sMin p.1 p.2).1.1, .int .i64 (sMin p.1 p.2).1.2] 23 (0, 0)) (List.Mem.tail _ (List.Mem.tail _ (List.Mem.tail _ (List.Mem.head _)))))
      have cC0 := cell_two0 (hS.blk (x2.heap.size, .cells #[.int .i64 (sMin p.1 p.2).1.1, .int .i64 (sMin p.1 p.2).1.2] 23 (0, 0)) (List.Mem.tail _ (List.Mem.tail _ (List.Mem.tail _ (List.Mem.head _)))))
      have cC1 := cell_two1 (hS.blk (x2.heap.size, .cells #[.int .i64 (sMin p.1 p.2).1.1, .int .i64 (sMin p.1 p.2).1.2] 23 (0, 0)) (List.Mem.tail _ (List.Mem.tail _ (List.Mem.tail _ (List.Mem.head _)))))
      have fC0 := free_two (i := 0) (hS.blk (x2.heap.size, .cells #[.int .i64 (sMin p.1 p.2).1.1, .int .i64 (sMin p.1 p.2).1.2] 23 (0, 0)) (List.Mem.tail _ (List.Mem.tail _ (List.Mem.tail _ (List.Mem.head _)))))
      have fC1 := free_two (i := 1) (hS.blk (x2.heap.size, .cells #[.int .i64 (sMin p.1 p.2).1.1, .int .i64 (sMin p.1 p.2).1.2] 23 (0, 0)) (List.Mem.tail _ (List.Mem.tail _ (List.Mem.tail _ (List.Mem.head _)))))
      have qP := nCP
      have rP := (Ne.symm nCP)
      go_wp2_with fail
      clear lP cP0 cP1 cP2 cP3 lC cC0 cC1 fC0 fC1 qP rP
      replace hS := hS.st (u := .int .i64 (sMeet p.1 p.2).1.1) (v := .int .i64 (sMeet p.1 p.2).1.2) (List.Mem.tail _ (List.Mem.tail _ (List.Mem.tail _ (List.Mem.head _)))) gC (List.forall_mem_cons.2 ⟨⟨(List.Mem.head _), (Ne.symm nCB)⟩, (List.forall_mem_cons.2 ⟨⟨(List.Mem.tail _ (List.Mem.head _)), (Ne.symm nCA)⟩, (List.forall_mem_cons.2 ⟨⟨(List.Mem.tail _ (List.Mem.tail _ (List.Mem.head _))), nDC⟩, (List.forall_mem_cons.2 ⟨⟨(List.Mem.tail _ (List.Mem.tail _ (List.Mem.tail _ (List.Mem.tail _ (List.Mem.head _))))), (Ne.symm nCP)⟩, (List.forall_mem_cons.2 ⟨⟨(List.Mem.tail _ (List.Mem.tail _ (List.Mem.tail _ (List.Mem.tail _ (List.Mem.tail _ (List.Mem.head _)))))), (Ne.symm nCg)⟩, (List.forall_mem_nil _)⟩)⟩)⟩)⟩)⟩)
      refine (hS.call (ref2_Meet p.1 p.2 _)).mono ?_; rintro e z3 ⟨rfl, hS⟩
      have lA := lt_of_block (hS.blk (x0.heap.size, .cells #[.int .i64 (sHull p.1 p.2).1.1, .int .i64 (sHull p.1 p.2).1.2] 23 (0, 0)) (List.Mem.tail _ (List.Mem.tail _ (List.Mem.head _))))
      have cA0 := cell_two0 (hS.blk (x0.heap.size, .cells #[.int .i64 (sHull p.1 p.2).1.1, .int .i64 (sHull p.1 p.2).1.2] 23 (0, 0)) (List.Mem.tail _ (List.Mem.tail _ (List.Mem.head _))))
      have cA1 := cell_two1 (hS.blk (x0.heap.size, .cells #[.int .i64 (sHull p.1 p.2).1.1, .int .i64 (sHull p.1 p.2).1.2] 23 (0, 0)) (List.Mem.tail _ (List.Mem.tail _ (List.Mem.head _))))
      have lB := lt_of_block (hS.blk (x1.heap.size, .cells #[.int .i64 (sHull p.1 p.2).1.1, .int .i64 (sHull p.1 p.2).1.2] 23 (0, 0)) (List.Mem.tail _ (List.Mem.head _)))
      have cB0 := cell_two0 (hS.blk (x1.heap.size, .cells #[.int .i64 (sHull p.1 p.2).1.1, .int .i64 (sHull p.1 p.2).1.2] 23 (0, 0)) (List.Mem.tail _ (List.Mem.head _)))
      have cB1 := cell_two1 (hS.blk (x1.heap.size, .cells #[.int .i64 (sHull p.1 p.2).1.1, .int .i64 (sHull p.1 p.2).1.2] 23 (0, 0)) (List.Mem.tail _ (List.Mem.head _)))
      have lC := lt_of_block (hS.blk (x2.heap.size, .cells #[.int .i64 (sMeet p.1 p.2).1.1, .int .i64 (sMeet p.1 p.2).1.2] 23 (0, 0)) (List.Mem.head _))
      have cC0 := cell_two0 (hS.blk (x2.heap.size, .cells #[.int .i64 (sMeet p.1 p.2).1.1, .int .i64 (sMeet p.1 p.2).1.2] 23 (0, 0)) (List.Mem.head _))
      have cC1 := cell_two1 (hS.blk (x2.heap.size, .cells #[.int .i64 (sMeet p.1 p.2).1.1, .int .i64 (sMeet p.1 p.2).1.2] 23 (0, 0)) (List.Mem.head _))
      have lD := lt_of_block (hS.blk (x3.heap.size, .cells #[.int .i64 (sMin p.1 p.2).1.1, .int .i64 (sMin p.1 p.2).1.2] 23 (0, 0)) (List.Mem.tail _ (List.Mem.tail _ (List.Mem.tail _ (List.Mem.head _)))))
      have cD0 := cell_two0 (hS.blk (x3.heap.size, .cells #[.int .i64 (sMin p.1 p.2).1.1, .int .i64 (sMin p.1 p.2).1.2] 23 (0, 0)) (List.Mem.tail _ (List.Mem.tail _ (List.Mem.tail _ (List.Mem.head _)))))
      have cD1 := cell_two1 (hS.blk (x3.heap.size, .cells #[.int .i64 (sMin p.1 p.2).1.1, .int .i64 (sMin p.1 p.2).1.2] 23 (0, 0)) (List.Mem.tail _ (List.Mem.tail _ (List.Mem.tail _ (List.Mem.head _)))))
      have fD0 := free_two (i := 0) (hS.blk (x3.heap.size, .cells #[.int .i64 (sMin p.1 p.2).1.1, .int .i64 (sMin p.1 p.2).1.2] 23 (0, 0)) (List.Mem.tail _ (List.Mem.tail _ (List.Mem.tail _ (List.Mem.head _)))))
      have fD1 := free_two (i := 1) (hS.blk (x3.heap.size, .cells #[.int .i64 (sMin p.1 p.2).1.1, .int .i64 (sMin p.1 p.2).1.2] 23 (0, 0)) (List.Mem.tail _ (List.Mem.tail _ (List.Mem.tail _ (List.Mem.head _)))))
      have qA := nDA
      have rA := (Ne.symm nDA)
      have qB := nDB
      have rB := (Ne.symm nDB)
      have qC := nDC
      have rC := (Ne.symm nDC)
      go_wp2_with fail
      clear lA cA0 cA1 lB cB0 cB1 lC cC0 cC1 lD cD0 cD1 fD0 fD1 qA rA qB rB qC rC
      replace hS := hS.st (u := .int .i64 (sMeet p.1 p.2).1.1) (v := .int .i64 (sMeet p.1 p.2).1.2) (List.Mem.tail _ (List.Mem.tail _ (List.Mem.tail _ (List.Mem.head _)))) gD (List.forall_mem_cons.2 ⟨⟨(List.Mem.head _), (Ne.symm nDC)⟩, (List.forall_mem_cons.2 ⟨⟨(List.Mem.tail _ (List.Mem.head _)), (Ne.symm nDB)⟩, (List.forall_mem_cons.2 ⟨⟨(List.Mem.tail _ (List.Mem.tail _ (List.Mem.head _))), (Ne.symm nDA)⟩, (List.forall_mem_cons.2 ⟨⟨(List.Mem.tail _ (List.Mem.tail _ (List.Mem.tail _ (List.Mem.tail _ (List.Mem.head _))))), (Ne.symm nDP)⟩, (List.forall_mem_cons.2 ⟨⟨(List.Mem.tail _ (List.Mem.tail _ (List.Mem.tail _ (List.Mem.tail _ (List.Mem.tail _ (List.Mem.head _)))))), (Ne.symm nDg)⟩, (List.forall_mem_nil _)⟩)⟩)⟩)⟩)⟩)
      refine (hS.call (law2_alike (sHull p.1 p.2) _)).mono ?_; rintro e y3 ⟨rfl, hS⟩
      have lC := lt_of_block (hS.blk (x2.heap.size, .cells #[.int .i64 (sMeet p.1 p.2).1.1, .int .i64 (sMeet p.1 p.2).1.2] 23 (0, 0)) (List.Mem.tail _ (List.Mem.head _)))
      have cC0 := cell_two0 (hS.blk (x2.heap.size, .cells #[.int .i64 (sMeet p.1 p.2).1.1, .int .i64 (sMeet p.1 p.2).1.2] 23 (0, 0)) (List.Mem.tail _ (List.Mem.head _)))
      have cC1 := cell_two1 (hS.blk (x2.heap.size, .cells #[.int .i64 (sMeet p.1 p.2).1.1, .int .i64 (sMeet p.1 p.2).1.2] 23 (0, 0)) (List.Mem.tail _ (List.Mem.head _)))
      have lD := lt_of_block (hS.blk (x3.heap.size, .cells #[.int .i64 (sMeet p.1 p.2).1.1, .int .i64 (sMeet p.1 p.2).1.2] 23 (0, 0)) (List.Mem.head _))
      have cD0 := cell_two0 (hS.blk (x3.heap.size, .cells #[.int .i64 (sMeet p.1 p.2).1.1, .int .i64 (sMeet p.1 p.2).1.2] 23 (0, 0)) (List.Mem.head _))
      have cD1 := cell_two1 (hS.blk (x3.heap.size, .cells #[.int .i64 (sMeet p.1 p.2).1.1, .int .i64 (sMeet p.1 p.2).1.2] 23 (0, 0)) (List.Mem.head _))
      go_wp2_with fail
      clear lC cC0 cC1 lD cD0 cD1
      refine (hS.call (law2_alike (sMeet p.1 p.2) _)).mono ?_; rintro e y4 ⟨rfl, hS⟩
      go_wp2_with fail
      go_roundw
      case rel => exact ⟨k + 1, by omega, by go_num, Lib.hid (hS.sub (by simp))⟩
      case measure => simp [intOf]; omega
    · obtain rfl : k = 5 := by omega
      go_wp2_with fail
      go_ret
      exact ⟨rfl, HA.out.bel⟩
end Go.Proofs.YtjphhdfkkkdppaaDoor
