/- The walk of monoclelaw02.SpanProducts. Printed by a generator. -/
import Derived.Test.YtjphhdfkkkdppaaDoorLawS
import Derived.Test.YtjphhdfkkkdppaaDoorRefSE
import Derived.Test.YtjphhdfkkkdppaaDoorRefPE
import Derived.Test.YtjphhdfkkkdppaaDoorRefSD
namespace Go.Proofs.YtjphhdfkkkdppaaDoor
open Go.RowKit Mnc

set_option maxRecDepth 100000 in
set_option maxHeartbeats 8000000 in
theorem law2_SpanProducts (T : Tw) (hT : T.ok) (n : Int) (w : World) (hP : Pows w) :
    Calls Tryd.prog 5 #[T.val, .int .i64 n] w fun e w' => e = .returned (.bool true) ∧ Below w.heap.size w w' := by
  have HP := Lib.hid (hP.below (below_alloc (Below.refl _ _) T.obj))
  have HT := Lib.hid hT
  clear hP hT
  have hS := (Kn.start w).al T.obj
  unfold Tw.val
  go_enter Tryd.func5, Tryd.ntmps5
  go_wp2_with fail
  refine (hS.call (law2_works _ HP.out)).mono ?_; rintro e w1 ⟨rfl, hS⟩
  obtain ⟨k0, k1, k2, k3, k4, k5, k6, k7, k8, k9⟩ := tw_all (hS.blk (w.heap.size, T.obj) (by simp))
  go_wp2_with fail
  refine (hS.pairs T HT.out).mono ?_; rintro e w2 ⟨g, rfl, hS⟩
  have HS := Lib.hid (hS.sub (cs := [(g, prObj (prsOf T))]) (by simp))
  have HL := Lib.hid (show (prsOf T).length = 5 from rfl)
  clear hS k0 k1 k2 k3 k4 k5 k6 k7 k8 k9 HP
  generalize prsOf T = prs at *
  go_wp2_with fail
  go_loopw [26] (fun i wr => ∃ k : Nat, k ≤ 5 ∧ i = .int .i64 k ∧ Hid (Kn w wr [(g, prObj prs)])) (fun i _ => 5 - (intOf i).toNat)
  case atStart => exact ⟨0, by omega, rfl, HS⟩
  case round =>
    clear HS
    obtain ⟨k, hk, rfl, HA⟩ := hrel
    rcases Nat.lt_or_ge k 5 with hk' | hk'
    · obtain ⟨p, hp⟩ : ∃ p, prs[k]? = some p := ⟨_, List.getElem?_eq_getElem (by rw [HL.out]; exact hk')⟩
      obtain ⟨c0, c1, c2, c3⟩ := pr_cells (HA.out.blk (g, prObj prs) (by simp)) hp
      have HPk := Lib.hid hp
      have hS := HA.out
      clear hp
      go_wp2_with fail
      clear c0 c1 c2 c3
      replace hS := hS.al (.cells #[.int .i64 p.1.1, .int .i64 p.1.2, .int .i64 p.2.1, .int .i64 p.2.2] 29 (0, 0))
      refine (hS.call (span_Mul p.1 p.2 _)).mono ?_; rintro e x0 ⟨rfl, hS⟩
      have lP := lt_of_block (hS.blk (wr.heap.size, .cells #[.int .i64 p.1.1, .int .i64 p.1.2, .int .i64 p.2.1, .int .i64 p.2.2] 29 (0, 0)) (List.Mem.head _))
      obtain ⟨cP0, cP1, cP2, cP3⟩ := cell_four (hS.blk (wr.heap.size, .cells #[.int .i64 p.1.1, .int .i64 p.1.2, .int .i64 p.2.1, .int .i64 p.2.2] 29 (0, 0)) (List.Mem.head _))
      go_wp2_with fail
      clear lP cP0 cP1 cP2 cP3
      replace hS := hS.al (.cells #[.int .i64 (sMul p.1 p.2).1.1, .int .i64 (sMul p.1 p.2).1.2] 23 (0, 0))
      refine (hS.call (ref2_Mul p.1 p.2 _)).mono ?_; rintro e x1 ⟨rfl, hS⟩
      have lP := lt_of_block (hS.blk (wr.heap.size, .cells #[.int .i64 p.1.1, .int .i64 p.1.2, .int .i64 p.2.1, .int .i64 p.2.2] 29 (0, 0)) (List.Mem.tail _ (List.Mem.head _)))
      obtain ⟨cP0, cP1, cP2, cP3⟩ := cell_four (hS.blk (wr.heap.size, .cells #[.int .i64 p.1.1, .int .i64 p.1.2, .int .i64 p.2.1, .int .i64 p.2.2] 29 (0, 0)) (List.Mem.tail _ (List.Mem.head _)))
      go_wp2_with fail
      clear lP cP0 cP1 cP2 cP3
      replace hS := hS.al (.cells #[.int .i64 (sMul p.1 p.2).1.1, .int .i64 (sMul p.1 p.2).1.2] 23 (0, 0))
      refine (hS.call (span_Sqr p.1 _)).mono ?_; rintro e x2 ⟨rfl, hS⟩
      have lP := lt_of_block (hS.blk (wr.heap.size, .cells #[.int .i64 p.1.1, .int .i64 p.1.2, .int .i64 p.2.1, .int .i64 p.2.2] 29 (0, 0)) (List.Mem.tail _ (List.Mem.tail _ (List.Mem.head _))))
      obtain ⟨cP0, cP1, cP2, cP3⟩ := cell_four (hS.blk (wr.heap.size, .cells #[.int .i64 p.1.1, .int .i64 p.1.2, .int .i64 p.2.1, .int .i64 p.2.2] 29 (0, 0)) (List.Mem.tail _ (List.Mem.tail _ (List.Mem.head _))))
      go_wp2_with fail
      clear lP cP0 cP1 cP2 cP3
      replace hS := hS.al (.cells #[.int .i64 (sPow p.1 2).1.1, .int .i64 (sPow p.1 2).1.2] 23 (0, 0))
      refine (hS.call (ref2_Sqr p.1 _)).mono ?_; rintro e x3 ⟨rfl, hS⟩
      have lA := lt_of_block (hS.blk (x0.heap.size, .cells #[.int .i64 (sMul p.1 p.2).1.1, .int .i64 (sMul p.1 p.2).1.2] 23 (0, 0)) (List.Mem.tail _ (List.Mem.tail _ (List.Mem.head _))))
      have cA0 := cell_two0 (hS.blk (x0.heap.size, .cells #[.int .i64 (sMul p.1 p.2).1.1, .int .i64 (sMul p.1 p.2).1.2] 23 (0, 0)) (List.Mem.tail _ (List.Mem.tail _ (List.Mem.head _))))
      have cA1 := cell_two1 (hS.blk (x0.heap.size, .cells #[.int .i64 (sMul p.1 p.2).1.1, .int .i64 (sMul p.1 p.2).1.2] 23 (0, 0)) (List.Mem.tail _ (List.Mem.tail _ (List.Mem.head _))))
      have lB := lt_of_block (hS.blk (x1.heap.size, .cells #[.int .i64 (sMul p.1 p.2).1.1, .int .i64 (sMul p.1 p.2).1.2] 23 (0, 0)) (List.Mem.tail _ (List.Mem.head _)))
      have cB0 := cell_two0 (hS.blk (x1.heap.size, .cells #[.int .i64 (sMul p.1 p.2).1.1, .int .i64 (sMul p.1 p.2).1.2] 23 (0, 0)) (List.Mem.tail _ (List.Mem.head _)))
      have cB1 := cell_two1 (hS.blk (x1.heap.size, .cells #[.int .i64 (sMul p.1 p.2).1.1, .int .i64 (sMul p.1 p.2).1.2] 23 (0, 0)) (List.Mem.tail _ (List.Mem.head _)))
      have lC := lt_of_block (hS.blk (x2.heap.size, .cells #[.int .i64 (sPow p.1 2).1.1, .int .i64 (sPow p.1 2).1.2] 23 (0, 0)) (List.Mem.head _))
      have cC0 := cell_two0 (hS.blk (x2.heap.size, .cells #[.int .i64 (sPow p.1 2).1.1, .int .i64 (sPow p.1 2).1.2] 23 (0, 0)) (List.Mem.head _))
      have cC1 := cell_two1 (hS.blk (x2.heap.size, .cells #[.int .i64 (sPow p.1 2).1.1, .int .i64 (sPow p.1 2).1.2] 23 (0, 0)) (List.Mem.head _))
      replace hS := hS.al (.cells #[.int .i64 (sPow p.1 2).1.1, .int .i64 (sPow p.1 2).1.2] 23 (0, 0))
      go_wp2_with fail
      clear lA cA0 cA1 lB cB0 cB1 lC cC0 cC1
      refine (hS.call (law2_alike (sMul p.1 p.2) _)).mono ?_; rintro e y0 ⟨rfl, hS⟩
      have lC := lt_of_block (hS.blk (x2.heap.size, .cells #[.int .i64 (sPow p.1 2).1.1, .int .i64 (sPow p.1 2).1.2] 23 (0, 0)) (List.Mem.tail _ (List.Mem.head _)))
      have cC0 := cell_two0 (hS.blk (x2.heap.size, .cells #[.int .i64 (sPow p.1 2).1.1, .int .i64 (sPow p.1 2).1.2] 23 (0, 0)) (List.Mem.tail _ (List.Mem.head _)))
      have cC1 := cell_two1 (hS.blk (x2.heap.size, .cells #[.int .i64 (sPow p.1 2).1.1, .int .i64 (sPow p.1 2).1.2] 23 (0, 0)) (List.Mem.tail _ (List.Mem.head _)))
      have lD := lt_of_block (hS.blk (x3.heap.size, .cells #[.int .i64 (sPow p.1 2).1.1, .int .i64 (sPow p.1 2).1.2] 23 (0, 0)) (List.Mem.head _))
      have cD0 := cell_two0 (hS.blk (x3.heap.size, .cells #[.int .i64 (sPow p.1 2).1.1, .int .i64 (sPow p.1 2).1.2] 23 (0, 0)) (List.Mem.head _))
      have cD1 := cell_two1 (hS.blk (x3.heap.size, .cells #[.int .i64 (sPow p.1 2).1.1, .int .i64 (sPow p.1 2).1.2] 23 (0, 0)) (List.Mem.head _))
      go_wp2_with fail
      clear lC cC0 cC1 lD cD0 cD1
      refine (hS.call (law2_alike (sPow p.1 2) _)).mono ?_; rintro e y1 ⟨rfl, hS⟩
      have HS2 := Lib.hid (hS.sub (cs := [(wr.heap.size, .cells #[.int .i64 p.1.1, .int .i64 p.1.2, .int .i64 p.2.1, .int .i64 p.2.2] 29 (0, 0)), (g, prObj prs)]) (by simp))
      clear hS
      go_wp2_with fail
      generalize wrap64 ((IntKind.u64.wrap n).tmod 18) = K at *
      obtain ⟨Q, hQ⟩ : ∃ Q, Q = wr.heap.size := ⟨_, rfl⟩
      rw [← hQ] at HS2
      rw [← hQ]
      clear hQ
      go_loopw [78] (fun i wx => ∃ j : Nat, j ≤ 2 ∧ i = .int .i64 j ∧ Hid (Kn w wx [(Q, .cells #[.int .i64 p.1.1, .int .i64 p.1.2, .int .i64 p.2.1, .int .i64 p.2.2] 29 (0, 0)), (g, prObj prs)])) (fun i _ => 2 - (intOf i).toNat)
      case atStart => exact ⟨0, by omega, rfl, HS2⟩
      case round =>
        clear HS2
        obtain ⟨j, hj, rfl, HB⟩ := hrel
        have hS := HB.out
        rename_i wx
        rcases Nat.lt_or_ge j 2 with hj' | hj'
        · obtain ⟨q, hq⟩ : ∃ q : Int, ∀ W, (Instr.index 37 (.agg #[.int .i64 n, .int .i64 K]) (.int .i64 j)).run Tryd.prog W = .ok (.int .i64 q) W := by
            rcases (by omega : j = 0 ∨ j = 1) with rfl | rfl
            · exact ⟨n, fun W => by kernel_rfl⟩
            · exact ⟨K, fun W => by kernel_rfl⟩
          have lP := lt_of_block (hS.blk (Q, .cells #[.int .i64 p.1.1, .int .i64 p.1.2, .int .i64 p.2.1, .int .i64 p.2.2] 29 (0, 0)) (List.Mem.head _))
          obtain ⟨cP0, cP1, cP2, cP3⟩ := cell_four (hS.blk (Q, .cells #[.int .i64 p.1.1, .int .i64 p.1.2, .int .i64 p.2.1, .int .i64 p.2.2] 29 (0, 0)) (List.Mem.head _))
          go_wp2_with fail
          clear lP cP0 cP1 cP2 cP3
          refine (hS.call (span_Pow p.1 q _)).mono ?_; rintro e z0 ⟨rfl, hS⟩
          have lP := lt_of_block (hS.blk (Q, .cells #[.int .i64 p.1.1, .int .i64 p.1.2, .int .i64 p.2.1, .int .i64 p.2.2] 29 (0, 0)) (List.Mem.head _))
          obtain ⟨cP0, cP1, cP2, cP3⟩ := cell_four (hS.blk (Q, .cells #[.int .i64 p.1.1, .int .i64 p.1.2, .int .i64 p.2.1, .int .i64 p.2.2] 29 (0, 0)) (List.Mem.head _))
          go_wp2_with fail
          clear lP cP0 cP1 cP2 cP3
          replace hS := hS.al (.cells #[.int .i64 (sPow p.1 q).1.1, .int .i64 (sPow p.1 q).1.2] 23 (0, 0))
          refine (hS.call (ref2_Pow p.1 q _)).mono ?_; rintro e z1 ⟨rfl, hS⟩
          have lR := lt_of_block (hS.blk (z0.heap.size, .cells #[.int .i64 (sPow p.1 q).1.1, .int .i64 (sPow p.1 q).1.2] 23 (0, 0)) (List.Mem.head _))
          have cR0 := cell_two0 (hS.blk (z0.heap.size, .cells #[.int .i64 (sPow p.1 q).1.1, .int .i64 (sPow p.1 q).1.2] 23 (0, 0)) (List.Mem.head _))
          have cR1 := cell_two1 (hS.blk (z0.heap.size, .cells #[.int .i64 (sPow p.1 q).1.1, .int .i64 (sPow p.1 q).1.2] 23 (0, 0)) (List.Mem.head _))
          go_wp2_with fail
          clear lR cR0 cR1
          replace hS := hS.al (.cells #[.int .i64 (sPow p.1 q).1.1, .int .i64 (sPow p.1 q).1.2] 23 (0, 0))
          refine (hS.call (law2_alike (sPow p.1 q) _)).mono ?_; rintro e z2 ⟨rfl, hS⟩
          go_wp2_with fail
          go_roundw
          case rel => exact ⟨j + 1, by omega, by go_num, Lib.hid (hS.sub (by simp))⟩
          case measure => simp [intOf]; omega
        · obtain rfl : j = 2 := by omega
          go_wp2_with fail
          go_roundw
          case rel => exact ⟨k + 1, by omega, by go_num, Lib.hid (hS.sub (by simp))⟩
          case measure => simp [intOf]; omega
    · obtain rfl : k = 5 := by omega
      go_wp2_with fail
      go_ret
      exact ⟨rfl, HA.out.bel⟩
end Go.Proofs.YtjphhdfkkkdppaaDoor
