/- The walk of monoclelaw02.SpanTells. Printed by a generator. -/
import Derived.Test.YtjphhdfkkkdppaaDoorLawS
import Derived.Test.YtjphhdfkkkdppaaDoorRefSF
namespace Go.Proofs.YtjphhdfkkkdppaaDoor
open Go.RowKit Mnc

set_option maxRecDepth 100000 in
set_option maxHeartbeats 8000000 in
theorem law2_SpanTells (T : Tw) (hT : T.ok) (v : Int)  (w : World) (hP : Pows w) :
    Calls Tryd.prog 9 #[T.val, .int .i64 v] w fun e w' => e = .returned (.bool true) ∧ Below w.heap.size w w' := by
  have HP := Lib.hid (hP.below (below_alloc (Below.refl _ _) T.obj))
  have HT := Lib.hid hT
  clear hP hT
  have hS := (Kn.start w).al T.obj
  unfold Tw.val
  go_enter Tryd.func9, Tryd.ntmps9
  go_wp2_with fail
  refine (hS.call (law2_works _ HP.out)).mono ?_; rintro e w1 ⟨rfl, hS⟩
  obtain ⟨k0, k1, k2, k3, k4, k5, k6, k7, k8, k9⟩ := tw_all (hS.blk (w.heap.size, T.obj) (by simp))
  go_wp2_with fail
  refine (hS.pairs T HT.out).mono ?_; rintro e w2 ⟨g, rfl, hS⟩
  have HS := Lib.hid (hS.sub (cs := [(g, prObj (prsOf T))]) (by simp))
  have HL := Lib.hid (show (prsOf T).length = 5 from rfl)
  clear hS k0 k1 k2 k3 k4 k5 k6 k7 k8 k9 HP
  generalize prsOf T = prs at *
  go_wp2_with fail
  go_loopw [31] (fun i wr => ∃ k : Nat, k ≤ 5 ∧ i = .int .i64 k ∧ Hid (Kn w wr [(g, prObj prs)])) (fun i _ => 5 - (intOf i).toNat)
  case atStart => exact ⟨0, by omega, rfl, HS⟩
  case round =>
    clear HS
    obtain ⟨k, hk, rfl, HA⟩ := hrel
    rcases Nat.lt_or_ge k 5 with hk' | hk'
    · obtain ⟨p, hp⟩ : ∃ p, prs[k]? = some p := ⟨_, List.getElem?_eq_getElem (by rw [HL.out]; exact hk')⟩
      obtain ⟨c0, c1, c2, c3⟩ := pr_cells (HA.out.blk (g, prObj prs) (by simp)) hp
      have HPk := Lib.hid hp
      have hS := HA.out
      clear hp
      have HS2 := Lib.hid (((hS.al (.cells #[.int .i64 p.1.1, .int .i64 p.1.2, .int .i64 p.2.1, .int .i64 p.2.2] 29 (0, 0))).alN (.cells #[.int .i64 p.1.1, .int .i64 p.1.2] 23 (0, 0)) (n := wr.heap.size + 1) (by simp)).sub (cs := [(wr.heap.size + 1, .cells #[.int .i64 p.1.1, .int .i64 p.1.2] 23 (0, 0)), (g, prObj prs)]) (by simp))
      go_wp2_with fail
      clear c0 c1 c2 c3 hS
      generalize wr.heap.size + 1 = B at *
      generalize wrap64 (p.1.2 + 1) = q at *
      go_loopw [46] (fun i wx => ∃ j : Nat, j ≤ 4 ∧ i = .int .i64 j ∧ Hid (Kn w wx [(B, .cells #[.int .i64 p.1.1, .int .i64 p.1.2] 23 (0, 0)), (g, prObj prs)])) (fun i _ => 4 - (intOf i).toNat)
      case atStart => exact ⟨0, by omega, rfl, HS2⟩
      case round =>
        clear HS2
        obtain ⟨j, hj, rfl, HB⟩ := hrel
        have hS := HB.out
        rename_i wx
        rcases Nat.lt_or_ge j 4 with hj' | hj'
        · obtain ⟨n, hn⟩ : ∃ n : Int, ∀ W, (Instr.index 55 (.agg #[.int .i64 v, .int .i64 p.1.1, .int .i64 p.1.2, .int .i64 q]) (.int .i64 j)).run Tryd.prog W = .ok (.int .i64 n) W := by
            rcases (by omega : j = 0 ∨ j = 1 ∨ j = 2 ∨ j = 3) with rfl | rfl | rfl | rfl
            · exact ⟨v, fun W => by kernel_rfl⟩
            · exact ⟨p.1.1, fun W => by kernel_rfl⟩
            · exact ⟨p.1.2, fun W => by kernel_rfl⟩
            · exact ⟨q, fun W => by kernel_rfl⟩
          have la := lt_of_block (hS.blk (B, .cells #[.int .i64 p.1.1, .int .i64 p.1.2] 23 (0, 0)) (List.Mem.head _))
          have ca0 := cell_two0 (hS.blk (B, .cells #[.int .i64 p.1.1, .int .i64 p.1.2] 23 (0, 0)) (List.Mem.head _))
          have ca1 := cell_two1 (hS.blk (B, .cells #[.int .i64 p.1.1, .int .i64 p.1.2] 23 (0, 0)) (List.Mem.head _))
          go_wp2_with fail
          clear la ca0 ca1
          refine (hS.call (span_Has p.1 n _)).mono ?_; rintro e x0 ⟨rfl, hS⟩
          have la := lt_of_block (hS.blk (B, .cells #[.int .i64 p.1.1, .int .i64 p.1.2] 23 (0, 0)) (List.Mem.head _))
          have ca0 := cell_two0 (hS.blk (B, .cells #[.int .i64 p.1.1, .int .i64 p.1.2] 23 (0, 0)) (List.Mem.head _))
          have ca1 := cell_two1 (hS.blk (B, .cells #[.int .i64 p.1.1, .int .i64 p.1.2] 23 (0, 0)) (List.Mem.head _))
          go_wp2_with fail
          clear la ca0 ca1
          refine (hS.call (ref2_Has p.1 n _)).mono ?_; rintro e x1 ⟨rfl, hS⟩
          go_wp2_with fail
          go_roundw
          case rel => exact ⟨j + 1, by omega, by go_num, Lib.hid hS⟩
          case measure => simp [intOf]; omega
        · obtain rfl : j = 4 := by omega
          have la := lt_of_block (hS.blk (B, .cells #[.int .i64 p.1.1, .int .i64 p.1.2] 23 (0, 0)) (List.Mem.head _))
          have ca0 := cell_two0 (hS.blk (B, .cells #[.int .i64 p.1.1, .int .i64 p.1.2] 23 (0, 0)) (List.Mem.head _))
          have ca1 := cell_two1 (hS.blk (B, .cells #[.int .i64 p.1.1, .int .i64 p.1.2] 23 (0, 0)) (List.Mem.head _))
          go_wp2_with fail
          clear la ca0 ca1
          refine (hS.call (span_Mid p.1 _)).mono ?_; rintro e y0 ⟨rfl, hS⟩
          have la := lt_of_block (hS.blk (B, .cells #[.int .i64 p.1.1, .int .i64 p.1.2] 23 (0, 0)) (List.Mem.head _))
          have ca0 := cell_two0 (hS.blk (B, .cells #[.int .i64 p.1.1, .int .i64 p.1.2] 23 (0, 0)) (List.Mem.head _))
          have ca1 := cell_two1 (hS.blk (B, .cells #[.int .i64 p.1.1, .int .i64 p.1.2] 23 (0, 0)) (List.Mem.head _))
          go_wp2_with fail
          clear la ca0 ca1
          refine (hS.call (ref2_Mid p.1 _)).mono ?_; rintro e y1 ⟨rfl, hS⟩
          have la := lt_of_block (hS.blk (B, .cells #[.int .i64 p.1.1, .int .i64 p.1.2] 23 (0, 0)) (List.Mem.head _))
          have ca0 := cell_two0 (hS.blk (B, .cells #[.int .i64 p.1.1, .int .i64 p.1.2] 23 (0, 0)) (List.Mem.head _))
          have ca1 := cell_two1 (hS.blk (B, .cells #[.int .i64 p.1.1, .int .i64 p.1.2] 23 (0, 0)) (List.Mem.head _))
          go_wp2_with fail
          clear la ca0 ca1
          refine (hS.call (span_Width p.1 _)).mono ?_; rintro e y2 ⟨rfl, hS⟩
          have la := lt_of_block (hS.blk (B, .cells #[.int .i64 p.1.1, .int .i64 p.1.2] 23 (0, 0)) (List.Mem.head _))
          have ca0 := cell_two0 (hS.blk (B, .cells #[.int .i64 p.1.1, .int .i64 p.1.2] 23 (0, 0)) (List.Mem.head _))
          have ca1 := cell_two1 (hS.blk (B, .cells #[.int .i64 p.1.1, .int .i64 p.1.2] 23 (0, 0)) (List.Mem.head _))
          go_wp2_with fail
          clear la ca0 ca1
          refine (hS.call (ref2_Width p.1 _)).mono ?_; rintro e y3 ⟨rfl, hS⟩
          have la := lt_of_block (hS.blk (B, .cells #[.int .i64 p.1.1, .int .i64 p.1.2] 23 (0, 0)) (List.Mem.head _))
          have ca0 := cell_two0 (hS.blk (B, .cells #[.int .i64 p.1.1, .int .i64 p.1.2] 23 (0, 0)) (List.Mem.head _))
          have ca1 := cell_two1 (hS.blk (B, .cells #[.int .i64 p.1.1, .int .i64 p.1.2] 23 (0, 0)) (List.Mem.head _))
          go_wp2_with fail
          clear la ca0 ca1
          refine (hS.call (span_Sign p.1 _)).mono ?_; rintro e y4 ⟨rfl, hS⟩
          have la := lt_of_block (hS.blk (B, .cells #[.int .i64 p.1.1, .int .i64 p.1.2] 23 (0, 0)) (List.Mem.head _))
          have ca0 := cell_two0 (hS.blk (B, .cells #[.int .i64 p.1.1, .int .i64 p.1.2] 23 (0, 0)) (List.Mem.head _))
          have ca1 := cell_two1 (hS.blk (B, .cells #[.int .i64 p.1.1, .int .i64 p.1.2] 23 (0, 0)) (List.Mem.head _))
          go_wp2_with fail
          clear la ca0 ca1
          refine (hS.call (ref2_Sign p.1 _)).mono ?_; rintro e y5 ⟨rfl, hS⟩
          go_wp2_with fail
          go_roundw
          case rel => exact ⟨k + 1, by omega, by go_num, Lib.hid (hS.sub (by simp))⟩
          case measure => simp [intOf]; omega
    · obtain rfl : k = 5 := by omega
      go_wp2_with fail
      go_ret
      exact ⟨rfl, HA.out.bel⟩
end Go.Proofs.YtjphhdfkkkdppaaDoor
