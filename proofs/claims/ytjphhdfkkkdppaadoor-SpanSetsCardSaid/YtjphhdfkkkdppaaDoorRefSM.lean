/- Contract of the reference of layer 2: Meet. Printed by wip/genSM.py. -/
import Derived.Test.YtjphhdfkkkdppaaDoorRefSE
namespace Go.Proofs.YtjphhdfkkkdppaaDoor
open Go.RowKit Mnc

theorem rs_set2 {w : World} {B : Nat} {x y u v : Int} {t : TypeId} (h : w.heap[B]? = some (.cells #[.int .i64 x, .int .i64 y] t (0, 0))) : ((w.setCell ⟨B, 0, none⟩ (.int .i64 u)).setCell ⟨B, 1, none⟩ (.int .i64 v)).heap[B]? = some (.cells #[.int .i64 u, .int .i64 v] t (0, 0)) :=
  heap_setCell_same _ B 1 _ t (.int .i64 v) (heap_setCell_same w B 0 _ t (.int .i64 u) h)
set_option maxRecDepth 100000 in
set_option maxHeartbeats 4000000 in
theorem ref2_Meet (s t : Int × Int) (w : World) :
    Calls Tryd.prog 45 #[.agg #[.int .i64 s.1, .int .i64 s.2], .agg #[.int .i64 t.1, .int .i64 t.2]] w fun e w' => e = .returned (.tuple #[.agg #[.int .i64 (sMeet s t).1.1, .int .i64 (sMeet s t).1.2], .int .i64 (sMeet s t).2]) ∧ Below w.heap.size w w' := by
  have hB := Bx3.start w s t
  by_cases hs : okS s
  · by_cases ht : okS t
    · have HS := Lib.hid hs
      have HT := Lib.hid ht
      by_cases j : max s.1 t.1 ≤ min s.2 t.2
      · have HR := Lib.hid (Mnc.sMeet_ok hs ht j)
        have d1 : decide (min s.2 t.2 < max s.1 t.1) = false := decide_eq_false (by omega)
        obtain ⟨s1, s2, s3⟩ := hs
        obtain ⟨t1, t2, t3⟩ := ht
        go_enter Tryd.func45, Tryd.ntmps45
        go_wp2_with fail
        refine (ref2_Right_ok HS.out _).mono ?_; rintro e w2 ⟨rfl, hbel⟩
        have hB := hB.on hbel
        clear hbel
        have a0 := cell_two0 hB.b0
        have a1 := cell_two1 hB.b0
        have b0 := cell_two0 hB.b1
        have b1 := cell_two1 hB.b1
        go_wp2_with fail
        refine (ref2_Right_ok HT.out _).mono ?_; rintro e w3 ⟨rfl, hbel⟩
        have hB := hB.on hbel
        clear hbel a0 a1 b0 b1
        have a0 := cell_two0 hB.b0
        have a1 := cell_two1 hB.b0
        have b0 := cell_two0 hB.b1
        have b1 := cell_two1 hB.b1
        have c0 := cell_two0 hB.b2
        have c1 := cell_two1 hB.b2
        have f0 := free_two (i := 0) hB.b2
        have f1 := free_two (i := 1) hB.b2
        have l2 := lt_of_block hB.b2
        have n0 := World.new_ne _ _ c0
        have n1 := World.new_ne _ _ c1
        go_wp2_with fail
        have hz := heap_up (.cells #[.int .i64 (max s.1 t.1), .int .i64 (min s.2 t.2)] 23 (0, 0)) (rs_set2 hB.b2 (u := (max s.1 t.1)) (v := (min s.2 t.2)))
        have e0 := cell_two0 hz
        have e1 := cell_two1 hz
        exact bodyPost_ret (v := .tuple #[.agg #[.int .i64 (max s.1 t.1), .int .i64 (min s.2 t.2)], .int .i64 0]) (by simp [results, Tryd.results45, go_sem, e0, e1]) rfl ⟨ret_sp HR.out, below_alloc (below_set2 hB.bel (by omega) _ _) _⟩
      · have HR := Lib.hid (Mnc.sMeet_none hs ht j)
        have d1 : decide (min s.2 t.2 < max s.1 t.1) = true := decide_eq_true (by omega)
        obtain ⟨s1, s2, s3⟩ := hs
        obtain ⟨t1, t2, t3⟩ := ht
        go_enter Tryd.func45, Tryd.ntmps45
        go_wp2_with fail
        refine (ref2_Right_ok HS.out _).mono ?_; rintro e w2 ⟨rfl, hbel⟩
        have hB := hB.on hbel
        clear hbel
        have a0 := cell_two0 hB.b0
        have a1 := cell_two1 hB.b0
        have b0 := cell_two0 hB.b1
        have b1 := cell_two1 hB.b1
        go_wp2_with fail
        refine (ref2_Right_ok HT.out _).mono ?_; rintro e w3 ⟨rfl, hbel⟩
        have hB := hB.on hbel
        clear hbel a0 a1 b0 b1
        have a0 := cell_two0 hB.b0
        have a1 := cell_two1 hB.b0
        have b0 := cell_two0 hB.b1
        have b1 := cell_two1 hB.b1
        have c0 := cell_two0 hB.b2
        have c1 := cell_two1 hB.b2
        have f0 := free_two (i := 0) hB.b2
        have f1 := free_two (i := 1) hB.b2
        have l2 := lt_of_block hB.b2
        have n0 := World.new_ne _ _ c0
        have n1 := World.new_ne _ _ c1
        go_wp2_with fail
        have hz := heap_up (.cells #[.int .i64 (max s.1 t.1), .int .i64 (min s.2 t.2)] 23 (0, 0)) (rs_set2 hB.b2 (u := 0) (v := 0))
        have e0 := cell_two0 hz
        have e1 := cell_two1 hz
        exact bodyPost_ret (v := .tuple #[.agg #[.int .i64 0, .int .i64 0], .int .i64 4]) (by simp [results, Tryd.results45, go_sem, e0, e1]) rfl ⟨ret_sp HR.out, below_alloc (below_set2 hB.bel (by omega) _ _) _⟩
    · have HS := Lib.hid hs
      have HT := Lib.hid ht
      have HR := Lib.hid (show sMeet s t = ((0, 0), 20) from on2_bad (fun g => ht g.2))
      clear hs ht
      go_enter Tryd.func45, Tryd.ntmps45
      go_wp2_with fail
      refine (ref2_Right_ok HS.out _).mono ?_; rintro e w2 ⟨rfl, hbel⟩
      have hB := hB.on hbel
      clear hbel
      have a0 := cell_two0 hB.b0
      have a1 := cell_two1 hB.b0
      have b0 := cell_two0 hB.b1
      have b1 := cell_two1 hB.b1
      go_wp2_with fail
      refine (ref2_Right_bad HT.out _).mono ?_; rintro e w3 ⟨rfl, hbel⟩
      have hB := hB.on hbel
      clear hbel a0 a1 b0 b1
      have c0 := cell_two0 hB.b2
      have c1 := cell_two1 hB.b2
      have f0 := free_two (i := 0) hB.b2
      have f1 := free_two (i := 1) hB.b2
      have l2 := lt_of_block hB.b2
      go_wp2_with fail
      exact bodyPost_ret (v := .tuple #[.agg #[.int .i64 0, .int .i64 0], .int .i64 20]) (by simp [results, Tryd.results45, go_sem, c0, c1]) rfl ⟨ret_sp HR.out, below_set2 hB.bel (by omega) _ _⟩
  · have HS := Lib.hid hs
    have HR := Lib.hid (show sMeet s t = ((0, 0), 20) from on2_bad (fun g => hs g.1))
    clear hs
    go_enter Tryd.func45, Tryd.ntmps45
    go_wp2_with fail
    refine (ref2_Right_bad HS.out _).mono ?_; rintro e w2 ⟨rfl, hbel⟩
    have hB := hB.on hbel
    clear hbel
    have c0 := cell_two0 hB.b2
    have c1 := cell_two1 hB.b2
    have f0 := free_two (i := 0) hB.b2
    have f1 := free_two (i := 1) hB.b2
    have l2 := lt_of_block hB.b2
    go_wp2_with fail
    exact bodyPost_ret (v := .tuple #[.agg #[.int .i64 0, .int .i64 0], .int .i64 20]) (by simp [results, Tryd.results45, go_sem, c0, c1]) rfl ⟨ret_sp HR.out, below_set2 hB.bel (by omega) _ _⟩

end Go.Proofs.YtjphhdfkkkdppaaDoor
