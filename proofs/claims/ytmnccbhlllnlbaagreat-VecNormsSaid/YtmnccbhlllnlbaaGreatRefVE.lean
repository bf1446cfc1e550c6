/- Contracts of the reference of layer 6: Norm, Unit. Printed by wip/genV7.py. -/
import Derived.Test.YtmnccbhlllnlbaaGreatRefVD
import Derived.Test.YtmnccbhlllnlbaaGreatRefPE
namespace Go.Proofs.YtmnccbhlllnlbaaGreat
open Go.RowKit Mnc
attribute [local go_sem] RunS_value RunS_skip RunS_enter evS_tmp evS_const evS_global evS_func
def rNorm (a : V3) : (Int × Int) × Int :=
  if (rThree (sPow a.1 2) (sPow a.2.1 2) (sPow a.2.2 2)).2 = 0 then sSqrt (rThree (sPow a.1 2) (sPow a.2.1 2) (sPow a.2.2 2)).1 else ((0, 0), (rThree (sPow a.1 2) (sPow a.2.1 2) (sPow a.2.2 2)).2)
theorem rThree_of {x y z : (Int × Int) × Int} : (rThree x y z).2 = sumE (fst2 (fst2 (fst2 0 x.2) y.2) z.2) (x.1, y.1, z.1) ∧ ((rThree x y z).2 = 0 → (rThree x y z).1 = sum3 (x.1, y.1, z.1)) := by
  unfold sumE rThree sum3
  generalize fst2 (fst2 (fst2 0 x.2) y.2) z.2 = n
  dsimp only
  by_cases hn : n = 0
  · subst hn
    rw [if_pos rfl]
    by_cases hs : (sAdd x.1 y.1).2 = 0
    · rw [if_pos hs, hs]
      exact ⟨rfl, fun _ => rfl⟩
    · rw [if_neg hs]
      refine ⟨?_, fun h => absurd h hs⟩
      have e2 : fst2 0 (sAdd x.1 y.1).2 = (sAdd x.1 y.1).2 := rfl
      rw [e2, fst2_left hs]
  · rw [if_neg hn, fst2_left hn, fst2_left hn]
    exact ⟨rfl, fun h => absurd h hn⟩
theorem sSqrt_err0 {a : Int × Int} (ha : okS a) (h : (sSqrt a).2 ≠ 0) : sSqrt a = ((0, 0), (sSqrt a).2) := by
  by_cases h0 : 0 ≤ a.1
  · rw [Mnc.sSqrt_ok ha h0] at h
    exact absurd rfl h
  · rw [Mnc.sSqrt_neg ha h0]
theorem vNorm_r {a : V3} (ha : okV a) : vNorm a = rNorm a := by
  obtain ⟨e, v⟩ := rThree_of (x := sPow a.1 2) (y := sPow a.2.1 2) (z := sPow a.2.2 2)
  unfold vNorm normE normS rNorm
  rw [vNote_ok ha]
  have e1 : err3 sqrF 0 a a = fst2 (fst2 (fst2 0 (sPow a.1 2).2) (sPow a.2.1 2).2) (sPow a.2.2 2).2 := rfl
  have e2 : each3 sqrF a a = ((sPow a.1 2).1, (sPow a.2.1 2).1, (sPow a.2.2 2).1) := rfl
  rw [e1, e2, ← e]
  by_cases h : (rThree (sPow a.1 2) (sPow a.2.1 2) (sPow a.2.2 2)).2 = 0
  · rw [if_pos h, v h, h]
    have e3 : fst2 0 (sSqrt (sum3 ((sPow a.1 2).1, (sPow a.2.1 2).1, (sPow a.2.2 2).1))).2 = (sSqrt (sum3 ((sPow a.1 2).1, (sPow a.2.1 2).1, (sPow a.2.2 2).1))).2 := rfl
    rw [e3]
    unfold toldS
    split
    · rename_i g
      exact Prod.ext rfl g.symm
    · rename_i g
      exact (sSqrt_err0 (sum3_okS _) g).symm
  · rw [if_neg h, fst2_left h]
    unfold toldS
    rw [if_neg h]
theorem vNorm_bad {a : V3} (h : ¬ okV a) : vNorm a = ((0, 0), 20) := by
  unfold vNorm normE sumE
  rw [vNote_bad h, err3_20, fst2_20, fst2_20, fst2_20]
  rfl
theorem vUnit_r (a : V3) : vUnit a = if (vNorm a).2 = 0 then rVec (sDiv a.1 (vNorm a).1) (sDiv a.2.1 (vNorm a).1) (sDiv a.2.2 (vNorm a).1) else (v30, (vNorm a).2) := by
  unfold vUnit vNorm
  generalize normE (vNote 0 a) a = E
  unfold toldS
  by_cases h : E = 0
  · subst h
    rw [if_pos rfl, if_pos rfl]
    rfl
  · rw [if_neg h, if_neg h]
    unfold err3
    rw [fst2_left h, fst2_left h, fst2_left h]
    unfold toldV
    rw [if_neg h]
set_option maxRecDepth 100000 in
set_option maxHeartbeats 4000000 in
theorem ref6_Norm (a : V3) (w : World) : Calls Tryz.prog 24 #[.agg #[.int .i64 a.1.1, .int .i64 a.1.2, .int .i64 a.2.1.1, .int .i64 a.2.1.2, .int .i64 a.2.2.1, .int .i64 a.2.2.2]] w fun e w' => e = .returned (.tuple #[.agg #[.int .i64 (vNorm a).1.1, .int .i64 (vNorm a).1.2], .int .i64 (vNorm a).2]) ∧ Below w.heap.size w w' := by
  by_cases ha : okV a
  · have hq := vNorm_r ha
    unfold rNorm at hq
    have HT := Lib.hid (fun W => ref6_three (sPow a.1 2) (sPow a.2.1 2) (sPow a.2.2 2) W)
    generalize rThree (sPow a.1 2) (sPow a.2.1 2) (sPow a.2.2 2) = t at *
    have Ha := Lib.hid ha
    clear ha
    by_cases h : t.2 = 0
    · rw [if_pos h] at hq
      obtain ⟨t1, t2⟩ := t
      obtain rfl : t2 = 0 := h
      obtain ⟨q, Hq⟩ : ∃ q, sSqrt t1 = q := ⟨_, rfl⟩
      have HU := Lib.hid (fun W => ref2_Sqrt t1 W)
      rw [Hq] at HU
      have HE := Lib.hid (hq.trans Hq)
      clear hq Hq
      have hK : Kv w ((w.alloc (.cells #[.int .i64 a.1.1, .int .i64 a.1.2, .int .i64 a.2.1.1, .int .i64 a.2.1.2, .int .i64 a.2.2.1, .int .i64 a.2.2.2] 25)).alloc (.cells #[.int .i64 0, .int .i64 0] 23)) [(w.heap.size + 1, .cells #[.int .i64 0, .int .i64 0] 23 (0, 0)), (w.heap.size, vobj (vl a))] := (((Kv.start w).al (vobj (vl a)) (n := w.heap.size) (by simp)).al (.cells #[.int .i64 0, .int .i64 0] 23 (0, 0)) (n := w.heap.size + 1) (by simp))
      have gR : w.heap.size ≤ w.heap.size + 1 := by omega
      have nR_a : w.heap.size + 1 ≠ w.heap.size := by omega
      go_enter Tryz.func24, Tryz.ntmps24
      obtain ⟨ca0, ca1, ca2, ca3, ca4, ca5⟩ := vobj_six (hK.blk _ (List.Mem.tail _ (List.Mem.head _)))
      have la := lt_of_block (hK.blk _ (List.Mem.tail _ (List.Mem.head _)))
      go_wp2_with fail
      refine (ref6_Right_ok Ha.out _).mono ?_; rintro e w1 ⟨rfl, hb⟩
      replace hK := hK.on hb
      clear ca0 ca1 ca2 ca3 ca4 ca5 la hb
      obtain ⟨ca0, ca1, ca2, ca3, ca4, ca5⟩ := vobj_six (hK.blk _ (List.Mem.tail _ (List.Mem.head _)))
      have la := lt_of_block (hK.blk _ (List.Mem.tail _ (List.Mem.head _)))
      go_wp2_with fail
      refine (ref2_Sqr a.1 _).mono ?_; rintro e w2 ⟨rfl, hb⟩
      replace hK := hK.on hb
      clear ca0 ca1 ca2 ca3 ca4 ca5 la hb
      have nx4_R : w2.heap.size ≠ w.heap.size + 1 := by have h := lt_of_block (hK.blk _ (List.Mem.head _)); first | exact Nat.ne_of_gt h | (simp at h; omega)
      replace hK : Kv w (w2.alloc (.cells #[.int .i64 (sPow a.1 2).1.1, .int .i64 (sPow a.1 2).1.2] 23)) [(w2.heap.size, .cells #[.int .i64 (sPow a.1 2).1.1, .int .i64 (sPow a.1 2).1.2] 23 (0, 0)), (w.heap.size + 1, .cells #[.int .i64 0, .int .i64 0] 23 (0, 0)), (w.heap.size, vobj (vl a))] := hK.al (.cells #[.int .i64 (sPow a.1 2).1.1, .int .i64 (sPow a.1 2).1.2] 23 (0, 0)) (n := w2.heap.size) (by simp)
      obtain ⟨ca0, ca1, ca2, ca3, ca4, ca5⟩ := vobj_six (hK.blk _ (List.Mem.tail _ (List.Mem.tail _ (List.Mem.head _))))
      have la := lt_of_block (hK.blk _ (List.Mem.tail _ (List.Mem.tail _ (List.Mem.head _))))
      go_wp2_with fail
      refine (ref2_Sqr a.2.1 _).mono ?_; rintro e w3 ⟨rfl, hb⟩
      replace hK := hK.on hb
      clear ca0 ca1 ca2 ca3 ca4 ca5 la hb
      have nx6_R : w3.heap.size ≠ w.heap.size + 1 := by have h := lt_of_block (hK.blk _ (List.Mem.tail _ (List.Mem.head _))); first | exact Nat.ne_of_gt h | (simp at h; omega)
      replace hK : Kv w (w3.alloc (.cells #[.int .i64 (sPow a.2.1 2).1.1, .int .i64 (sPow a.2.1 2).1.2] 23)) [(w3.heap.size, .cells #[.int .i64 (sPow a.2.1 2).1.1, .int .i64 (sPow a.2.1 2).1.2] 23 (0, 0)), (w2.heap.size, .cells #[.int .i64 (sPow a.1 2).1.1, .int .i64 (sPow a.1 2).1.2] 23 (0, 0)), (w.heap.size + 1, .cells #[.int .i64 0, .int .i64 0] 23 (0, 0)), (w.heap.size, vobj (vl a))] := hK.al (.cells #[.int .i64 (sPow a.2.1 2).1.1, .int .i64 (sPow a.2.1 2).1.2] 23 (0, 0)) (n := w3.heap.size) (by simp)
      obtain ⟨ca0, ca1, ca2, ca3, ca4, ca5⟩ := vobj_six (hK.blk _ (List.Mem.tail _ (List.Mem.tail _ (List.Mem.tail _ (List.Mem.head _)))))
      have la := lt_of_block (hK.blk _ (List.Mem.tail _ (List.Mem.tail _ (List.Mem.tail _ (List.Mem.head _)))))
      go_wp2_with fail
      refine (ref2_Sqr a.2.2 _).mono ?_; rintro e w4 ⟨rfl, hb⟩
      replace hK := hK.on hb
      clear ca0 ca1 ca2 ca3 ca4 ca5 la hb
      have nx8_R : w4.heap.size ≠ w.heap.size + 1 := by have h := lt_of_block (hK.blk _ (List.Mem.tail _ (List.Mem.tail _ (List.Mem.head _)))); first | exact Nat.ne_of_gt h | (simp at h; omega)
      replace hK : Kv w (w4.alloc (.cells #[.int .i64 (sPow a.2.2 2).1.1, .int .i64 (sPow a.2.2 2).1.2] 23)) [(w4.heap.size, .cells #[.int .i64 (sPow a.2.2 2).1.1, .int .i64 (sPow a.2.2 2).1.2] 23 (0, 0)), (w3.heap.size, .cells #[.int .i64 (sPow a.2.1 2).1.1, .int .i64 (sPow a.2.1 2).1.2] 23 (0, 0)), (w2.heap.size, .cells #[.int .i64 (sPow a.1 2).1.1, .int .i64 (sPow a.1 2).1.2] 23 (0, 0)), (w.heap.size + 1, .cells #[.int .i64 0, .int .i64 0] 23 (0, 0)), (w.heap.size, vobj (vl a))] := hK.al (.cells #[.int .i64 (sPow a.2.2 2).1.1, .int .i64 (sPow a.2.2 2).1.2] 23 (0, 0)) (n := w4.heap.size) (by simp)
      have cx40 := cell_two0 (hK.blk _ (List.Mem.tail _ (List.Mem.tail _ (List.Mem.head _))))
      have cx41 := cell_two1 (hK.blk _ (List.Mem.tail _ (List.Mem.tail _ (List.Mem.head _))))
      have lx4 := lt_of_block (hK.blk _ (List.Mem.tail _ (List.Mem.tail _ (List.Mem.head _))))
      have cx60 := cell_two0 (hK.blk _ (List.Mem.tail _ (List.Mem.head _)))
      have cx61 := cell_two1 (hK.blk _ (List.Mem.tail _ (List.Mem.head _)))
      have lx6 := lt_of_block (hK.blk _ (List.Mem.tail _ (List.Mem.head _)))
      have cx80 := cell_two0 (hK.blk _ (List.Mem.head _))
      have cx81 := cell_two1 (hK.blk _ (List.Mem.head _))
      have lx8 := lt_of_block (hK.blk _ (List.Mem.head _))
      go_wp2_with fail
      refine (HT.out _).mono ?_; rintro e w5 ⟨rfl, hb⟩
      replace hK := hK.on hb
      clear cx40 cx41 lx4 cx60 cx61 lx6 cx80 cx81 lx8 hb
      have nx10_R : w5.heap.size ≠ w.heap.size + 1 := by have h := lt_of_block (hK.blk _ (List.Mem.tail _ (List.Mem.tail _ (List.Mem.tail _ (List.Mem.head _))))); first | exact Nat.ne_of_gt h | (simp at h; omega)
      replace hK : Kv w (w5.alloc (.cells #[.int .i64 t1.1, .int .i64 t1.2] 23)) [(w5.heap.size, .cells #[.int .i64 t1.1, .int .i64 t1.2] 23 (0, 0)), (w4.heap.size, .cells #[.int .i64 (sPow a.2.2 2).1.1, .int .i64 (sPow a.2.2 2).1.2] 23 (0, 0)), (w3.heap.size, .cells #[.int .i64 (sPow a.2.1 2).1.1, .int .i64 (sPow a.2.1 2).1.2] 23 (0, 0)), (w2.heap.size, .cells #[.int .i64 (sPow a.1 2).1.1, .int .i64 (sPow a.1 2).1.2] 23 (0, 0)), (w.heap.size + 1, .cells #[.int .i64 0, .int .i64 0] 23 (0, 0)), (w.heap.size, vobj (vl a))] := hK.al (.cells #[.int .i64 t1.1, .int .i64 t1.2] 23 (0, 0)) (n := w5.heap.size) (by simp)
      have cx100 := cell_two0 (hK.blk _ (List.Mem.head _))
      have cx101 := cell_two1 (hK.blk _ (List.Mem.head _))
      have lx10 := lt_of_block (hK.blk _ (List.Mem.head _))
      go_wp2_with fail
      refine (HU.out _).mono ?_; rintro e w6 ⟨rfl, hb⟩
      replace hK := hK.on hb
      clear cx100 cx101 lx10 hb
      have cR0 := cell_two0 (hK.blk _ (List.Mem.tail _ (List.Mem.tail _ (List.Mem.tail _ (List.Mem.tail _ (List.Mem.head _))))))
      have cR1 := cell_two1 (hK.blk _ (List.Mem.tail _ (List.Mem.tail _ (List.Mem.tail _ (List.Mem.tail _ (List.Mem.head _))))))
      have lR := lt_of_block (hK.blk _ (List.Mem.tail _ (List.Mem.tail _ (List.Mem.tail _ (List.Mem.tail _ (List.Mem.head _))))))
      have fR0 := free_two (i := 0) (hK.blk _ (List.Mem.tail _ (List.Mem.tail _ (List.Mem.tail _ (List.Mem.tail _ (List.Mem.head _))))))
      have fR1 := free_two (i := 1) (hK.blk _ (List.Mem.tail _ (List.Mem.tail _ (List.Mem.tail _ (List.Mem.tail _ (List.Mem.head _))))))
      replace hK : Kv w ((w6.setCell ⟨w.heap.size + 1, 0, none⟩ (.int .i64 q.1.1)).setCell ⟨w.heap.size + 1, 1, none⟩ (.int .i64 q.1.2)) [(w5.heap.size, .cells #[.int .i64 t1.1, .int .i64 t1.2] 23 (0, 0)), (w4.heap.size, .cells #[.int .i64 (sPow a.2.2 2).1.1, .int .i64 (sPow a.2.2 2).1.2] 23 (0, 0)), (w3.heap.size, .cells #[.int .i64 (sPow a.2.1 2).1.1, .int .i64 (sPow a.2.1 2).1.2] 23 (0, 0)), (w2.heap.size, .cells #[.int .i64 (sPow a.1 2).1.1, .int .i64 (sPow a.1 2).1.2] 23 (0, 0)), (w.heap.size + 1, .cells #[.int .i64 q.1.1, .int .i64 q.1.2] 23 (0, 0)), (w.heap.size, vobj (vl a))] := hK.setb (a := (0, 0)) (cs := [(w5.heap.size, .cells #[.int .i64 t1.1, .int .i64 t1.2] 23 (0, 0)), (w4.heap.size, .cells #[.int .i64 (sPow a.2.2 2).1.1, .int .i64 (sPow a.2.2 2).1.2] 23 (0, 0)), (w3.heap.size, .cells #[.int .i64 (sPow a.2.1 2).1.1, .int .i64 (sPow a.2.1 2).1.2] 23 (0, 0)), (w2.heap.size, .cells #[.int .i64 (sPow a.1 2).1.1, .int .i64 (sPow a.1 2).1.2] 23 (0, 0)), (w.heap.size + 1, .cells #[.int .i64 q.1.1, .int .i64 q.1.2] 23 (0, 0)), (w.heap.size, vobj (vl a))]) (List.Mem.tail _ (List.Mem.tail _ (List.Mem.tail _ (List.Mem.tail _ (List.Mem.head _))))) gR q.1 (List.forall_mem_cons.2 ⟨.inr ⟨(List.Mem.head _), nx10_R⟩, (List.forall_mem_cons.2 ⟨.inr ⟨(List.Mem.tail _ (List.Mem.head _)), nx8_R⟩, (List.forall_mem_cons.2 ⟨.inr ⟨(List.Mem.tail _ (List.Mem.tail _ (List.Mem.head _))), nx6_R⟩, (List.forall_mem_cons.2 ⟨.inr ⟨(List.Mem.tail _ (List.Mem.tail _ (List.Mem.tail _ (List.Mem.head _)))), nx4_R⟩, (List.forall_mem_cons.2 ⟨.inl rfl, (List.forall_mem_cons.2 ⟨.inr ⟨(List.Mem.tail _ (List.Mem.tail _ (List.Mem.tail _ (List.Mem.tail _ (List.Mem.tail _ (List.Mem.head _)))))), (Ne.symm nR_a)⟩, (List.forall_mem_nil _)⟩)⟩)⟩)⟩)⟩)⟩)
      have HKK := Lib.hid hK
      clear hK
      go_wp2_with fail
      have hK := HKK.out
      have r0 := cell_two0 (hK.blk _ (List.Mem.tail _ (List.Mem.tail _ (List.Mem.tail _ (List.Mem.tail _ (List.Mem.head _))))))
      have r1 := cell_two1 (hK.blk _ (List.Mem.tail _ (List.Mem.tail _ (List.Mem.tail _ (List.Mem.tail _ (List.Mem.head _))))))
      exact bodyPost_ret (v := .tuple #[.agg #[.int .i64 q.1.1, .int .i64 q.1.2], .int .i64 q.2]) (by simp [results, Tryz.results24, go_sem, r0, r1]) rfl ⟨by rw [HE.out], hK.bel⟩
    · rw [if_neg h] at hq
      have HE := Lib.hid hq
      have q0 : (t.2 == 0) = false := by simp [h]
      clear hq
      have hK : Kv w ((w.alloc (.cells #[.int .i64 a.1.1, .int .i64 a.1.2, .int .i64 a.2.1.1, .int .i64 a.2.1.2, .int .i64 a.2.2.1, .int .i64 a.2.2.2] 25)).alloc (.cells #[.int .i64 0, .int .i64 0] 23)) [(w.heap.size + 1, .cells #[.int .i64 0, .int .i64 0] 23 (0, 0)), (w.heap.size, vobj (vl a))] := (((Kv.start w).al (vobj (vl a)) (n := w.heap.size) (by simp)).al (.cells #[.int .i64 0, .int .i64 0] 23 (0, 0)) (n := w.heap.size + 1) (by simp))
      have gR : w.heap.size ≤ w.heap.size + 1 := by omega
      have nR_a : w.heap.size + 1 ≠ w.heap.size := by omega
      go_enter Tryz.func24, Tryz.ntmps24
      obtain ⟨ca0, ca1, ca2, ca3, ca4, ca5⟩ := vobj_six (hK.blk _ (List.Mem.tail _ (List.Mem.head _)))
      have la := lt_of_block (hK.blk _ (List.Mem.tail _ (List.Mem.head _)))
      go_wp2_with fail
      refine (ref6_Right_ok Ha.out _).mono ?_; rintro e w1 ⟨rfl, hb⟩
      replace hK := hK.on hb
      clear ca0 ca1 ca2 ca3 ca4 ca5 la hb
      obtain ⟨ca0, ca1, ca2, ca3, ca4, ca5⟩ := vobj_six (hK.blk _ (List.Mem.tail _ (List.Mem.head _)))
      have la := lt_of_block (hK.blk _ (List.Mem.tail _ (List.Mem.head _)))
      go_wp2_with fail
      refine (ref2_Sqr a.1 _).mono ?_; rintro e w2 ⟨rfl, hb⟩
      replace hK := hK.on hb
      clear ca0 ca1 ca2 ca3 ca4 ca5 la hb
      have nx4_R : w2.heap.size ≠ w.heap.size + 1 := by have h := lt_of_block (hK.blk _ (List.Mem.head _)); first | exact Nat.ne_of_gt h | (simp at h; omega)
      replace hK : Kv w (w2.alloc (.cells #[.int .i64 (sPow a.1 2).1.1, .int .i64 (sPow a.1 2).1.2] 23)) [(w2.heap.size, .cells #[.int .i64 (sPow a.1 2).1.1, .int .i64 (sPow a.1 2).1.2] 23 (0, 0)), (w.heap.size + 1, .cells #[.int .i64 0, .int .i64 0] 23 (0, 0)), (w.heap.size, vobj (vl a))] := hK.al (.cells #[.int .i64 (sPow a.1 2).1.1, .int .i64 (sPow a.1 2).1.2] 23 (0, 0)) (n := w2.heap.size) (by simp)
      obtain ⟨ca0, ca1, ca2, ca3, ca4, ca5⟩ := vobj_six (hK.blk _ (List.Mem.tail _ (List.Mem.tail _ (List.Mem.head _))))
      have la := lt_of_block (hK.blk _ (List.Mem.tail _ (List.Mem.tail _ (List.Mem.head _))))
      go_wp2_with fail
      refine (ref2_Sqr a.2.1 _).mono ?_; rintro e w3 ⟨rfl, hb⟩
      replace hK := hK.on hb
      clear ca0 ca1 ca2 ca3 ca4 ca5 la hb
      have nx6_R : w3.heap.size ≠ w.heap.size + 1 := by have h := lt_of_block (hK.blk _ (List.Mem.tail _ (List.Mem.head _))); first | exact Nat.ne_of_gt h | (simp at h; omega)
      replace hK : Kv w (w3.alloc (.cells #[.int .i64 (sPow a.2.1 2).1.1, .int .i64 (sPow a.2.1 2).1.2] 23)) [(w3.heap.size, .cells #[.int .i64 (sPow a.2.1 2).1.1, .int .i64 (sPow a.2.1 2).1.2] 23 (0, 0)), (w2.heap.size, .cells #[.int .i64 (sPow a.1 2).1.1, .int .i64 (sPow a.1 2).1.2] 23 (0, 0)), (w.heap.size + 1, .cells #[.int .i64 0, .int .i64 0] 23 (0, 0)), (w.heap.size, vobj (vl a))] := hK.al (.cells #[.int .i64 (sPow a.2.1 2).1.1, .int .i64 (sPow a.2.1 2).1.2] 23 (0, 0)) (n := w3.heap.size) (by simp)
      obtain ⟨ca0, ca1, ca2, ca3, ca4, ca5⟩ := vobj_six (hK.blk _ (List.Mem.tail _ (List.Mem.tail _ (List.Mem.tail _ (List.Mem.head _)))))
      have la := lt_of_block (hK.blk _ (List.Mem.tail _ (List.Mem.tail _ (List.Mem.tail _ (List.Mem.head _)))))
      go_wp2_with fail
      refine (ref2_Sqr a.2.2 _).mono ?_; rintro e w4 ⟨rfl, hb⟩
      replace hK := hK.on hb
      clear ca0 ca1 ca2 ca3 ca4 ca5 la hb
      have nx8_R : w4.heap.size ≠ w.heap.size + 1 := by have h := lt_of_block (hK.blk _ (List.Mem.tail _ (List.Mem.tail _ (List.Mem.head _)))); first | exact Nat.ne_of_gt h | (simp at h; omega)
      replace hK : Kv w (w4.alloc (.cells #[.int .i64 (sPow a.2.2 2).1.1, .int .i64 (sPow a.2.2 2).1.2] 23)) [(w4.heap.size, .cells #[.int .i64 (sPow a.2.2 2).1.1, .int .i64 (sPow a.2.2 2).1.2] 23 (0, 0)), (w3.heap.size, .cells #[.int .i64 (sPow a.2.1 2).1.1, .int .i64 (sPow a.2.1 2).1.2] 23 (0, 0)), (w2.heap.size, .cells #[.int .i64 (sPow a.1 2).1.1, .int .i64 (sPow a.1 2).1.2] 23 (0, 0)), (w.heap.size + 1, .cells #[.int .i64 0, .int .i64 0] 23 (0, 0)), (w.heap.size, vobj (vl a))] := hK.al (.cells #[.int .i64 (sPow a.2.2 2).1.1, .int .i64 (sPow a.2.2 2).1.2] 23 (0, 0)) (n := w4.heap.size) (by simp)
      have cx40 := cell_two0 (hK.blk _ (List.Mem.tail _ (List.Mem.tail _ (List.Mem.head _))))
      have cx41 := cell_two1 (hK.blk _ (List.Mem.tail _ (List.Mem.tail _ (List.Mem.head _))))
      have lx4 := lt_of_block (hK.blk _ (List.Mem.tail _ (List.Mem.tail _ (List.Mem.head _))))
      have cx60 := cell_two0 (hK.blk _ (List.Mem.tail _ (List.Mem.head _)))
      have cx61 := cell_two1 (hK.blk _ (List.Mem.tail _ (List.Mem.head _)))
      have lx6 := lt_of_block (hK.blk _ (List.Mem.tail _ (List.Mem.head _)))
      have cx80 := cell_two0 (hK.blk _ (List.Mem.head _))
      have cx81 := cell_two1 (hK.blk _ (List.Mem.head _))
      have lx8 := lt_of_block (hK.blk _ (List.Mem.head _))
      go_wp2_with fail
      refine (HT.out _).mono ?_; rintro e w5 ⟨rfl, hb⟩
      replace hK := hK.on hb
      clear cx40 cx41 lx4 cx60 cx61 lx6 cx80 cx81 lx8 hb
      have nx10_R : w5.heap.size ≠ w.heap.size + 1 := by have h := lt_of_block (hK.blk _ (List.Mem.tail _ (List.Mem.tail _ (List.Mem.tail _ (List.Mem.head _))))); first | exact Nat.ne_of_gt h | (simp at h; omega)
      replace hK : Kv w (w5.alloc (.cells #[.int .i64 t.1.1, .int .i64 t.1.2] 23)) [(w5.heap.size, .cells #[.int .i64 t.1.1, .int .i64 t.1.2] 23 (0, 0)), (w4.heap.size, .cells #[.int .i64 (sPow a.2.2 2).1.1, .int .i64 (sPow a.2.2 2).1.2] 23 (0, 0)), (w3.heap.size, .cells #[.int .i64 (sPow a.2.1 2).1.1, .int .i64 (sPow a.2.1 2).1.2] 23 (0, 0)), (w2.heap.size, .cells #[.int .i64 (sPow a.1 2).1.1, .int .i64 (sPow a.1 2).1.2] 23 (0, 0)), (w.heap.size + 1, .cells #[.int .i64 0, .int .i64 0] 23 (0, 0)), (w.heap.size, vobj (vl a))] := hK.al (.cells #[.int .i64 t.1.1, .int .i64 t.1.2] 23 (0, 0)) (n := w5.heap.size) (by simp)
      have cR0 := cell_two0 (hK.blk _ (List.Mem.tail _ (List.Mem.tail _ (List.Mem.tail _ (List.Mem.tail _ (List.Mem.head _))))))
      have cR1 := cell_two1 (hK.blk _ (List.Mem.tail _ (List.Mem.tail _ (List.Mem.tail _ (List.Mem.tail _ (List.Mem.head _))))))
      have lR := lt_of_block (hK.blk _ (List.Mem.tail _ (List.Mem.tail _ (List.Mem.tail _ (List.Mem.tail _ (List.Mem.head _))))))
      have fR0 := free_two (i := 0) (hK.blk _ (List.Mem.tail _ (List.Mem.tail _ (List.Mem.tail _ (List.Mem.tail _ (List.Mem.head _))))))
      have fR1 := free_two (i := 1) (hK.blk _ (List.Mem.tail _ (List.Mem.tail _ (List.Mem.tail _ (List.Mem.tail _ (List.Mem.head _))))))
      replace hK : Kv w (((w5.alloc (.cells #[.int .i64 t.1.1, .int .i64 t.1.2] 23)).setCell ⟨w.heap.size + 1, 0, none⟩ (.int .i64 0)).setCell ⟨w.heap.size + 1, 1, none⟩ (.int .i64 0)) [(w5.heap.size, .cells #[.int .i64 t.1.1, .int .i64 t.1.2] 23 (0, 0)), (w4.heap.size, .cells #[.int .i64 (sPow a.2.2 2).1.1, .int .i64 (sPow a.2.2 2).1.2] 23 (0, 0)), (w3.heap.size, .cells #[.int .i64 (sPow a.2.1 2).1.1, .int .i64 (sPow a.2.1 2).1.2] 23 (0, 0)), (w2.heap.size, .cells #[.int .i64 (sPow a.1 2).1.1, .int .i64 (sPow a.1 2).1.2] 23 (0, 0)), (w.heap.size + 1, .cells #[.int .i64 0, .int .i64 0] 23 (0, 0)), (w.heap.size, vobj (vl a))] := hK.setb (a := (0, 0)) (cs := [(w5.heap.size, .cells #[.int .i64 t.1.1, .int .i64 t.1.2] 23 (0, 0)), (w4.heap.size, .cells #[.int .i64 (sPow a.2.2 2).1.1, .int .i64 (sPow a.2.2 2).1.2] 23 (0, 0)), (w3.heap.size, .cells #[.int .i64 (sPow a.2.1 2).1.1, .int .i64 (sPow a.2.1 2).1.2] 23 (0, 0)), (w2.heap.size, .cells #[.int .i64 (sPow a.1 2).1.1, .int .i64 (sPow a.1 2).1.2] 23 (0, 0)), (w.heap.size + 1, .cells #[.int .i64 0, .int .i64 0] 23 (0, 0)), (w.heap.size, vobj (vl a))]) (List.Mem.tail _ (List.Mem.tail _ (List.Mem.tail _ (List.Mem.tail _ (List.Mem.head _))))) gR (0, 0) (List.forall_mem_cons.2 ⟨.inr ⟨(List.Mem.head _), nx10_R⟩, (List.forall_mem_cons.2 ⟨.inr ⟨(List.Mem.tail _ (List.Mem.head _)), nx8_R⟩, (List.forall_mem_cons.2 ⟨.inr ⟨(List.Mem.tail _ (List.Mem.tail _ (List.Mem.head _))), nx6_R⟩, (List.forall_mem_cons.2 ⟨.inr ⟨(List.Mem.tail _ (List.Mem.tail _ (List.Mem.tail _ (List.Mem.head _)))), nx4_R⟩, (List.forall_mem_cons.2 ⟨.inl rfl, (List.forall_mem_cons.2 ⟨.inr ⟨(List.Mem.tail _ (List.Mem.tail _ (List.Mem.tail _ (List.Mem.tail _ (List.Mem.tail _ (List.Mem.head _)))))), (Ne.symm nR_a)⟩, (List.forall_mem_nil _)⟩)⟩)⟩)⟩)⟩)⟩)
      have HKK := Lib.hid hK
      clear hK
      go_wp2_with fail
      have hK := HKK.out
      have r0 := cell_two0 (hK.blk _ (List.Mem.tail _ (List.Mem.tail _ (List.Mem.tail _ (List.Mem.tail _ (List.Mem.head _))))))
      have r1 := cell_two1 (hK.blk _ (List.Mem.tail _ (List.Mem.tail _ (List.Mem.tail _ (List.Mem.tail _ (List.Mem.head _))))))
      exact bodyPost_ret (v := .tuple #[.agg #[.int .i64 0, .int .i64 0], .int .i64 t.2]) (by simp [results, Tryz.results24, go_sem, r0, r1]) rfl ⟨by rw [HE.out], hK.bel⟩
  · have HE := Lib.hid (vNorm_bad ha)
    have Ha := Lib.hid ha
    clear ha
    have hK : Kv w ((w.alloc (.cells #[.int .i64 a.1.1, .int .i64 a.1.2, .int .i64 a.2.1.1, .int .i64 a.2.1.2, .int .i64 a.2.2.1, .int .i64 a.2.2.2] 25)).alloc (.cells #[.int .i64 0, .int .i64 0] 23)) [(w.heap.size + 1, .cells #[.int .i64 0, .int .i64 0] 23 (0, 0)), (w.heap.size, vobj (vl a))] := (((Kv.start w).al (vobj (vl a)) (n := w.heap.size) (by simp)).al (.cells #[.int .i64 0, .int .i64 0] 23 (0, 0)) (n := w.heap.size + 1) (by simp))
    have gR : w.heap.size ≤ w.heap.size + 1 := by omega
    have nR_a : w.heap.size + 1 ≠ w.heap.size := by omega
    go_enter Tryz.func24, Tryz.ntmps24
    obtain ⟨ca0, ca1, ca2, ca3, ca4, ca5⟩ := vobj_six (hK.blk _ (List.Mem.tail _ (List.Mem.head _)))
    have la := lt_of_block (hK.blk _ (List.Mem.tail _ (List.Mem.head _)))
    go_wp2_with fail
    refine (ref6_Right_bad Ha.out _).mono ?_; rintro e w1 ⟨rfl, hb⟩
    replace hK := hK.on hb
    clear ca0 ca1 ca2 ca3 ca4 ca5 la hb
    have cR0 := cell_two0 (hK.blk _ (List.Mem.head _))
    have cR1 := cell_two1 (hK.blk _ (List.Mem.head _))
    have lR := lt_of_block (hK.blk _ (List.Mem.head _))
    have fR0 := free_two (i := 0) (hK.blk _ (List.Mem.head _))
    have fR1 := free_two (i := 1) (hK.blk _ (List.Mem.head _))
    replace hK : Kv w ((w1.setCell ⟨w.heap.size + 1, 0, none⟩ (.int .i64 0)).setCell ⟨w.heap.size + 1, 1, none⟩ (.int .i64 0)) [(w.heap.size + 1, .cells #[.int .i64 0, .int .i64 0] 23 (0, 0)), (w.heap.size, vobj (vl a))] := hK.setb (a := (0, 0)) (cs := [(w.heap.size + 1, .cells #[.int .i64 0, .int .i64 0] 23 (0, 0)), (w.heap.size, vobj (vl a))]) (List.Mem.head _) gR (0, 0) (List.forall_mem_cons.2 ⟨.inl rfl, (List.forall_mem_cons.2 ⟨.inr ⟨(List.Mem.tail _ (List.Mem.head _)), (Ne.symm nR_a)⟩, (List.forall_mem_nil _)⟩)⟩)
    have HKK := Lib.hid hK
    clear hK
    go_wp2_with fail
    have hK := HKK.out
    have r0 := cell_two0 (hK.blk _ (List.Mem.head _))
    have r1 := cell_two1 (hK.blk _ (List.Mem.head _))
    exact bodyPost_ret (v := .tuple #[.agg #[.int .i64 0, .int .i64 0], .int .i64 20]) (by simp [results, Tryz.results24, go_sem, r0, r1]) rfl ⟨by rw [HE.out], hK.bel⟩
set_option maxRecDepth 100000 in
set_option maxHeartbeats 4000000 in
theorem ref6_Unit (a : V3) (w : World) : Calls Tryz.prog 26 #[.agg #[.int .i64 a.1.1, .int .i64 a.1.2, .int .i64 a.2.1.1, .int .i64 a.2.1.2, .int .i64 a.2.2.1, .int .i64 a.2.2.2]] w fun e w' => e = .returned (.tuple #[.agg #[.int .i64 (vUnit a).1.1.1, .int .i64 (vUnit a).1.1.2, .int .i64 (vUnit a).1.2.1.1, .int .i64 (vUnit a).1.2.1.2, .int .i64 (vUnit a).1.2.2.1, .int .i64 (vUnit a).1.2.2.2], .int .i64 (vUnit a).2]) ∧ Below w.heap.size w w' := by
  have hq := vUnit_r a
  have HN := Lib.hid (fun W => ref6_Norm a W)
  generalize vNorm a = n at *
  by_cases h : n.2 = 0
  · obtain ⟨n1, n2⟩ := n
    obtain rfl : n2 = 0 := h
    rw [if_pos rfl] at hq
    obtain ⟨q, Hq⟩ : ∃ q, vUnit a = q := ⟨_, rfl⟩
    rw [Hq] at hq ⊢
    have HV := Lib.hid hq.symm
    clear hq Hq
    have hK : Kv w ((w.alloc (.cells #[.int .i64 a.1.1, .int .i64 a.1.2, .int .i64 a.2.1.1, .int .i64 a.2.1.2, .int .i64 a.2.2.1, .int .i64 a.2.2.2] 25)).alloc (.cells #[.int .i64 0, .int .i64 0, .int .i64 0, .int .i64 0, .int .i64 0, .int .i64 0] 25)) [(w.heap.size + 1, vobj (vl v30)), (w.heap.size, vobj (vl a))] := (((Kv.start w).al (vobj (vl a)) (n := w.heap.size) (by simp)).al (vobj (vl v30)) (n := w.heap.size + 1) (by simp))
    have gR : w.heap.size ≤ w.heap.size + 1 := by omega
    have nR_a : w.heap.size + 1 ≠ w.heap.size := by omega
    go_enter Tryz.func26, Tryz.ntmps26
    obtain ⟨ca0, ca1, ca2, ca3, ca4, ca5⟩ := vobj_six (hK.blk _ (List.Mem.tail _ (List.Mem.head _)))
    have la := lt_of_block (hK.blk _ (List.Mem.tail _ (List.Mem.head _)))
    go_wp2_with fail
    refine (HN.out _).mono ?_; rintro e w1 ⟨rfl, hb⟩
    replace hK := hK.on hb
    clear ca0 ca1 ca2 ca3 ca4 ca5 la hb
    have nx4_R : w1.heap.size ≠ w.heap.size + 1 := by have h := lt_of_block (hK.blk _ (List.Mem.head _)); first | exact Nat.ne_of_gt h | (simp at h; omega)
    replace hK : Kv w (w1.alloc (.cells #[.int .i64 n1.1, .int .i64 n1.2] 23)) [(w1.heap.size, .cells #[.int .i64 n1.1, .int .i64 n1.2] 23 (0, 0)), (w.heap.size + 1, vobj (vl v30)), (w.heap.size, vobj (vl a))] := hK.al (.cells #[.int .i64 n1.1, .int .i64 n1.2] 23 (0, 0)) (n := w1.heap.size) (by simp)
    obtain ⟨ca0, ca1, ca2, ca3, ca4, ca5⟩ := vobj_six (hK.blk _ (List.Mem.tail _ (List.Mem.tail _ (List.Mem.head _))))
    have la := lt_of_block (hK.blk _ (List.Mem.tail _ (List.Mem.tail _ (List.Mem.head _))))
    have cx40 := cell_two0 (hK.blk _ (List.Mem.head _))
    have cx41 := cell_two1 (hK.blk _ (List.Mem.head _))
    have lx4 := lt_of_block (hK.blk _ (List.Mem.head _))
    go_wp2_with fail
    refine (ref2_Div a.1 n1 _).mono ?_; rintro e w2 ⟨rfl, hb⟩
    replace hK := hK.on hb
    clear ca0 ca1 ca2 ca3 ca4 ca5 la cx40 cx41 lx4 hb
    have nx6_R : w2.heap.size ≠ w.heap.size + 1 := by have h := lt_of_block (hK.blk _ (List.Mem.tail _ (List.Mem.head _))); first | exact Nat.ne_of_gt h | (simp at h; omega)
    replace hK : Kv w (w2.alloc (.cells #[.int .i64 (sDiv a.1 n1).1.1, .int .i64 (sDiv a.1 n1).1.2] 23)) [(w2.heap.size, .cells #[.int .i64 (sDiv a.1 n1).1.1, .int .i64 (sDiv a.1 n1).1.2] 23 (0, 0)), (w1.heap.size, .cells #[.int .i64 n1.1, .int .i64 n1.2] 23 (0, 0)), (w.heap.size + 1, vobj (vl v30)), (w.heap.size, vobj (vl a))] := hK.al (.cells #[.int .i64 (sDiv a.1 n1).1.1, .int .i64 (sDiv a.1 n1).1.2] 23 (0, 0)) (n := w2.heap.size) (by simp)
    obtain ⟨ca0, ca1, ca2, ca3, ca4, ca5⟩ := vobj_six (hK.blk _ (List.Mem.tail _ (List.Mem.tail _ (List.Mem.tail _ (List.Mem.head _)))))
    have la := lt_of_block (hK.blk _ (List.Mem.tail _ (List.Mem.tail _ (List.Mem.tail _ (List.Mem.head _)))))
    have cx40 := cell_two0 (hK.blk _ (List.Mem.tail _ (List.Mem.head _)))
    have cx41 := cell_two1 (hK.blk _ (List.Mem.tail _ (List.Mem.head _)))
    have lx4 := lt_of_block (hK.blk _ (List.Mem.tail _ (List.Mem.head _)))
    go_wp2_with fail
    refine (ref2_Div a.2.1 n1 _).mono ?_; rintro e w3 ⟨rfl, hb⟩
    replace hK := hK.on hb
    clear ca0 ca1 ca2 ca3 ca4 ca5 la cx40 cx41 lx4 hb
    have nx8_R : w3.heap.size ≠ w.heap.size + 1 := by have h := lt_of_block (hK.blk _ (List.Mem.tail _ (List.Mem.tail _ (List.Mem.head _)))); first | exact Nat.ne_of_gt h | (simp at h; omega)
    replace hK : Kv w (w3.alloc (.cells #[.int .i64 (sDiv a.2.1 n1).1.1, .int .i64 (sDiv a.2.1 n1).1.2] 23)) [(w3.heap.size, .cells #[.int .i64 (sDiv a.2.1 n1).1.1, .int .i64 (sDiv a.2.1 n1).1.2] 23 (0, 0)), (w2.heap.size, .cells #[.int .i64 (sDiv a.1 n1).1.1, .int .i64 (sDiv a.1 n1).1.2] 23 (0, 0)), (w1.heap.size, .cells #[.int .i64 n1.1, .int .i64 n1.2] 23 (0, 0)), (w.heap.size + 1, vobj (vl v30)), (w.heap.size, vobj (vl a))] := hK.al (.cells #[.int .i64 (sDiv a.2.1 n1).1.1, .int .i64 (sDiv a.2.1 n1).1.2] 23 (0, 0)) (n := w3.heap.size) (by simp)
    obtain ⟨ca0, ca1, ca2, ca3, ca4, ca5⟩ := vobj_six (hK.blk _ (List.Mem.tail _ (List.Mem.tail _ (List.Mem.tail _ (List.Mem.tail _ (List.Mem.head _))))))
    have la := lt_of_block (hK.blk _ (List.Mem.tail _ (List.Mem.tail _ (List.Mem.tail _ (List.Mem.tail _ (List.Mem.head _))))))
    have cx40 := cell_two0 (hK.blk _ (List.Mem.tail _ (List.Mem.tail _ (List.Mem.head _))))
    have cx41 := cell_two1 (hK.blk _ (List.Mem.tail _ (List.Mem.tail _ (List.Mem.head _))))
    have lx4 := lt_of_block (hK.blk _ (List.Mem.tail _ (List.Mem.tail _ (List.Mem.head _))))
    go_wp2_with fail
    refine (ref2_Div a.2.2 n1 _).mono ?_; rintro e w4 ⟨rfl, hb⟩
    replace hK := hK.on hb
    clear ca0 ca1 ca2 ca3 ca4 ca5 la cx40 cx41 lx4 hb
    have nx10_R : w4.heap.size ≠ w.heap.size + 1 := by have h := lt_of_block (hK.blk _ (List.Mem.tail _ (List.Mem.tail _ (List.Mem.tail _ (List.Mem.head _))))); first | exact Nat.ne_of_gt h | (simp at h; omega)
    replace hK : Kv w (w4.alloc (.cells #[.int .i64 (sDiv a.2.2 n1).1.1, .int .i64 (sDiv a.2.2 n1).1.2] 23)) [(w4.heap.size, .cells #[.int .i64 (sDiv a.2.2 n1).1.1, .int .i64 (sDiv a.2.2 n1).1.2] 23 (0, 0)), (w3.heap.size, .cells #[.int .i64 (sDiv a.2.1 n1).1.1, .int .i64 (sDiv a.2.1 n1).1.2] 23 (0, 0)), (w2.heap.size, .cells #[.int .i64 (sDiv a.1 n1).1.1, .int .i64 (sDiv a.1 n1).1.2] 23 (0, 0)), (w1.heap.size, .cells #[.int .i64 n1.1, .int .i64 n1.2] 23 (0, 0)), (w.heap.size + 1, vobj (vl v30)), (w.heap.size, vobj (vl a))] := hK.al (.cells #[.int .i64 (sDiv a.2.2 n1).1.1, .int .i64 (sDiv a.2.2 n1).1.2] 23 (0, 0)) (n := w4.heap.size) (by simp)
    have cx60 := cell_two0 (hK.blk _ (List.Mem.tail _ (List.Mem.tail _ (List.Mem.head _))))
    have cx61 := cell_two1 (hK.blk _ (List.Mem.tail _ (List.Mem.tail _ (List.Mem.head _))))
    have lx6 := lt_of_block (hK.blk _ (List.Mem.tail _ (List.Mem.tail _ (List.Mem.head _))))
    have cx80 := cell_two0 (hK.blk _ (List.Mem.tail _ (List.Mem.head _)))
    have cx81 := cell_two1 (hK.blk _ (List.Mem.tail _ (List.Mem.head _)))
    have lx8 := lt_of_block (hK.blk _ (List.Mem.tail _ (List.Mem.head _)))
    have cx100 := cell_two0 (hK.blk _ (List.Mem.head _))
    have cx101 := cell_two1 (hK.blk _ (List.Mem.head _))
    have lx10 := lt_of_block (hK.blk _ (List.Mem.head _))
    go_wp2_with fail
    refine (ref6_vector (sDiv a.1 n1) (sDiv a.2.1 n1) (sDiv a.2.2 n1) _).mono ?_; rintro e w5 ⟨rfl, hb⟩
    replace hK := hK.on hb
    clear cx60 cx61 lx6 cx80 cx81 lx8 cx100 cx101 lx10 hb
    rw [HV.out]
    obtain ⟨cR0, cR1, cR2, cR3, cR4, cR5⟩ := vobj_six (hK.blk _ (List.Mem.tail _ (List.Mem.tail _ (List.Mem.tail _ (List.Mem.tail _ (List.Mem.head _))))))
    simp only [v30] at cR0 cR1 cR2 cR3 cR4 cR5
    have lR := lt_of_block (hK.blk _ (List.Mem.tail _ (List.Mem.tail _ (List.Mem.tail _ (List.Mem.tail _ (List.Mem.head _))))))
    have fR0 := vobj_free (hK.blk _ (List.Mem.tail _ (List.Mem.tail _ (List.Mem.tail _ (List.Mem.tail _ (List.Mem.head _)))))) 0
    have fR1 := vobj_free (hK.blk _ (List.Mem.tail _ (List.Mem.tail _ (List.Mem.tail _ (List.Mem.tail _ (List.Mem.head _)))))) 1
    have fR2 := vobj_free (hK.blk _ (List.Mem.tail _ (List.Mem.tail _ (List.Mem.tail _ (List.Mem.tail _ (List.Mem.head _)))))) 2
    have fR3 := vobj_free (hK.blk _ (List.Mem.tail _ (List.Mem.tail _ (List.Mem.tail _ (List.Mem.tail _ (List.Mem.head _)))))) 3
    have fR4 := vobj_free (hK.blk _ (List.Mem.tail _ (List.Mem.tail _ (List.Mem.tail _ (List.Mem.tail _ (List.Mem.head _)))))) 4
    have fR5 := vobj_free (hK.blk _ (List.Mem.tail _ (List.Mem.tail _ (List.Mem.tail _ (List.Mem.tail _ (List.Mem.head _)))))) 5
    replace hK : Kv w ((((((w5.setCell ⟨w.heap.size + 1, 0, none⟩ (.int .i64 q.1.1.1)).setCell ⟨w.heap.size + 1, 1, none⟩ (.int .i64 q.1.1.2)).setCell ⟨w.heap.size + 1, 2, none⟩ (.int .i64 q.1.2.1.1)).setCell ⟨w.heap.size + 1, 3, none⟩ (.int .i64 q.1.2.1.2)).setCell ⟨w.heap.size + 1, 4, none⟩ (.int .i64 q.1.2.2.1)).setCell ⟨w.heap.size + 1, 5, none⟩ (.int .i64 q.1.2.2.2)) [(w4.heap.size, .cells #[.int .i64 (sDiv a.2.2 n1).1.1, .int .i64 (sDiv a.2.2 n1).1.2] 23 (0, 0)), (w3.heap.size, .cells #[.int .i64 (sDiv a.2.1 n1).1.1, .int .i64 (sDiv a.2.1 n1).1.2] 23 (0, 0)), (w2.heap.size, .cells #[.int .i64 (sDiv a.1 n1).1.1, .int .i64 (sDiv a.1 n1).1.2] 23 (0, 0)), (w1.heap.size, .cells #[.int .i64 n1.1, .int .i64 n1.2] 23 (0, 0)), (w.heap.size + 1, vobj (vl q.1)), (w.heap.size, vobj (vl a))] := hK.seta (a := v30) (cs := [(w4.heap.size, .cells #[.int .i64 (sDiv a.2.2 n1).1.1, .int .i64 (sDiv a.2.2 n1).1.2] 23 (0, 0)), (w3.heap.size, .cells #[.int .i64 (sDiv a.2.1 n1).1.1, .int .i64 (sDiv a.2.1 n1).1.2] 23 (0, 0)), (w2.heap.size, .cells #[.int .i64 (sDiv a.1 n1).1.1, .int .i64 (sDiv a.1 n1).1.2] 23 (0, 0)), (w1.heap.size, .cells #[.int .i64 n1.1, .int .i64 n1.2] 23 (0, 0)), (w.heap.size + 1, vobj (vl q.1)), (w.heap.size, vobj (vl a))]) (List.Mem.tail _ (List.Mem.tail _ (List.Mem.tail _ (List.Mem.tail _ (List.Mem.head _))))) gR q.1 (List.forall_mem_cons.2 ⟨.inr ⟨(List.Mem.head _), nx10_R⟩, (List.forall_mem_cons.2 ⟨.inr ⟨(List.Mem.tail _ (List.Mem.head _)), nx8_R⟩, (List.forall_mem_cons.2 ⟨.inr ⟨(List.Mem.tail _ (List.Mem.tail _ (List.Mem.head _))), nx6_R⟩, (List.forall_mem_cons.2 ⟨.inr ⟨(List.Mem.tail _ (List.Mem.tail _ (List.Mem.tail _ (List.Mem.head _)))), nx4_R⟩, (List.forall_mem_cons.2 ⟨.inl rfl, (List.forall_mem_cons.2 ⟨.inr ⟨(List.Mem.tail _ (List.Mem.tail _ (List.Mem.tail _ (List.Mem.tail _ (List.Mem.tail _ (List.Mem.head _)))))), (Ne.symm nR_a)⟩, (List.forall_mem_nil _)⟩)⟩)⟩)⟩)⟩)⟩)
    have HKK := Lib.hid hK
    clear hK
    go_wp2_with fail
    have hK := HKK.out
    have gs := vobj_six (hK.blk _ (List.Mem.tail _ (List.Mem.tail _ (List.Mem.tail _ (List.Mem.tail _ (List.Mem.head _))))))
    try dsimp only at gs
    obtain ⟨r0, r1, r2, r3, r4, r5⟩ := gs
    exact bodyPost_ret (v := .tuple #[.agg #[.int .i64 q.1.1.1, .int .i64 q.1.1.2, .int .i64 q.1.2.1.1, .int .i64 q.1.2.1.2, .int .i64 q.1.2.2.1, .int .i64 q.1.2.2.2], .int .i64 q.2]) (by simp [results, Tryz.results26, go_sem, r0, r1, r2, r3, r4, r5]) rfl ⟨rfl, hK.bel⟩
  · rw [if_neg h] at hq
    have HE := Lib.hid hq
    have q0 : (n.2 == 0) = false := by simp [h]
    clear hq
    have hK : Kv w ((w.alloc (.cells #[.int .i64 a.1.1, .int .i64 a.1.2, .int .i64 a.2.1.1, .int .i64 a.2.1.2, .int .i64 a.2.2.1, .int .i64 a.2.2.2] 25)).alloc (.cells #[.int .i64 0, .int .i64 0, .int .i64 0, .int .i64 0, .int .i64 0, .int .i64 0] 25)) [(w.heap.size + 1, vobj (vl v30)), (w.heap.size, vobj (vl a))] := (((Kv.start w).al (vobj (vl a)) (n := w.heap.size) (by simp)).al (vobj (vl v30)) (n := w.heap.size + 1) (by simp))
    have gR : w.heap.size ≤ w.heap.size + 1 := by omega
    have nR_a : w.heap.size + 1 ≠ w.heap.size := by omega
    go_enter Tryz.func26, Tryz.ntmps26
    obtain ⟨ca0, ca1, ca2, ca3, ca4, ca5⟩ := vobj_six (hK.blk _ (List.Mem.tail _ (List.Mem.head _)))
    have la := lt_of_block (hK.blk _ (List.Mem.tail _ (List.Mem.head _)))
    go_wp2_with fail
    refine (HN.out _).mono ?_; rintro e w1 ⟨rfl, hb⟩
    replace hK := hK.on hb
    clear ca0 ca1 ca2 ca3 ca4 ca5 la hb
    have nx4_R : w1.heap.size ≠ w.heap.size + 1 := by have h := lt_of_block (hK.blk _ (List.Mem.head _)); first | exact Nat.ne_of_gt h | (simp at h; omega)
    replace hK : Kv w (w1.alloc (.cells #[.int .i64 n.1.1, .int .i64 n.1.2] 23)) [(w1.heap.size, .cells #[.int .i64 n.1.1, .int .i64 n.1.2] 23 (0, 0)), (w.heap.size + 1, vobj (vl v30)), (w.heap.size, vobj (vl a))] := hK.al (.cells #[.int .i64 n.1.1, .int .i64 n.1.2] 23 (0, 0)) (n := w1.heap.size) (by simp)
    obtain ⟨cR0, cR1, cR2, cR3, cR4, cR5⟩ := vobj_six (hK.blk _ (List.Mem.tail _ (List.Mem.head _)))
    simp only [v30] at cR0 cR1 cR2 cR3 cR4 cR5
    have lR := lt_of_block (hK.blk _ (List.Mem.tail _ (List.Mem.head _)))
    have fR0 := vobj_free (hK.blk _ (List.Mem.tail _ (List.Mem.head _))) 0
    have fR1 := vobj_free (hK.blk _ (List.Mem.tail _ (List.Mem.head _))) 1
    have fR2 := vobj_free (hK.blk _ (List.Mem.tail _ (List.Mem.head _))) 2
    have fR3 := vobj_free (hK.blk _ (List.Mem.tail _ (List.Mem.head _))) 3
    have fR4 := vobj_free (hK.blk _ (List.Mem.tail _ (List.Mem.head _))) 4
    have fR5 := vobj_free (hK.blk _ (List.Mem.tail _ (List.Mem.head _))) 5
    replace hK : Kv w (((((((w1.alloc (.cells #[.int .i64 n.1.1, .int .i64 n.1.2] 23)).setCell ⟨w.heap.size + 1, 0, none⟩ (.int .i64 0)).setCell ⟨w.heap.size + 1, 1, none⟩ (.int .i64 0)).setCell ⟨w.heap.size + 1, 2, none⟩ (.int .i64 0)).setCell ⟨w.heap.size + 1, 3, none⟩ (.int .i64 0)).setCell ⟨w.heap.size + 1, 4, none⟩ (.int .i64 0)).setCell ⟨w.heap.size + 1, 5, none⟩ (.int .i64 0)) [(w1.heap.size, .cells #[.int .i64 n.1.1, .int .i64 n.1.2] 23 (0, 0)), (w.heap.size + 1, vobj (vl v30)), (w.heap.size, vobj (vl a))] := hK.seta (a := v30) (cs := [(w1.heap.size, .cells #[.int .i64 n.1.1, .int .i64 n.1.2] 23 (0, 0)), (w.heap.size + 1, vobj (vl v30)), (w.heap.size, vobj (vl a))]) (List.Mem.tail _ (List.Mem.head _)) gR v30 (List.forall_mem_cons.2 ⟨.inr ⟨(List.Mem.head _), nx4_R⟩, (List.forall_mem_cons.2 ⟨.inl rfl, (List.forall_mem_cons.2 ⟨.inr ⟨(List.Mem.tail _ (List.Mem.tail _ (List.Mem.head _))), (Ne.symm nR_a)⟩, (List.forall_mem_nil _)⟩)⟩)⟩)
    have HKK := Lib.hid hK
    clear hK
    go_wp2_with fail
    have hK := HKK.out
    have gs := vobj_six (hK.blk _ (List.Mem.tail _ (List.Mem.head _)))
    simp only [v30] at gs
    obtain ⟨r0, r1, r2, r3, r4, r5⟩ := gs
    exact bodyPost_ret (v := .tuple #[.agg #[.int .i64 0, .int .i64 0, .int .i64 0, .int .i64 0, .int .i64 0, .int .i64 0], .int .i64 n.2]) (by simp [results, Tryz.results26, go_sem, r0, r1, r2, r3, r4, r5]) rfl ⟨by rw [HE.out] <;> rfl, hK.bel⟩
end Go.Proofs.YtmnccbhlllnlbaaGreat
