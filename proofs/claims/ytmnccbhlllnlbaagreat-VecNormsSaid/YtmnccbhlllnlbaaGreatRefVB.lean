/- Contracts of the reference of layer 6: Add, Sub, Neg, Scale. Printed by wip/genV6.py. -/
import Derived.Test.YtmnccbhlllnlbaaGreatRefVA
namespace Go.Proofs.YtmnccbhlllnlbaaGreat
open Go.RowKit Mnc
attribute [local go_sem] RunS_value RunS_skip RunS_enter evS_tmp evS_const evS_global evS_func
theorem vop_ok {f : Int × Int → Int × Int → (Int × Int) × Int} {a b : V3} (ha : okV a) (hb : okV b) : vOp f a b = rVec (f a.1 b.1) (f a.2.1 b.2.1) (f a.2.2 b.2.2) := vOp_ok f ha hb
theorem vNote_20 {a : V3} : vNote 20 a = 20 := by
  unfold vNote fst2
  simp
theorem err3_20 {f : Int × Int → Int × Int → (Int × Int) × Int} {a b : V3} : err3 f 20 a b = 20 := by
  unfold err3 fst2
  simp
theorem vop_bad {f : Int × Int → Int × Int → (Int × Int) × Int} {a b : V3} (h : ¬ (okV a ∧ okV b)) : vOp f a b = (v30, 20) := by
  have e : vNote (vNote 0 a) b = 20 := by
    by_cases ha : okV a
    · rw [vNote_ok ha]
      exact vNote_bad fun hb => h ⟨ha, hb⟩
    · rw [vNote_bad ha]
      exact vNote_20
  unfold vOp
  rw [e, err3_20]
  rfl
theorem vneg_r (a : V3) : vNeg a = rVec (sNeg a.1) (sNeg a.2.1) (sNeg a.2.2) := by
  by_cases h : okV a
  · unfold vNeg rVec
    rw [vNote_ok h]
    rfl
  · unfold vNeg rVec
    rw [vNote_bad h, err3_20]
    have e : fst2 (fst2 (fst2 0 (sNeg a.1).2) (sNeg a.2.1).2) (sNeg a.2.2).2 = 20 := by
      have key : ∀ s : Int × Int, (sNeg s).2 = if okS s then 0 else 20 := fun s => by
        by_cases g : okS s
        · rw [sNeg_okS g, if_pos g]
        · have z : sNeg s = _ := on1_bad g
          rw [z, if_neg g]
      rw [key, key, key]
      unfold okV at h
      by_cases g1 : okS a.1
      · by_cases g2 : okS a.2.1
        · have g3 : ¬ okS a.2.2 := fun g => h ⟨g1, g2, g⟩
          simp [g1, g2, g3, fst2]
        · simp [g1, g2, fst2]
      · simp [g1, fst2]
    rw [e]
    rfl
set_option maxRecDepth 100000 in
set_option maxHeartbeats 600000 in
theorem ref6_Add (a : V3) (b : V3) (w : World) : Calls Tryz.prog 9 #[.agg #[.int .i64 a.1.1, .int .i64 a.1.2, .int .i64 a.2.1.1, .int .i64 a.2.1.2, .int .i64 a.2.2.1, .int .i64 a.2.2.2], .agg #[.int .i64 b.1.1, .int .i64 b.1.2, .int .i64 b.2.1.1, .int .i64 b.2.1.2, .int .i64 b.2.2.1, .int .i64 b.2.2.2]] w fun e w' => e = .returned (.tuple #[.agg #[.int .i64 (vAdd a b).1.1.1, .int .i64 (vAdd a b).1.1.2, .int .i64 (vAdd a b).1.2.1.1, .int .i64 (vAdd a b).1.2.1.2, .int .i64 (vAdd a b).1.2.2.1, .int .i64 (vAdd a b).1.2.2.2], .int .i64 (vAdd a b).2]) ∧ Below w.heap.size w w' := by
  obtain ⟨q, hq⟩ : ∃ q, vAdd a b = q := ⟨_, rfl⟩
  rw [hq]
  have HQ := Lib.hid hq
  clear hq
  by_cases ha : okV a
  · by_cases hb : okV b
    · have HV := Lib.hid (show rVec (sAdd a.1 b.1) (sAdd a.2.1 b.2.1) (sAdd a.2.2 b.2.2) = q from (vop_ok ha hb).symm.trans HQ.out)
      have Ha := Lib.hid ha
      have Hb := Lib.hid hb
      clear ha hb HQ
      have hK : Kv w (((w.alloc (.cells #[.int .i64 a.1.1, .int .i64 a.1.2, .int .i64 a.2.1.1, .int .i64 a.2.1.2, .int .i64 a.2.2.1, .int .i64 a.2.2.2] 25)).alloc (.cells #[.int .i64 b.1.1, .int .i64 b.1.2, .int .i64 b.2.1.1, .int .i64 b.2.1.2, .int .i64 b.2.2.1, .int .i64 b.2.2.2] 25)).alloc (.cells #[.int .i64 0, .int .i64 0, .int .i64 0, .int .i64 0, .int .i64 0, .int .i64 0] 25)) [(w.heap.size + 1 + 1, vobj (vl v30)), (w.heap.size + 1, vobj (vl b)), (w.heap.size, vobj (vl a))] := ((((Kv.start w).al (vobj (vl a)) (n := w.heap.size) (by simp)).al (vobj (vl b)) (n := w.heap.size + 1) (by simp)).al (vobj (vl v30)) (n := w.heap.size + 1 + 1) (by simp))
      have gR : w.heap.size ≤ w.heap.size + 1 + 1 := by omega
      have nR_a : w.heap.size + 1 + 1 ≠ w.heap.size := by omega
      have nR_b : w.heap.size + 1 + 1 ≠ w.heap.size + 1 := by omega
      go_enter Tryz.func9, Tryz.ntmps9
      obtain ⟨ca0, ca1, ca2, ca3, ca4, ca5⟩ := vobj_six (hK.blk _ (List.Mem.tail _ (List.Mem.tail _ (List.Mem.head _))))
      have la := lt_of_block (hK.blk _ (List.Mem.tail _ (List.Mem.tail _ (List.Mem.head _))))
      go_wp2_with fail
      refine (ref6_Right_ok Ha.out _).mono ?_; rintro e w1 ⟨rfl, hb⟩
      replace hK := hK.on hb
      clear ca0 ca1 ca2 ca3 ca4 ca5 la hb
      obtain ⟨cb0, cb1, cb2, cb3, cb4, cb5⟩ := vobj_six (hK.blk _ (List.Mem.tail _ (List.Mem.head _)))
      have lb := lt_of_block (hK.blk _ (List.Mem.tail _ (List.Mem.head _)))
      go_wp2_with fail
      refine (ref6_Right_ok Hb.out _).mono ?_; rintro e w2 ⟨rfl, hb⟩
      replace hK := hK.on hb
      clear cb0 cb1 cb2 cb3 cb4 cb5 lb hb
      obtain ⟨ca0, ca1, ca2, ca3, ca4, ca5⟩ := vobj_six (hK.blk _ (List.Mem.tail _ (List.Mem.tail _ (List.Mem.head _))))
      have la := lt_of_block (hK.blk _ (List.Mem.tail _ (List.Mem.tail _ (List.Mem.head _))))
      obtain ⟨cb0, cb1, cb2, cb3, cb4, cb5⟩ := vobj_six (hK.blk _ (List.Mem.tail _ (List.Mem.head _)))
      have lb := lt_of_block (hK.blk _ (List.Mem.tail _ (List.Mem.head _)))
      go_wp2_with fail
      refine (ref2_Add a.1 b.1 _).mono ?_; rintro e w3 ⟨rfl, hb⟩
      replace hK := hK.on hb
      clear ca0 ca1 ca2 ca3 ca4 ca5 la cb0 cb1 cb2 cb3 cb4 cb5 lb hb
      have nx6_R : w3.heap.size ≠ w.heap.size + 1 + 1 := by have h := lt_of_block (hK.blk _ (List.Mem.head _)); first | exact Nat.ne_of_gt h | (simp at h; omega)
      replace hK : Kv w (w3.alloc (.cells #[.int .i64 (sAdd a.1 b.1).1.1, .int .i64 (sAdd a.1 b.1).1.2] 23)) [(w3.heap.size, .cells #[.int .i64 (sAdd a.1 b.1).1.1, .int .i64 (sAdd a.1 b.1).1.2] 23 (0, 0)), (w.heap.size + 1 + 1, vobj (vl v30)), (w.heap.size + 1, vobj (vl b)), (w.heap.size, vobj (vl a))] := hK.al (.cells #[.int .i64 (sAdd a.1 b.1).1.1, .int .i64 (sAdd a.1 b.1).1.2] 23 (0, 0)) (n := w3.heap.size) (by simp)
      obtain ⟨ca0, ca1, ca2, ca3, ca4, ca5⟩ := vobj_six (hK.blk _ (List.Mem.tail _ (List.Mem.tail _ (List.Mem.tail _ (List.Mem.head _)))))
      have la := lt_of_block (hK.blk _ (List.Mem.tail _ (List.Mem.tail _ (List.Mem.tail _ (List.Mem.head _)))))
      obtain ⟨cb0, cb1, cb2, cb3, cb4, cb5⟩ := vobj_six (hK.blk _ (List.Mem.tail _ (List.Mem.tail _ (List.Mem.head _))))
      have lb := lt_of_block (hK.blk _ (List.Mem.tail _ (List.Mem.tail _ (List.Mem.head _))))
      go_wp2_with fail
      refine (ref2_Add a.2.1 b.2.1 _).mono ?_; rintro e w4 ⟨rfl, hb⟩
      replace hK := hK.on hb
      clear ca0 ca1 ca2 ca3 ca4 ca5 la cb0 cb1 cb2 cb3 cb4 cb5 lb hb
      have nx8_R : w4.heap.size ≠ w.heap.size + 1 + 1 := by have h := lt_of_block (hK.blk _ (List.Mem.tail _ (List.Mem.head _))); first | exact Nat.ne_of_gt h | (simp at h; omega)
      replace hK : Kv w (w4.alloc (.cells #[.int .i64 (sAdd a.2.1 b.2.1).1.1, .int .i64 (sAdd a.2.1 b.2.1).1.2] 23)) [(w4.heap.size, .cells #[.int .i64 (sAdd a.2.1 b.2.1).1.1, .int .i64 (sAdd a.2.1 b.2.1).1.2] 23 (0, 0)), (w3.heap.size, .cells #[.int .i64 (sAdd a.1 b.1).1.1, .int .i64 (sAdd a.1 b.1).1.2] 23 (0, 0)), (w.heap.size + 1 + 1, vobj (vl v30)), (w.heap.size + 1, vobj (vl b)), (w.heap.size, vobj (vl a))] := hK.al (.cells #[.int .i64 (sAdd a.2.1 b.2.1).1.1, .int .i64 (sAdd a.2.1 b.2.1).1.2] 23 (0, 0)) (n := w4.heap.size) (by simp)
      obtain ⟨ca0, ca1, ca2, ca3, ca4, ca5⟩ := vobj_six (hK.blk _ (List.Mem.tail _ (List.Mem.tail _ (List.Mem.tail _ (List.Mem.tail _ (List.Mem.head _))))))
      have la := lt_of_block (hK.blk _ (List.Mem.tail _ (List.Mem.tail _ (List.Mem.tail _ (List.Mem.tail _ (List.Mem.head _))))))
      obtain ⟨cb0, cb1, cb2, cb3, cb4, cb5⟩ := vobj_six (hK.blk _ (List.Mem.tail _ (List.Mem.tail _ (List.Mem.tail _ (List.Mem.head _)))))
      have lb := lt_of_block (hK.blk _ (List.Mem.tail _ (List.Mem.tail _ (List.Mem.tail _ (List.Mem.head _)))))
      go_wp2_with fail
      refine (ref2_Add a.2.2 b.2.2 _).mono ?_; rintro e w5 ⟨rfl, hb⟩
      replace hK := hK.on hb
      clear ca0 ca1 ca2 ca3 ca4 ca5 la cb0 cb1 cb2 cb3 cb4 cb5 lb hb
      have nx10_R : w5.heap.size ≠ w.heap.size + 1 + 1 := by have h := lt_of_block (hK.blk _ (List.Mem.tail _ (List.Mem.tail _ (List.Mem.head _)))); first | exact Nat.ne_of_gt h | (simp at h; omega)
      replace hK : Kv w (w5.alloc (.cells #[.int .i64 (sAdd a.2.2 b.2.2).1.1, .int .i64 (sAdd a.2.2 b.2.2).1.2] 23)) [(w5.heap.size, .cells #[.int .i64 (sAdd a.2.2 b.2.2).1.1, .int .i64 (sAdd a.2.2 b.2.2).1.2] 23 (0, 0)), (w4.heap.size, .cells #[.int .i64 (sAdd a.2.1 b.2.1).1.1, .int .i64 (sAdd a.2.1 b.2.1).1.2] 23 (0, 0)), (w3.heap.size, .cells #[.int .i64 (sAdd a.1 b.1).1.1, .int .i64 (sAdd a.1 b.1).1.2] 23 (0, 0)), (w.heap.size + 1 + 1, vobj (vl v30)), (w.heap.size + 1, vobj (vl b)), (w.heap.size, vobj (vl a))] := hK.al (.cells #[.int .i64 (sAdd a.2.2 b.2.2).1.1, .int .i64 (sAdd a.2.2 b.2.2).1.2] 23 (0, 0)) (n := w5.heap.size) (by simp)
      have cx60 := cell_two0 (hK.blk _ (List.Mem.tail _ (List.Mem.tail _ (List.Mem.head _))))
      have cx61 := cell_two1 (hK.blk _ (List.Mem.tail _ (List.Mem.tail _ (List.Mem.head _))))
      have lx6 := lt_of_block (hK.blk _ (List.Mem.tail _ (List.Mem.tail _ (List.Mem.head _))))
      have cx80 := cell_two0 (hK.blk _ (List.Mem.tail _ (List.Mem.head _)))
      have cx81 := cell_two1 (hK.blk _ (List.Mem.tail _ (List.Mem.head _)))
      have lx8 := lt_of_block (hK.blk _ (List.Mem.tail _ (List.Mem.head _)))
      have cx100 := cell_two0 (hK.blk _ (List.Mem.head _))
      have cx101 := cell_two1 (hK.blk _ (List.Mem.head _))
      have lx10 := lt_of_block (hK.blk _ (List.Mem.head _))
      go_wp2_with fail
      refine (ref6_vector (sAdd a.1 b.1) (sAdd a.2.1 b.2.1) (sAdd a.2.2 b.2.2) _).mono ?_; rintro e w6 ⟨rfl, hb⟩
      replace hK := hK.on hb
      clear cx60 cx61 lx6 cx80 cx81 lx8 cx100 cx101 lx10 hb
      rw [HV.out]
      obtain ⟨cR0, cR1, cR2, cR3, cR4, cR5⟩ := vobj_six (hK.blk _ (List.Mem.tail _ (List.Mem.tail _ (List.Mem.tail _ (List.Mem.head _)))))
      simp only [v30] at cR0 cR1 cR2 cR3 cR4 cR5
      have lR := lt_of_block (hK.blk _ (List.Mem.tail _ (List.Mem.tail _ (List.Mem.tail _ (List.Mem.head _)))))
      have fR0 := vobj_free (hK.blk _ (List.Mem.tail _ (List.Mem.tail _ (List.Mem.tail _ (List.Mem.head _))))) 0
      have fR1 := vobj_free (hK.blk _ (List.Mem.tail _ (List.Mem.tail _ (List.Mem.tail _ (List.Mem.head _))))) 1
      have fR2 := vobj_free (hK.blk _ (List.Mem.tail _ (List.Mem.tail _ (List.Mem.tail _ (List.Mem.head _))))) 2
      have fR3 := vobj_free (hK.blk _ (List.Mem.tail _ (List.Mem.tail _ (List.Mem.tail _ (List.Mem.head _))))) 3
      have fR4 := vobj_free (hK.blk _ (List.Mem.tail _ (List.Mem.tail _ (List.Mem.tail _ (List.Mem.head _))))) 4
      have fR5 := vobj_free (hK.blk _ (List.Mem.tail _ (List.Mem.tail _ (List.Mem.tail _ (List.Mem.head _))))) 5
      replace hK : Kv w ((((((w6.setCell ⟨w.heap.size + 1 + 1, 0, none⟩ (.int .i64 q.1.1.1)).setCell ⟨w.heap.size + 1 + 1, 1, none⟩ (.int .i64 q.1.1.2)).setCell ⟨w.heap.size + 1 + 1, 2, none⟩ (.int .i64 q.1.2.1.1)).setCell ⟨w.heap.size + 1 + 1, 3, none⟩ (.int .i64 q.1.2.1.2)).setCell ⟨w.heap.size + 1 + 1, 4, none⟩ (.int .i64 q.1.2.2.1)).setCell ⟨w.heap.size + 1 + 1, 5, none⟩ (.int .i64 q.1.2.2.2)) [(w5.heap.size, .cells #[.int .i64 (sAdd a.2.2 b.2.2).1.1, .int .i64 (sAdd a.2.2 b.2.2).1.2] 23 (0, 0)), (w4.heap.size, .cells #[.int .i64 (sAdd a.2.1 b.2.1).1.1, .int .i64 (sAdd a.2.1 b.2.1).1.2] 23 (0, 0)), (w3.heap.size, .cells #[.int .i64 (sAdd a.1 b.1).1.1, .int .i64 (sAdd a.1 b.1).1.2] 23 (0, 0)), (w.heap.size + 1 + 1, vobj (vl q.1)), (w.heap.size + 1, vobj (vl b)), (w.heap.size, vobj (vl a))] := hK.seta (a := v30) (cs := [(w5.heap.size, .cells #[.int .i64 (sAdd a.2.2 b.2.2).1.1, .int .i64 (sAdd a.2.2 b.2.2).1.2] 23 (0, 0)), (w4.heap.size, .cells #[.int .i64 (sAdd a.2.1 b.2.1).1.1, .int .i64 (sAdd a.2.1 b.2.1).1.2] 23 (0, 0)), (w3.heap.size, .cells #[.int .i64 (sAdd a.1 b.1).1.1, .int .i64 (sAdd a.1 b.1).1.2] 23 (0, 0)), (w.heap.size + 1 + 1, vobj (vl q.1)), (w.heap.size + 1, vobj (vl b)), (w.heap.size, vobj (vl a))]) (List.Mem.tail _ (List.Mem.tail _ (List.Mem.tail _ (List.Mem.head _)))) gR q.1 (List.forall_mem_cons.2 ⟨.inr ⟨(List.Mem.head _), nx10_R⟩, (List.forall_mem_cons.2 ⟨.inr ⟨(List.Mem.tail _ (List.Mem.head _)), nx8_R⟩, (List.forall_mem_cons.2 ⟨.inr ⟨(List.Mem.tail _ (List.Mem.tail _ (List.Mem.head _))), nx6_R⟩, (List.forall_mem_cons.2 ⟨.inl rfl, (List.forall_mem_cons.2 ⟨.inr ⟨(List.Mem.tail _ (List.Mem.tail _ (List.Mem.tail _ (List.Mem.tail _ (List.Mem.head _))))), (Ne.symm nR_b)⟩, (List.forall_mem_cons.2 ⟨.inr ⟨(List.Mem.tail _ (List.Mem.tail _ (List.Mem.tail _ (List.Mem.tail _ (List.Mem.tail _ (List.Mem.head _)))))), (Ne.symm nR_a)⟩, (List.forall_mem_nil _)⟩)⟩)⟩)⟩)⟩)⟩)
      have HKK := Lib.hid hK
      clear hK
      go_wp2_with fail
      have hK := HKK.out
      have gs := vobj_six (hK.blk _ (List.Mem.tail _ (List.Mem.tail _ (List.Mem.tail _ (List.Mem.head _)))))
      try dsimp only at gs
      obtain ⟨r0, r1, r2, r3, r4, r5⟩ := gs
      exact bodyPost_ret (v := .tuple #[.agg #[.int .i64 q.1.1.1, .int .i64 q.1.1.2, .int .i64 q.1.2.1.1, .int .i64 q.1.2.1.2, .int .i64 q.1.2.2.1, .int .i64 q.1.2.2.2], .int .i64 q.2]) (by simp [results, Tryz.results9, go_sem, r0, r1, r2, r3, r4, r5]) rfl ⟨rfl, hK.bel⟩
    · have HE := Lib.hid (show (v30, (20 : Int)) = q from (vop_bad (fun g => hb g.2)).symm.trans HQ.out)
      have Ha := Lib.hid ha
      have Hb := Lib.hid hb
      clear ha hb HQ
      have hK : Kv w (((w.alloc (.cells #[.int .i64 a.1.1, .int .i64 a.1.2, .int .i64 a.2.1.1, .int .i64 a.2.1.2, .int .i64 a.2.2.1, .int .i64 a.2.2.2] 25)).alloc (.cells #[.int .i64 b.1.1, .int .i64 b.1.2, .int .i64 b.2.1.1, .int .i64 b.2.1.2, .int .i64 b.2.2.1, .int .i64 b.2.2.2] 25)).alloc (.cells #[.int .i64 0, .int .i64 0, .int .i64 0, .int .i64 0, .int .i64 0, .int .i64 0] 25)) [(w.heap.size + 1 + 1, vobj (vl v30)), (w.heap.size + 1, vobj (vl b)), (w.heap.size, vobj (vl a))] := ((((Kv.start w).al (vobj (vl a)) (n := w.heap.size) (by simp)).al (vobj (vl b)) (n := w.heap.size + 1) (by simp)).al (vobj (vl v30)) (n := w.heap.size + 1 + 1) (by simp))
      have gR : w.heap.size ≤ w.heap.size + 1 + 1 := by omega
      have nR_a : w.heap.size + 1 + 1 ≠ w.heap.size := by omega
      have nR_b : w.heap.size + 1 + 1 ≠ w.heap.size + 1 := by omega
      go_enter Tryz.func9, Tryz.ntmps9
      obtain ⟨ca0, ca1, ca2, ca3, ca4, ca5⟩ := vobj_six (hK.blk _ (List.Mem.tail _ (List.Mem.tail _ (List.Mem.head _))))
      have la := lt_of_block (hK.blk _ (List.Mem.tail _ (List.Mem.tail _ (List.Mem.head _))))
      go_wp2_with fail
      refine (ref6_Right_ok Ha.out _).mono ?_; rintro e w1 ⟨rfl, hb⟩
      replace hK := hK.on hb
      clear ca0 ca1 ca2 ca3 ca4 ca5 la hb
      obtain ⟨cb0, cb1, cb2, cb3, cb4, cb5⟩ := vobj_six (hK.blk _ (List.Mem.tail _ (List.Mem.head _)))
      have lb := lt_of_block (hK.blk _ (List.Mem.tail _ (List.Mem.head _)))
      go_wp2_with fail
      refine (ref6_Right_bad Hb.out _).mono ?_; rintro e w2 ⟨rfl, hb⟩
      replace hK := hK.on hb
      clear cb0 cb1 cb2 cb3 cb4 cb5 lb hb
      obtain ⟨cR0, cR1, cR2, cR3, cR4, cR5⟩ := vobj_six (hK.blk _ (List.Mem.head _))
      simp only [v30] at cR0 cR1 cR2 cR3 cR4 cR5
      have lR := lt_of_block (hK.blk _ (List.Mem.head _))
      have fR0 := vobj_free (hK.blk _ (List.Mem.head _)) 0
      have fR1 := vobj_free (hK.blk _ (List.Mem.head _)) 1
      have fR2 := vobj_free (hK.blk _ (List.Mem.head _)) 2
      have fR3 := vobj_free (hK.blk _ (List.Mem.head _)) 3
      have fR4 := vobj_free (hK.blk _ (List.Mem.head _)) 4
      have fR5 := vobj_free (hK.blk _ (List.Mem.head _)) 5
      replace hK : Kv w ((((((w2.setCell ⟨w.heap.size + 1 + 1, 0, none⟩ (.int .i64 0)).setCell ⟨w.heap.size + 1 + 1, 1, none⟩ (.int .i64 0)).setCell ⟨w.heap.size + 1 + 1, 2, none⟩ (.int .i64 0)).setCell ⟨w.heap.size + 1 + 1, 3, none⟩ (.int .i64 0)).setCell ⟨w.heap.size + 1 + 1, 4, none⟩ (.int .i64 0)).setCell ⟨w.heap.size + 1 + 1, 5, none⟩ (.int .i64 0)) [(w.heap.size + 1 + 1, vobj (vl v30)), (w.heap.size + 1, vobj (vl b)), (w.heap.size, vobj (vl a))] := hK.seta (a := v30) (cs := [(w.heap.size + 1 + 1, vobj (vl v30)), (w.heap.size + 1, vobj (vl b)), (w.heap.size, vobj (vl a))]) (List.Mem.head _) gR v30 (List.forall_mem_cons.2 ⟨.inl rfl, (List.forall_mem_cons.2 ⟨.inr ⟨(List.Mem.tail _ (List.Mem.head _)), (Ne.symm nR_b)⟩, (List.forall_mem_cons.2 ⟨.inr ⟨(List.Mem.tail _ (List.Mem.tail _ (List.Mem.head _))), (Ne.symm nR_a)⟩, (List.forall_mem_nil _)⟩)⟩)⟩)
      have HKK := Lib.hid hK
      clear hK
      go_wp2_with fail
      have hK := HKK.out
      have gs := vobj_six (hK.blk _ (List.Mem.head _))
      simp only [v30] at gs
      obtain ⟨r0, r1, r2, r3, r4, r5⟩ := gs
      exact bodyPost_ret (v := .tuple #[.agg #[.int .i64 0, .int .i64 0, .int .i64 0, .int .i64 0, .int .i64 0, .int .i64 0], .int .i64 20]) (by simp [results, Tryz.results9, go_sem, r0, r1, r2, r3, r4, r5]) rfl ⟨by rw [← HE.out] <;> rfl, hK.bel⟩
  · have HE := Lib.hid (show (v30, (20 : Int)) = q from (vop_bad (fun g => ha g.1)).symm.trans HQ.out)
    have Ha := Lib.hid ha
    clear ha HQ
    have hK : Kv w (((w.alloc (.cells #[.int .i64 a.1.1, .int .i64 a.1.2, .int .i64 a.2.1.1, .int .i64 a.2.1.2, .int .i64 a.2.2.1, .int .i64 a.2.2.2] 25)).alloc (.cells #[.int .i64 b.1.1, .int .i64 b.1.2, .int .i64 b.2.1.1, .int .i64 b.2.1.2, .int .i64 b.2.2.1, .int .i64 b.2.2.2] 25)).alloc (.cells #[.int .i64 0, .int .i64 0, .int .i64 0, .int .i64 0, .int .i64 0, .int .i64 0] 25)) [(w.heap.size + 1 + 1, vobj (vl v30)), (w.heap.size + 1, vobj (vl b)), (w.heap.size, vobj (vl a))] := ((((Kv.start w).al (vobj (vl a)) (n := w.heap.size) (by simp)).al (vobj (vl b)) (n := w.heap.size + 1) (by simp)).al (vobj (vl v30)) (n := w.heap.size + 1 + 1) (by simp))
    have gR : w.heap.size ≤ w.heap.size + 1 + 1 := by omega
    have nR_a : w.heap.size + 1 + 1 ≠ w.heap.size := by omega
    have nR_b : w.heap.size + 1 + 1 ≠ w.heap.size + 1 := by omega
    go_enter Tryz.func9, Tryz.ntmps9
    obtain ⟨ca0, ca1, ca2, ca3, ca4, ca5⟩ := vobj_six (hK.blk _ (List.Mem.tail _ (List.Mem.tail _ (List.Mem.head _))))
    have la := lt_of_block (hK.blk _ (List.Mem.tail _ (List.Mem.tail _ (List.Mem.head _))))
    go_wp2_with fail
    refine (ref6_Right_bad Ha.out _).mono ?_; rintro e w1 ⟨rfl, hb⟩
    replace hK := hK.on hb
    clear ca0 ca1 ca2 ca3 ca4 ca5 la hb
    obtain ⟨cR0, cR1, cR2, cR3, cR4, cR5⟩ := vobj_six (hK.blk _ (List.Mem.head _))
    simp only [v30] at cR0 cR1 cR2 cR3 cR4 cR5
    have lR := lt_of_block (hK.blk _ (List.Mem.head _))
    have fR0 := vobj_free (hK.blk _ (List.Mem.head _)) 0
    have fR1 := vobj_free (hK.blk _ (List.Mem.head _)) 1
    have fR2 := vobj_free (hK.blk _ (List.Mem.head _)) 2
    have fR3 := vobj_free (hK.blk _ (List.Mem.head _)) 3
    have fR4 := vobj_free (hK.blk _ (List.Mem.head _)) 4
    have fR5 := vobj_free (hK.blk _ (List.Mem.head _)) 5
    replace hK : Kv w ((((((w1.setCell ⟨w.heap.size + 1 + 1, 0, none⟩ (.int .i64 0)).setCell ⟨w.heap.size + 1 + 1, 1, none⟩ (.int .i64 0)).setCell ⟨w.heap.size + 1 + 1, 2, none⟩ (.int .i64 0)).setCell ⟨w.heap.size + 1 + 1, 3, none⟩ (.int .i64 0)).setCell ⟨w.heap.size + 1 + 1, 4, none⟩ (.int .i64 0)).setCell ⟨w.heap.size + 1 + 1, 5, none⟩ (.int .i64 0)) [(w.heap.size + 1 + 1, vobj (vl v30)), (w.heap.size + 1, vobj (vl b)), (w.heap.size, vobj (vl a))] := hK.seta (a := v30) (cs := [(w.heap.size + 1 + 1, vobj (vl v30)), (w.heap.size + 1, vobj (vl b)), (w.heap.size, vobj (vl a))]) (List.Mem.head _) gR v30 (List.forall_mem_cons.2 ⟨.inl rfl, (List.forall_mem_cons.2 ⟨.inr ⟨(List.Mem.tail _ (List.Mem.head _)), (Ne.symm nR_b)⟩, (List.forall_mem_cons.2 ⟨.inr ⟨(List.Mem.tail _ (List.Mem.tail _ (List.Mem.head _))), (Ne.symm nR_a)⟩, (List.forall_mem_nil _)⟩)⟩)⟩)
    have HKK := Lib.hid hK
    clear hK
    go_wp2_with fail
    have hK := HKK.out
    have gs := vobj_six (hK.blk _ (List.Mem.head _))
    simp only [v30] at gs
    obtain ⟨r0, r1, r2, r3, r4, r5⟩ := gs
    exact bodyPost_ret (v := .tuple #[.agg #[.int .i64 0, .int .i64 0, .int .i64 0, .int .i64 0, .int .i64 0, .int .i64 0], .int .i64 20]) (by simp [results, Tryz.results9, go_sem, r0, r1, r2, r3, r4, r5]) rfl ⟨by rw [← HE.out] <;> rfl, hK.bel⟩
set_option maxRecDepth 100000 in
set_option maxHeartbeats 600000 in
theorem ref6_Sub (a : V3) (b : V3) (w : World) : Calls Tryz.prog 11 #[.agg #[.int .i64 a.1.1, .int .i64 a.1.2, .int .i64 a.2.1.1, .int .i64 a.2.1.2, .int .i64 a.2.2.1, .int .i64 a.2.2.2], .agg #[.int .i64 b.1.1, .int .i64 b.1.2, .int .i64 b.2.1.1, .int .i64 b.2.1.2, .int .i64 b.2.2.1, .int .i64 b.2.2.2]] w fun e w' => e = .returned (.tuple #[.agg #[.int .i64 (vSub a b).1.1.1, .int .i64 (vSub a b).1.1.2, .int .i64 (vSub a b).1.2.1.1, .int .i64 (vSub a b).1.2.1.2, .int .i64 (vSub a b).1.2.2.1, .int .i64 (vSub a b).1.2.2.2], .int .i64 (vSub a b).2]) ∧ Below w.heap.size w w' := by
  obtain ⟨q, hq⟩ : ∃ q, vSub a b = q := ⟨_, rfl⟩
  rw [hq]
  have HQ := Lib.hid hq
  clear hq
  by_cases ha : okV a
  · by_cases hb : okV b
    · have HV := Lib.hid (show rVec (sSub a.1 b.1) (sSub a.2.1 b.2.1) (sSub a.2.2 b.2.2) = q from (vop_ok ha hb).symm.trans HQ.out)
      have Ha := Lib.hid ha
      have Hb := Lib.hid hb
      clear ha hb HQ
      have hK : Kv w (((w.alloc (.cells #[.int .i64 a.1.1, .int .i64 a.1.2, .int .i64 a.2.1.1, .int .i64 a.2.1.2, .int .i64 a.2.2.1, .int .i64 a.2.2.2] 25)).alloc (.cells #[.int .i64 b.1.1, .int .i64 b.1.2, .int .i64 b.2.1.1, .int .i64 b.2.1.2, .int .i64 b.2.2.1, .int .i64 b.2.2.2] 25)).alloc (.cells #[.int .i64 0, .int .i64 0, .int .i64 0, .int .i64 0, .int .i64 0, .int .i64 0] 25)) [(w.heap.size + 1 + 1, vobj (vl v30)), (w.heap.size + 1, vobj (vl b)), (w.heap.size, vobj (vl a))] := ((((Kv.start w).al (vobj (vl a)) (n := w.heap.size) (by simp)).al (vobj (vl b)) (n := w.heap.size + 1) (by simp)).al (vobj (vl v30)) (n := w.heap.size + 1 + 1) (by simp))
      have gR : w.heap.size ≤ w.heap.size + 1 + 1 := by omega
      have nR_a : w.heap.size + 1 + 1 ≠ w.heap.size := by omega
      have nR_b : w.heap.size + 1 + 1 ≠ w.heap.size + 1 := by omega
      go_enter Tryz.func11, Tryz.ntmps11
      obtain ⟨ca0, ca1, ca2, ca3, ca4, ca5⟩ := vobj_six (hK.blk _ (List.Mem.tail _ (List.Mem.tail _ (List.Mem.head _))))
      have la := lt_of_block (hK.blk _ (List.Mem.tail _ (List.Mem.tail _ (List.Mem.head _))))
      go_wp2_with fail
      refine (ref6_Right_ok Ha.out _).mono ?_; rintro e w1 ⟨rfl, hb⟩
      replace hK := hK.on hb
      clear ca0 ca1 ca2 ca3 ca4 ca5 la hb
      obtain ⟨cb0, cb1, cb2, cb3, cb4, cb5⟩ := vobj_six (hK.blk _ (List.Mem.tail _ (List.Mem.head _)))
      have lb := lt_of_block (hK.blk _ (List.Mem.tail _ (List.Mem.head _)))
      go_wp2_with fail
      refine (ref6_Right_ok Hb.out _).mono ?_; rintro e w2 ⟨rfl, hb⟩
      replace hK := hK.on hb
      clear cb0 cb1 cb2 cb3 cb4 cb5 lb hb
      obtain ⟨ca0, ca1, ca2, ca3, ca4, ca5⟩ := vobj_six (hK.blk _ (List.Mem.tail _ (List.Mem.tail _ (List.Mem.head _))))
      have la := lt_of_block (hK.blk _ (List.Mem.tail _ (List.Mem.tail _ (List.Mem.head _))))
      obtain ⟨cb0, cb1, cb2, cb3, cb4, cb5⟩ := vobj_six (hK.blk _ (List.Mem.tail _ (List.Mem.head _)))
      have lb := lt_of_block (hK.blk _ (List.Mem.tail _ (List.Mem.head _)))
      go_wp2_with fail
      refine (ref2_Sub a.1 b.1 _).mono ?_; rintro e w3 ⟨rfl, hb⟩
      replace hK := hK.on hb
      clear ca0 ca1 ca2 ca3 ca4 ca5 la cb0 cb1 cb2 cb3 cb4 cb5 lb hb
      have nx6_R : w3.heap.size ≠ w.heap.size + 1 + 1 := by have h := lt_of_block (hK.blk _ (List.Mem.head _)); first | exact Nat.ne_of_gt h | (simp at h; omega)
      replace hK : Kv w (w3.alloc (.cells #[.int .i64 (sSub a.1 b.1).1.1, .int .i64 (sSub a.1 b.1).1.2] 23)) [(w3.heap.size, .cells #[.int .i64 (sSub a.1 b.1).1.1, .int .i64 (sSub a.1 b.1).1.2] 23 (0, 0)), (w.heap.size + 1 + 1, vobj (vl v30)), (w.heap.size + 1, vobj (vl b)), (w.heap.size, vobj (vl a))] := hK.al (.cells #[.int .i64 (sSub a.1 b.1).1.1, .int .i64 (sSub a.1 b.1).1.2] 23 (0, 0)) (n := w3.heap.size) (by simp)
      obtain ⟨ca0, ca1, ca2, ca3, ca4, ca5⟩ := vobj_six (hK.blk _ (List.Mem.tail _ (List.Mem.tail _ (List.Mem.tail _ (List.Mem.head _)))))
      have la := lt_of_block (hK.blk _ (List.Mem.tail _ (List.Mem.tail _ (List.Mem.tail _ (List.Mem.head _)))))
      obtain ⟨cb0, cb1, cb2, cb3, cb4, cb5⟩ := vobj_six (hK.blk _ (List.Mem.tail _ (List.Mem.tail _ (List.Mem.head _))))
      have lb := lt_of_block (hK.blk _ (List.Mem.tail _ (List.Mem.tail _ (List.Mem.head _))))
      go_wp2_with fail
      refine (ref2_Sub a.2.1 b.2.1 _).mono ?_; rintro e w4 ⟨rfl, hb⟩
      replace hK := hK.on hb
      clear ca0 ca1 ca2 ca3 ca4 ca5 la cb0 cb1 cb2 cb3 cb4 cb5 lb hb
      have nx8_R : w4.heap.size ≠ w.heap.size + 1 + 1 := by have h := lt_of_block (hK.blk _ (List.Mem.tail _ (List.Mem.head _))); first | exact Nat.ne_of_gt h | (simp at h; omega)
      replace hK : Kv w (w4.alloc (.cells #[.int .i64 (sSub a.2.1 b.2.1).1.1, .int .i64 (sSub a.2.1 b.2.1).1.2] 23)) [(w4.heap.size, .cells #[.int .i64 (sSub a.2.1 b.2.1).1.1, .int .i64 (sSub a.2.1 b.2.1).1.2] 23 (0, 0)), (w3.heap.size, .cells #[.int .i64 (sSub a.1 b.1).1.1, .int .i64 (sSub a.1 b.1).1.2] 23 (0, 0)), (w.heap.size + 1 + 1, vobj (vl v30)), (w.heap.size + 1, vobj (vl b)), (w.heap.size, vobj (vl a))] := hK.al (.cells #[.int .i64 (sSub a.2.1 b.2.1).1.1, .int .i64 (sSub a.2.1 b.2.1).1.2] 23 (0, 0)) (n := w4.heap.size) (by simp)
      obtain ⟨ca0, ca1, ca2, ca3, ca4, ca5⟩ := vobj_six (hK.blk _ (List.Mem.tail _ (List.Mem.tail _ (List.Mem.tail _ (List.Mem.tail _ (List.Mem.head _))))))
      have la := lt_of_block (hK.blk _ (List.Mem.tail _ (List.Mem.tail _ (List.Mem.tail _ (List.Mem.tail _ (List.Mem.head _))))))
      obtain ⟨cb0, cb1, cb2, cb3, cb4, cb5⟩ := vobj_six (hK.blk _ (List.Mem.tail _ (List.Mem.tail _ (List.Mem.tail _ (List.Mem.head _)))))
      have lb := lt_of_block (hK.blk _ (List.Mem.tail _ (List.Mem.tail _ (List.Mem.tail _ (List.Mem.head _)))))
      go_wp2_with fail
      refine (ref2_Sub a.2.2 b.2.2 _).mono ?_; rintro e w5 ⟨rfl, hb⟩
      replace hK := hK.on hb
      clear ca0 ca1 ca2 ca3 ca4 ca5 la cb0 cb1 cb2 cb3 cb4 cb5 lb hb
      have nx10_R : w5.heap.size ≠ w.heap.size + 1 + 1 := by have h := lt_of_block (hK.blk _ (List.Mem.tail _ (List.Mem.tail _ (List.Mem.head _)))); first | exact Nat.ne_of_gt h | (simp at h; omega)
      replace hK : Kv w (w5.alloc (.cells #[.int .i64 (sSub a.2.2 b.2.2).1.1, .int .i64 (sSub a.2.2 b.2.2).1.2] 23)) [(w5.heap.size, .cells #[.int .i64 (sSub a.2.2 b.2.2).1.1, .int .i64 (sSub a.2.2 b.2.2).1.2] 23 (0, 0)), (w4.heap.size, .cells #[.int .i64 (sSub a.2.1 b.2.1).1.1, .int .i64 (sSub a.2.1 b.2.1).1.2] 23 (0, 0)), (w3.heap.size, .cells #[.int .i64 (sSub a.1 b.1).1.1, .int .i64 (sSub a.1 b.1).1.2] 23 (0, 0)), (w.heap.size + 1 + 1, vobj (vl v30)), (w.heap.size + 1, vobj (vl b)), (w.heap.size, vobj (vl a))] := hK.al (.cells #[.int .i64 (sSub a.2.2 b.2.2).1.1, .int .i64 (sSub a.2.2 b.2.2).1.2] 23 (0, 0)) (n := w5.heap.size) (by simp)
      have cx60 := cell_two0 (hK.blk _ (List.Mem.tail _ (List.Mem.tail _ (List.Mem.head _))))
      have cx61 := cell_two1 (hK.blk _ (List.Mem.tail _ (List.Mem.tail _ (List.Mem.head _))))
      have lx6 := lt_of_block (hK.blk _ (List.Mem.tail _ (List.Mem.tail _ (List.Mem.head _))))
      have cx80 := cell_two0 (hK.blk _ (List.Mem.tail _ (List.Mem.head _)))
      have cx81 := cell_two1 (hK.blk _ (List.Mem.tail _ (List.Mem.head _)))
      have lx8 := lt_of_block (hK.blk _ (List.Mem.tail _ (List.Mem.head _)))
      have cx100 := cell_two0 (hK.blk _ (List.Mem.head _))
      have cx101 := cell_two1 (hK.blk _ (List.Mem.head _))
      have lx10 := lt_of_block (hK.blk _ (List.Mem.head _))
      go_wp2_with fail
      refine (ref6_vector (sSub a.1 b.1) (sSub a.2.1 b.2.1) (sSub a.2.2 b.2.2) _).mono ?_; rintro e w6 ⟨rfl, hb⟩
      replace hK := hK.on hb
      clear cx60 cx61 lx6 cx80 cx81 lx8 cx100 cx101 lx10 hb
      rw [HV.out]
      obtain ⟨cR0, cR1, cR2, cR3, cR4, cR5⟩ := vobj_six (hK.blk _ (List.Mem.tail _ (List.Mem.tail _ (List.Mem.tail _ (List.Mem.head _)))))
      simp only [v30] at cR0 cR1 cR2 cR3 cR4 cR5
      have lR := lt_of_block (hK.blk _ (List.Mem.tail _ (List.Mem.tail _ (List.Mem.tail _ (List.Mem.head _)))))
      have fR0 := vobj_free (hK.blk _ (List.Mem.tail _ (List.Mem.tail _ (List.Mem.tail _ (List.Mem.head _))))) 0
      have fR1 := vobj_free (hK.blk _ (List.Mem.tail _ (List.Mem.tail _ (List.Mem.tail _ (List.Mem.head _))))) 1
      have fR2 := vobj_free (hK.blk _ (List.Mem.tail _ (List.Mem.tail _ (List.Mem.tail _ (List.Mem.head _))))) 2
      have fR3 := vobj_free (hK.blk _ (List.Mem.tail _ (List.Mem.tail _ (List.Mem.tail _ (List.Mem.head _))))) 3
      have fR4 := vobj_free (hK.blk _ (List.Mem.tail _ (List.Mem.tail _ (List.Mem.tail _ (List.Mem.head _))))) 4
      have fR5 := vobj_free (hK.blk _ (List.Mem.tail _ (List.Mem.tail _ (List.Mem.tail _ (List.Mem.head _))))) 5
      replace hK : Kv w ((((((w6.setCell ⟨w.heap.size + 1 + 1, 0, none⟩ (.int .i64 q.1.1.1)).setCell ⟨w.heap.size + 1 + 1, 1, none⟩ (.int .i64 q.1.1.2)).setCell ⟨w.heap.size + 1 + 1, 2, none⟩ (.int .i64 q.1.2.1.1)).setCell ⟨w.heap.size + 1 + 1, 3, none⟩ (.int .i64 q.1.2.1.2)).setCell ⟨w.heap.size + 1 + 1, 4, none⟩ (.int .i64 q.1.2.2.1)).setCell ⟨w.heap.size + 1 + 1, 5, none⟩ (.int .i64 q.1.2.2.2)) [(w5.heap.size, .cells #[.int .i64 (sSub a.2.2 b.2.2).1.1, .int .i64 (sSub a.2.2 b.2.2).1.2] 23 (0, 0)), (w4.heap.size, .cells #[.int .i64 (sSub a.2.1 b.2.1).1.1, .int .i64 (sSub a.2.1 b.2.1).1.2] 23 (0, 0)), (w3.heap.size, .cells #[.int .i64 (sSub a.1 b.1).1.1, .int .i64 (sSub a.1 b.1).1.2] 23 (0, 0)), (w.heap.size + 1 + 1, vobj (vl q.1)), (w.heap.size + 1, vobj (vl b)), (w.heap.size, vobj (vl a))] := hK.seta (a := v30) (cs := [(w5.heap.size, .cells #[.int .i64 (sSub a.2.2 b.2.2).1.1, .int .i64 (sSub a.2.2 b.2.2).1.2] 23 (0, 0)), (w4.heap.size, .cells #[.int .i64 (sSub a.2.1 b.2.1).1.1, .int .i64 (sSub a.2.1 b.2.1).1.2] 23 (0, 0)), (w3.heap.size, .cells #[.int .i64 (sSub a.1 b.1).1.1, .int .i64 (sSub a.1 b.1).1.2] 23 (0, 0)), (w.heap.size + 1 + 1, vobj (vl q.1)), (w.heap.size + 1, vobj (vl b)), (w.heap.size, vobj (vl a))]) (List.Mem.tail _ (List.Mem.tail _ (List.Mem.tail _ (List.Mem.head _)))) gR q.1 (List.forall_mem_cons.2 ⟨.inr ⟨(List.Mem.head _), nx10_R⟩, (List.forall_mem_cons.2 ⟨.inr ⟨(List.Mem.tail _ (List.Mem.head _)), nx8_R⟩, (List.forall_mem_cons.2 ⟨.inr ⟨(List.Mem.tail _ (List.Mem.tail _ (List.Mem.head _))), nx6_R⟩, (List.forall_mem_cons.2 ⟨.inl rfl, (List.forall_mem_cons.2 ⟨.inr ⟨(List.Mem.tail _ (List.Mem.tail _ (List.Mem.tail _ (List.Mem.tail _ (List.Mem.head _))))), (Ne.symm nR_b)⟩, (List.forall_mem_cons.2 ⟨.inr ⟨(List.Mem.tail _ (List.Mem.tail _ (List.Mem.tail _ (List.Mem.tail _ (List.Mem.tail _ (List.Mem.head _)))))), (Ne.symm nR_a)⟩, (List.forall_mem_nil _)⟩)⟩)⟩)⟩)⟩)⟩)
      have HKK := Lib.hid hK
      clear hK
      go_wp2_with fail
      have hK := HKK.out
      have gs := vobj_six (hK.blk _ (List.Mem.tail _ (List.Mem.tail _ (List.Mem.tail _ (List.Mem.head _)))))
      try dsimp only at gs
      obtain ⟨r0, r1, r2, r3, r4, r5⟩ := gs
      exact bodyPost_ret (v := .tuple #[.agg #[.int .i64 q.1.1.1, .int .i64 q.1.1.2, .int .i64 q.1.2.1.1, .int .i64 q.1.2.1.2, .int .i64 q.1.2.2.1, .int .i64 q.1.2.2.2], .int .i64 q.2]) (by simp [results, Tryz.results11, go_sem, r0, r1, r2, r3, r4, r5]) rfl ⟨rfl, hK.bel⟩
    · have HE := Lib.hid (show (v30, (20 : Int)) = q from (vop_bad (fun g => hb g.2)).symm.trans HQ.out)
      have Ha := Lib.hid ha
      have Hb := Lib.hid hb
      clear ha hb HQ
      have hK : Kv w (((w.alloc (.cells #[.int .i64 a.1.1, .int .i64 a.1.2, .int .i64 a.2.1.1, .int .i64 a.2.1.2, .int .i64 a.2.2.1, .int .i64 a.2.2.2] 25)).alloc (.cells #[.int .i64 b.1.1, .int .i64 b.1.2, .int .i64 b.2.1.1, .int .i64 b.2.1.2, .int .i64 b.2.2.1, .int .i64 b.2.2.2] 25)).alloc (.cells #[.int .i64 0, .int .i64 0, .int .i64 0, .int .i64 0, .int .i64 0, .int .i64 0] 25)) [(w.heap.size + 1 + 1, vobj (vl v30)), (w.heap.size + 1, vobj (vl b)), (w.heap.size, vobj (vl a))] := ((((Kv.start w).al (vobj (vl a)) (n := w.heap.size) (by simp)).al (vobj (vl b)) (n := w.heap.size + 1) (by simp)).al (vobj (vl v30)) (n := w.heap.size + 1 + 1) (by simp))
      have gR : w.heap.size ≤ w.heap.size + 1 + 1 := by omega
      have nR_a : w.heap.size + 1 + 1 ≠ w.heap.size := by omega
      have nR_b : w.heap.size + 1 + 1 ≠ w.heap.size + 1 := by omega
      go_enter Tryz.func11, Tryz.ntmps11
      obtain ⟨ca0, ca1, ca2, ca3, ca4, ca5⟩ := vobj_six (hK.blk _ (List.Mem.tail _ (List.Mem.tail _ (List.Mem.head _))))
      have la := lt_of_block (hK.blk _ (List.Mem.tail _ (List.Mem.tail _ (List.Mem.head _))))
      go_wp2_with fail
      refine (ref6_Right_ok Ha.out _).mono ?_; rintro e w1 ⟨rfl, hb⟩
      replace hK := hK.on hb
      clear ca0 ca1 ca2 ca3 ca4 ca5 la hb
      obtain ⟨cb0, cb1, cb2, cb3, cb4, cb5⟩ := vobj_six (hK.blk _ (List.Mem.tail _ (List.Mem.head _)))
      have lb := lt_of_block (hK.blk _ (List.Mem.tail _ (List.Mem.head _)))
      go_wp2_with fail
      refine (ref6_Right_bad Hb.out _).mono ?_; rintro e w2 ⟨rfl, hb⟩
      replace hK := hK.on hb
      clear cb0 cb1 cb2 cb3 cb4 cb5 lb hb
      obtain ⟨cR0, cR1, cR2, cR3, cR4, cR5⟩ := vobj_six (hK.blk _ (List.Mem.head _))
      simp only [v30] at cR0 cR1 cR2 cR3 cR4 cR5
      have lR := lt_of_block (hK.blk _ (List.Mem.head _))
      have fR0 := vobj_free (hK.blk _ (List.Mem.head _)) 0
      have fR1 := vobj_free (hK.blk _ (List.Mem.head _)) 1
      have fR2 := vobj_free (hK.blk _ (List.Mem.head _)) 2
      have fR3 := vobj_free (hK.blk _ (List.Mem.head _)) 3
      have fR4 := vobj_free (hK.blk _ (List.Mem.head _)) 4
      have fR5 := vobj_free (hK.blk _ (List.Mem.head _)) 5
      replace hK : Kv w ((((((w2.setCell ⟨w.heap.size + 1 + 1, 0, none⟩ (.int .i64 0)).setCell ⟨w.heap.size + 1 + 1, 1, none⟩ (.int .i64 0)).setCell ⟨w.heap.size + 1 + 1, 2, none⟩ (.int .i64 0)).setCell ⟨w.heap.size + 1 + 1, 3, none⟩ (.int .i64 0)).setCell ⟨w.heap.size + 1 + 1, 4, none⟩ (.int .i64 0)).setCell ⟨w.heap.size + 1 + 1, 5, none⟩ (.int .i64 0)) [(w.heap.size + 1 + 1, vobj (vl v30)), (w.heap.size + 1, vobj (vl b)), (w.heap.size, vobj (vl a))] := hK.seta (a := v30) (cs := [(w.heap.size + 1 + 1, vobj (vl v30)), (w.heap.size + 1, vobj (vl b)), (w.heap.size, vobj (vl a))]) (List.Mem.head _) gR v30 (List.forall_mem_cons.2 ⟨.inl rfl, (List.forall_mem_cons.2 ⟨.inr ⟨(List.Mem.tail _ (List.Mem.head _)), (Ne.symm nR_b)⟩, (List.forall_mem_cons.2 ⟨.inr ⟨(List.Mem.tail _ (List.Mem.tail _ (List.Mem.head _))), (Ne.symm nR_a)⟩, (List.forall_mem_nil _)⟩)⟩)⟩)
      have HKK := Lib.hid hK
      clear hK
      go_wp2_with fail
      have hK := HKK.out
      have gs := vobj_six (hK.blk _ (List.Mem.head _))
      simp only [v30] at gs
      obtain ⟨r0, r1, r2, r3, r4, r5⟩ := gs
      exact bodyPost_ret (v := .tuple #[.agg #[.int .i64 0, .int .i64 0, .int .i64 0, .int .i64 0, .int .i64 0, .int .i64 0], .int .i64 20]) (by simp [results, Tryz.results11, go_sem, r0, r1, r2, r3, r4, r5]) rfl ⟨by rw [← HE.out] <;> rfl, hK.bel⟩
  · have HE := Lib.hid (show (v30, (20 : Int)) = q from (vop_bad (fun g => ha g.1)).symm.trans HQ.out)
    have Ha := Lib.hid ha
    clear ha HQ
    have hK : Kv w (((w.alloc (.cells #[.int .i64 a.1.1, .int .i64 a.1.2, .int .i64 a.2.1.1, .int .i64 a.2.1.2, .int .i64 a.2.2.1, .int .i64 a.2.2.2] 25)).alloc (.cells #[.int .i64 b.1.1, .int .i64 b.1.2, .int .i64 b.2.1.1, .int .i64 b.2.1.2, .int .i64 b.2.2.1, .int .i64 b.2.2.2] 25)).alloc (.cells #[.int .i64 0, .int .i64 0, .int .i64 0, .int .i64 0, .int .i64 0, .int .i64 0] 25)) [(w.heap.size + 1 + 1, vobj (vl v30)), (w.heap.size + 1, vobj (vl b)), (w.heap.size, vobj (vl a))] := ((((Kv.start w).al (vobj (vl a)) (n := w.heap.size) (by simp)).al (vobj (vl b)) (n := w.heap.size + 1) (by simp)).al (vobj (vl v30)) (n := w.heap.size + 1 + 1) (by simp))
    have gR : w.heap.size ≤ w.heap.size + 1 + 1 := by omega
    have nR_a : w.heap.size + 1 + 1 ≠ w.heap.size := by omega
    have nR_b : w.heap.size + 1 + 1 ≠ w.heap.size + 1 := by omega
    go_enter Tryz.func11, Tryz.ntmps11
    obtain ⟨ca0, ca1, ca2, ca3, ca4, ca5⟩ := vobj_six (hK.blk _ (List.Mem.tail _ (List.Mem.tail _ (List.Mem.head _))))
    have la := lt_of_block (hK.blk _ (List.Mem.tail _ (List.Mem.tail _ (List.Mem.head _))))
    go_wp2_with fail
    refine (ref6_Right_bad Ha.out _).mono ?_; rintro e w1 ⟨rfl, hb⟩
    replace hK := hK.on hb
    clear ca0 ca1 ca2 ca3 ca4 ca5 la hb
    obtain ⟨cR0, cR1, cR2, cR3, cR4, cR5⟩ := vobj_six (hK.blk _ (List.Mem.head _))
    simp only [v30] at cR0 cR1 cR2 cR3 cR4 cR5
    have lR := lt_of_block (hK.blk _ (List.Mem.head _))
    have fR0 := vobj_free (hK.blk _ (List.Mem.head _)) 0
    have fR1 := vobj_free (hK.blk _ (List.Mem.head _)) 1
    have fR2 := vobj_free (hK.blk _ (List.Mem.head _)) 2
    have fR3 := vobj_free (hK.blk _ (List.Mem.head _)) 3
    have fR4 := vobj_free (hK.blk _ (List.Mem.head _)) 4
    have fR5 := vobj_free (hK.blk _ (List.Mem.head _)) 5
    replace hK : Kv w ((((((w1.setCell ⟨w.heap.size + 1 + 1, 0, none⟩ (.int .i64 0)).setCell ⟨w.heap.size + 1 + 1, 1, none⟩ (.int .i64 0)).setCell ⟨w.heap.size + 1 + 1, 2, none⟩ (.int .i64 0)).setCell ⟨w.heap.size + 1 + 1, 3, none⟩ (.int .i64 0)).setCell ⟨w.heap.size + 1 + 1, 4, none⟩ (.int .i64 0)).setCell ⟨w.heap.size + 1 + 1, 5, none⟩ (.int .i64 0)) [(w.heap.size + 1 + 1, vobj (vl v30)), (w.heap.size + 1, vobj (vl b)), (w.heap.size, vobj (vl a))] := hK.seta (a := v30) (cs := [(w.heap.size + 1 + 1, vobj (vl v30)), (w.heap.size + 1, vobj (vl b)), (w.heap.size, vobj (vl a))]) (List.Mem.head _) gR v30 (List.forall_mem_cons.2 ⟨.inl rfl, (List.forall_mem_cons.2 ⟨.inr ⟨(List.Mem.tail _ (List.Mem.head _)), (Ne.symm nR_b)⟩, (List.forall_mem_cons.2 ⟨.inr ⟨(List.Mem.tail _ (List.Mem.tail _ (List.Mem.head _))), (Ne.symm nR_a)⟩, (List.forall_mem_nil _)⟩)⟩)⟩)
    have HKK := Lib.hid hK
    clear hK
    go_wp2_with fail
    have hK := HKK.out
    have gs := vobj_six (hK.blk _ (List.Mem.head _))
    simp only [v30] at gs
    obtain ⟨r0, r1, r2, r3, r4, r5⟩ := gs
    exact bodyPost_ret (v := .tuple #[.agg #[.int .i64 0, .int .i64 0, .int .i64 0, .int .i64 0, .int .i64 0, .int .i64 0], .int .i64 20]) (by simp [results, Tryz.results11, go_sem, r0, r1, r2, r3, r4, r5]) rfl ⟨by rw [← HE.out] <;> rfl, hK.bel⟩
set_option maxRecDepth 100000 in
set_option maxHeartbeats 600000 in
theorem ref6_Scale (a : V3) (b : Int × Int) (w : World) : Calls Tryz.prog 18 #[.agg #[.int .i64 a.1.1, .int .i64 a.1.2, .int .i64 a.2.1.1, .int .i64 a.2.1.2, .int .i64 a.2.2.1, .int .i64 a.2.2.2], .agg #[.int .i64 b.1, .int .i64 b.2]] w fun e w' => e = .returned (.tuple #[.agg #[.int .i64 (vScale a b).1.1.1, .int .i64 (vScale a b).1.1.2, .int .i64 (vScale a b).1.2.1.1, .int .i64 (vScale a b).1.2.1.2, .int .i64 (vScale a b).1.2.2.1, .int .i64 (vScale a b).1.2.2.2], .int .i64 (vScale a b).2]) ∧ Below w.heap.size w w' := by
  obtain ⟨q, hq⟩ : ∃ q, vScale a b = q := ⟨_, rfl⟩
  rw [hq]
  have HQ := Lib.hid hq
  clear hq
  by_cases ha : okV a
  · by_cases hb : okS b
    · have HV := Lib.hid (show rVec (sMul a.1 b) (sMul a.2.1 b) (sMul a.2.2 b) = q from (vop_ok ha ⟨hb, hb, hb⟩).symm.trans HQ.out)
      have Ha := Lib.hid ha
      have Hb := Lib.hid hb
      clear ha hb HQ
      have hK : Kv w (((w.alloc (.cells #[.int .i64 a.1.1, .int .i64 a.1.2, .int .i64 a.2.1.1, .int .i64 a.2.1.2, .int .i64 a.2.2.1, .int .i64 a.2.2.2] 25)).alloc (.cells #[.int .i64 b.1, .int .i64 b.2] 23)).alloc (.cells #[.int .i64 0, .int .i64 0, .int .i64 0, .int .i64 0, .int .i64 0, .int .i64 0] 25)) [(w.heap.size + 1 + 1, vobj (vl v30)), (w.heap.size + 1, .cells #[.int .i64 b.1, .int .i64 b.2] 23 (0, 0)), (w.heap.size, vobj (vl a))] := ((((Kv.start w).al (vobj (vl a)) (n := w.heap.size) (by simp)).al (.cells #[.int .i64 b.1, .int .i64 b.2] 23 (0, 0)) (n := w.heap.size + 1) (by simp)).al (vobj (vl v30)) (n := w.heap.size + 1 + 1) (by simp))
      have gR : w.heap.size ≤ w.heap.size + 1 + 1 := by omega
      have nR_a : w.heap.size + 1 + 1 ≠ w.heap.size := by omega
      have nR_b : w.heap.size + 1 + 1 ≠ w.heap.size + 1 := by omega
      go_enter Tryz.func18, Tryz.ntmps18
      obtain ⟨ca0, ca1, ca2, ca3, ca4, ca5⟩ := vobj_six (hK.blk _ (List.Mem.tail _ (List.Mem.tail _ (List.Mem.head _))))
      have la := lt_of_block (hK.blk _ (List.Mem.tail _ (List.Mem.tail _ (List.Mem.head _))))
      go_wp2_with fail
      refine (ref6_Right_ok Ha.out _).mono ?_; rintro e w1 ⟨rfl, hb⟩
      replace hK := hK.on hb
      clear ca0 ca1 ca2 ca3 ca4 ca5 la hb
      have cb0 := cell_two0 (hK.blk _ (List.Mem.tail _ (List.Mem.head _)))
      have cb1 := cell_two1 (hK.blk _ (List.Mem.tail _ (List.Mem.head _)))
      have lb := lt_of_block (hK.blk _ (List.Mem.tail _ (List.Mem.head _)))
      go_wp2_with fail
      refine (ref2_Right_ok Hb.out _).mono ?_; rintro e w2 ⟨rfl, hb⟩
      replace hK := hK.on hb
      clear cb0 cb1 lb hb
      obtain ⟨ca0, ca1, ca2, ca3, ca4, ca5⟩ := vobj_six (hK.blk _ (List.Mem.tail _ (List.Mem.tail _ (List.Mem.head _))))
      have la := lt_of_block (hK.blk _ (List.Mem.tail _ (List.Mem.tail _ (List.Mem.head _))))
      have cb0 := cell_two0 (hK.blk _ (List.Mem.tail _ (List.Mem.head _)))
      have cb1 := cell_two1 (hK.blk _ (List.Mem.tail _ (List.Mem.head _)))
      have lb := lt_of_block (hK.blk _ (List.Mem.tail _ (List.Mem.head _)))
      go_wp2_with fail
      refine (ref2_Mul a.1 b _).mono ?_; rintro e w3 ⟨rfl, hb⟩
      replace hK := hK.on hb
      clear ca0 ca1 ca2 ca3 ca4 ca5 la cb0 cb1 lb hb
      have nx6_R : w3.heap.size ≠ w.heap.size + 1 + 1 := by have h := lt_of_block (hK.blk _ (List.Mem.head _)); first | exact Nat.ne_of_gt h | (simp at h; omega)
      replace hK : Kv w (w3.alloc (.cells #[.int .i64 (sMul a.1 b).1.1, .int .i64 (sMul a.1 b).1.2] 23)) [(w3.heap.size, .cells #[.int .i64 (sMul a.1 b).1.1, .int .i64 (sMul a.1 b).1.2] 23 (0, 0)), (w.heap.size + 1 + 1, vobj (vl v30)), (w.heap.size + 1, .cells #[.int .i64 b.1, .int .i64 b.2] 23 (0, 0)), (w.heap.size, vobj (vl a))] := hK.al (.cells #[.int .i64 (sMul a.1 b).1.1, .int .i64 (sMul a.1 b).1.2] 23 (0, 0)) (n := w3.heap.size) (by simp)
      obtain ⟨ca0, ca1, ca2, ca3, ca4, ca5⟩ := vobj_six (hK.blk _ (List.Mem.tail _ (List.Mem.tail _ (List.Mem.tail _ (List.Mem.head _)))))
      have la := lt_of_block (hK.blk _ (List.Mem.tail _ (List.Mem.tail _ (List.Mem.tail _ (List.Mem.head _)))))
      have cb0 := cell_two0 (hK.blk _ (List.Mem.tail _ (List.Mem.tail _ (List.Mem.head _))))
      have cb1 := cell_two1 (hK.blk _ (List.Mem.tail _ (List.Mem.tail _ (List.Mem.head _))))
      have lb := lt_of_block (hK.blk _ (List.Mem.tail _ (List.Mem.tail _ (List.Mem.head _))))
      go_wp2_with fail
      refine (ref2_Mul a.2.1 b _).mono ?_; rintro e w4 ⟨rfl, hb⟩
      replace hK := hK.on hb
      clear ca0 ca1 ca2 ca3 ca4 ca5 la cb0 cb1 lb hb
      have nx8_R : w4.heap.size ≠ w.heap.size + 1 + 1 := by have h := lt_of_block (hK.blk _ (List.Mem.tail _ (List.Mem.head _))); first | exact Nat.ne_of_gt h | (simp at h; omega)
      replace hK : Kv w (w4.alloc (.cells #[.int .i64 (sMul a.2.1 b).1.1, .int .i64 (sMul a.2.1 b).1.2] 23)) [(w4.heap.size, .cells #[.int .i64 (sMul a.2.1 b).1.1, .int .i64 (sMul a.2.1 b).1.2] 23 (0, 0)), (w3.heap.size, .cells #[.int .i64 (sMul a.1 b).1.1, .int .i64 (sMul a.1 b).1.2] 23 (0, 0)), (w.heap.size + 1 + 1, vobj (vl v30)), (w.heap.size + 1, .cells #[.int .i64 b.1, .int .i64 b.2] 23 (0, 0)), (w.heap.size, vobj (vl a))] := hK.al (.cells #[.int .i64 (sMul a.2.1 b).1.1, .int .i64 (sMul a.2.1 b).1.2] 23 (0, 0)) (n := w4.heap.size) (by simp)
      obtain ⟨ca0, ca1, ca2, ca3, ca4, ca5⟩ := vobj_six (hK.blk _ (List.Mem.tail _ (List.Mem.tail _ (List.Mem.tail _ (List.Mem.tail _ (List.Mem.head _))))))
      have la := lt_of_block (hK.blk _ (List.Mem.tail _ (List.Mem.tail _ (List.Mem.tail _ (List.Mem.tail _ (List.Mem.head _))))))
      have cb0 := cell_two0 (hK.blk _ (List.Mem.tail _ (List.Mem.tail _ (List.Mem.tail _ (List.Mem.head _)))))
      have cb1 := cell_two1 (hK.blk _ (List.Mem.tail _ (List.Mem.tail _ (List.Mem.tail _ (List.Mem.head _)))))
      have lb := lt_of_block (hK.blk _ (List.Mem.tail _ (List.Mem.tail _ (List.Mem.tail _ (List.Mem.head _)))))
      go_wp2_with fail
      refine (ref2_Mul a.2.2 b _).mono ?_; rintro e w5 ⟨rfl, hb⟩
      replace hK := hK.on hb
      clear ca0 ca1 ca2 ca3 ca4 ca5 la cb0 cb1 lb hb
      have nx10_R : w5.heap.size ≠ w.heap.size + 1 + 1 := by have h := lt_of_block (hK.blk _ (List.Mem.tail _ (List.Mem.tail _ (List.Mem.head _)))); first | exact Nat.ne_of_gt h | (simp at h; omega)
      replace hK : Kv w (w5.alloc (.cells #[.int .i64 (sMul a.2.2 b).1.1, .int .i64 (sMul a.2.2 b).1.2] 23)) [(w5.heap.size, .cells #[.int .i64 (sMul a.2.2 b).1.1, .int .i64 (sMul a.2.2 b).1.2] 23 (0, 0)), (w4.heap.size, .cells #[.int .i64 (sMul a.2.1 b).1.1, .int .i64 (sMul a.2.1 b).1.2] 23 (0, 0)), (w3.heap.size, .cells #[.int .i64 (sMul a.1 b).1.1, .int .i64 (sMul a.1 b).1.2] 23 (0, 0)), (w.heap.size + 1 + 1, vobj (vl v30)), (w.heap.size + 1, .cells #[.int .i64 b.1, .int .i64 b.2] 23 (0, 0)), (w.heap.size, vobj (vl a))] := hK.al (.cells #[.int .i64 (sMul a.2.2 b).1.1, .int .i64 (sMul a.2.2 b).1.2] 23 (0, 0)) (n := w5.heap.size) (by simp)
      have cx60 := cell_two0 (hK.blk _ (List.Mem.tail _ (List.Mem.tail _ (List.Mem.head _))))
      have cx61 := cell_two1 (hK.blk _ (List.Mem.tail _ (List.Mem.tail _ (List.Mem.head _))))
      have lx6 := lt_of_block (hK.blk _ (List.Mem.tail _ (List.Mem.tail _ (List.Mem.head _))))
      have cx80 := cell_two0 (hK.blk _ (List.Mem.tail _ (List.Mem.head _)))
      have cx81 := cell_two1 (hK.blk _ (List.Mem.tail _ (List.Mem.head _)))
      have lx8 := lt_of_block (hK.blk _ (List.Mem.tail _ (List.Mem.head _)))
      have cx100 := cell_two0 (hK.blk _ (List.Mem.head _))
      have cx101 := cell_two1 (hK.blk _ (List.Mem.head _))
      have lx10 := lt_of_block (hK.blk _ (List.Mem.head _))
      go_wp2_with fail
      refine (ref6_vector (sMul a.1 b) (sMul a.2.1 b) (sMul a.2.2 b) _).mono ?_; rintro e w6 ⟨rfl, hb⟩
      replace hK := hK.on hb
      clear cx60 cx61 lx6 cx80 cx81 lx8 cx100 cx101 lx10 hb
      rw [HV.out]
      obtain ⟨cR0, cR1, cR2, cR3, cR4, cR5⟩ := vobj_six (hK.blk _ (List.Mem.tail _ (List.Mem.tail _ (List.Mem.tail _ (List.Mem.head _)))))
      simp only [v30] at cR0 cR1 cR2 cR3 cR4 cR5
      have lR := lt_of_block (hK.blk _ (List.Mem.tail _ (List.Mem.tail _ (List.Mem.tail _ (List.Mem.head _)))))
      have fR0 := vobj_free (hK.blk _ (List.Mem.tail _ (List.Mem.tail _ (List.Mem.tail _ (List.Mem.head _))))) 0
      have fR1 := vobj_free (hK.blk _ (List.Mem.tail _ (List.Mem.tail _ (List.Mem.tail _ (List.Mem.head _))))) 1
      have fR2 := vobj_free (hK.blk _ (List.Mem.tail _ (List.Mem.tail _ (List.Mem.tail _ (List.Mem.head _))))) 2
      have fR3 := vobj_free (hK.blk _ (List.Mem.tail _ (List.Mem.tail _ (List.Mem.tail _ (List.Mem.head _))))) 3
      have fR4 := vobj_free (hK.blk _ (List.Mem.tail _ (List.Mem.tail _ (List.Mem.tail _ (List.Mem.head _))))) 4
      have fR5 := vobj_free (hK.blk _ (List.Mem.tail _ (List.Mem.tail _ (List.Mem.tail _ (List.Mem.head _))))) 5
      replace hK : Kv w ((((((w6.setCell ⟨w.heap.size + 1 + 1, 0, none⟩ (.int .i64 q.1.1.1)).setCell ⟨w.heap.size + 1 + 1, 1, none⟩ (.int .i64 q.1.1.2)).setCell ⟨w.heap.size + 1 + 1, 2, none⟩ (.int .i64 q.1.2.1.1)).setCell ⟨w.heap.size + 1 + 1, 3, none⟩ (.int .i64 q.1.2.1.2)).setCell ⟨w.heap.size + 1 + 1, 4, none⟩ (.int .i64 q.1.2.2.1)).setCell ⟨w.heap.size + 1 + 1, 5, none⟩ (.int .i64 q.1.2.2.2)) [(w5.heap.size, .cells #[.int .i64 (sMul a.2.2 b).1.1, .int .i64 (sMul a.2.2 b).1.2] 23 (0, 0)), (w4.heap.size, .cells #[.int .i64 (sMul a.2.1 b).1.1, .int .i64 (sMul a.2.1 b).1.2] 23 (0, 0)), (w3.heap.size, .cells #[.int .i64 (sMul a.1 b).1.1, .int .i64 (sMul a.1 b).1.2] 23 (0, 0)), (w.heap.size + 1 + 1, vobj (vl q.1)), (w.heap.size + 1, .cells #[.int .i64 b.1, .int .i64 b.2] 23 (0, 0)), (w.heap.size, vobj (vl a))] := hK.seta (a := v30) (cs := [(w5.heap.size, .cells #[.int .i64 (sMul a.2.2 b).1.1, .int .i64 (sMul a.2.2 b).1.2] 23 (0, 0)), (w4.heap.size, .cells #[.int .i64 (sMul a.2.1 b).1.1, .int .i64 (sMul a.2.1 b).1.2] 23 (0, 0)), (w3.heap.size, .cells #[.int .i64 (sMul a.1 b).1.1, .int .i64 (sMul a.1 b).1.2] 23 (0, 0)), (w.heap.size + 1 + 1, vobj (vl q.1)), (w.heap.size + 1, .cells #[.int .i64 b.1, .int .i64 b.2] 23 (0, 0)), (w.heap.size, vobj (vl a))]) (List.Mem.tail _ (List.Mem.tail _ (List.Mem.tail _ (List.Mem.head _)))) gR q.1 (List.forall_mem_cons.2 ⟨.inr ⟨(List.Mem.head _), nx10_R⟩, (List.forall_mem_cons.2 ⟨.inr ⟨(List.Mem.tail _ (List.Mem.head _)), nx8_R⟩, (List.forall_mem_cons.2 ⟨.inr ⟨(List.Mem.tail _ (List.Mem.tail _ (List.Mem.head _))), nx6_R⟩, (List.forall_mem_cons.2 ⟨.inl rfl, (List.forall_mem_cons.2 ⟨.inr ⟨(List.Mem.tail _ (List.Mem.tail _ (List.Mem.tail _ (List.Mem.tail _ (List.Mem.head _))))), (Ne.symm nR_b)⟩, (List.forall_mem_cons.2 ⟨.inr ⟨(List.Mem.tail _ (List.Mem.tail _ (List.Mem.tail _ (List.Mem.tail _ (List.Mem.tail _ (List.Mem.head _)))))), (Ne.symm nR_a)⟩, (List.forall_mem_nil _)⟩)⟩)⟩)⟩)⟩)⟩)
      have HKK := Lib.hid hK
      clear hK
      go_wp2_with fail
      have hK := HKK.out
      have gs := vobj_six (hK.blk _ (List.Mem.tail _ (List.Mem.tail _ (List.Mem.tail _ (List.Mem.head _)))))
      try dsimp only at gs
      obtain ⟨r0, r1, r2, r3, r4, r5⟩ := gs
      exact bodyPost_ret (v := .tuple #[.agg #[.int .i64 q.1.1.1, .int .i64 q.1.1.2, .int .i64 q.1.2.1.1, .int .i64 q.1.2.1.2, .int .i64 q.1.2.2.1, .int .i64 q.1.2.2.2], .int .i64 q.2]) (by simp [results, Tryz.results18, go_sem, r0, r1, r2, r3, r4, r5]) rfl ⟨rfl, hK.bel⟩
    · have HE := Lib.hid (show (v30, (20 : Int)) = q from (vop_bad (fun g => hb g.2.1)).symm.trans HQ.out)
      have Ha := Lib.hid ha
      have Hb := Lib.hid hb
      clear ha hb HQ
      have hK : Kv w (((w.alloc (.cells #[.int .i64 a.1.1, .int .i64 a.1.2, .int .i64 a.2.1.1, .int .i64 a.2.1.2, .int .i64 a.2.2.1, .int .i64 a.2.2.2] 25)).alloc (.cells #[.int .i64 b.1, .int .i64 b.2] 23)).alloc (.cells #[.int .i64 0, .int .i64 0, .int .i64 0, .int .i64 0, .int .i64 0, .int .i64 0] 25)) [(w.heap.size + 1 + 1, vobj (vl v30)), (w.heap.size + 1, .cells #[.int .i64 b.1, .int .i64 b.2] 23 (0, 0)), (w.heap.size, vobj (vl a))] := ((((Kv.start w).al (vobj (vl a)) (n := w.heap.size) (by simp)).al (.cells #[.int .i64 b.1, .int .i64 b.2] 23 (0, 0)) (n := w.heap.size + 1) (by simp)).al (vobj (vl v30)) (n := w.heap.size + 1 + 1) (by simp))
      have gR : w.heap.size ≤ w.heap.size + 1 + 1 := by omega
      have nR_a : w.heap.size + 1 + 1 ≠ w.heap.size := by omega
      have nR_b : w.heap.size + 1 + 1 ≠ w.heap.size + 1 := by omega
      go_enter Tryz.func18, Tryz.ntmps18
      obtain ⟨ca0, ca1, ca2, ca3, ca4, ca5⟩ := vobj_six (hK.blk _ (List.Mem.tail _ (List.Mem.tail _ (List.Mem.head _))))
      have la := lt_of_block (hK.blk _ (List.Mem.tail _ (List.Mem.tail _ (List.Mem.head _))))
      go_wp2_with fail
      refine (ref6_Right_ok Ha.out _).mono ?_; rintro e w1 ⟨rfl, hb⟩
      replace hK := hK.on hb
      clear ca0 ca1 ca2 ca3 ca4 ca5 la hb
      have cb0 := cell_two0 (hK.blk _ (List.Mem.tail _ (List.Mem.head _)))
      have cb1 := cell_two1 (hK.blk _ (List.Mem.tail _ (List.Mem.head _)))
      have lb := lt_of_block (hK.blk _ (List.Mem.tail _ (List.Mem.head _)))
      go_wp2_with fail
      refine (ref2_Right_bad Hb.out _).mono ?_; rintro e w2 ⟨rfl, hb⟩
      replace hK := hK.on hb
      clear cb0 cb1 lb hb
      obtain ⟨cR0, cR1, cR2, cR3, cR4, cR5⟩ := vobj_six (hK.blk _ (List.Mem.head _))
      simp only [v30] at cR0 cR1 cR2 cR3 cR4 cR5
      have lR := lt_of_block (hK.blk _ (List.Mem.head _))
      have fR0 := vobj_free (hK.blk _ (List.Mem.head _)) 0
      have fR1 := vobj_free (hK.blk _ (List.Mem.head _)) 1
      have fR2 := vobj_free (hK.blk _ (List.Mem.head _)) 2
      have fR3 := vobj_free (hK.blk _ (List.Mem.head _)) 3
      have fR4 := vobj_free (hK.blk _ (List.Mem.head _)) 4
      have fR5 := vobj_free (hK.blk _ (List.Mem.head _)) 5
      replace hK : Kv w ((((((w2.setCell ⟨w.heap.size + 1 + 1, 0, none⟩ (.int .i64 0)).setCell ⟨w.heap.size + 1 + 1, 1, none⟩ (.int .i64 0)).setCell ⟨w.heap.size + 1 + 1, 2, none⟩ (.int .i64 0)).setCell ⟨w.heap.size + 1 + 1, 3, none⟩ (.int .i64 0)).setCell ⟨w.heap.size + 1 + 1, 4, none⟩ (.int .i64 0)).setCell ⟨w.heap.size + 1 + 1, 5, none⟩ (.int .i64 0)) [(w.heap.size + 1 + 1, vobj (vl v30)), (w.heap.size + 1, .cells #[.int .i64 b.1, .int .i64 b.2] 23 (0, 0)), (w.heap.size, vobj (vl a))] := hK.seta (a := v30) (cs := [(w.heap.size + 1 + 1, vobj (vl v30)), (w.heap.size + 1, .cells #[.int .i64 b.1, .int .i64 b.2] 23 (0, 0)), (w.heap.size, vobj (vl a))]) (List.Mem.head _) gR v30 (List.forall_mem_cons.2 ⟨.inl rfl, (List.forall_mem_cons.2 ⟨.inr ⟨(List.Mem.tail _ (List.Mem.head _)), (Ne.symm nR_b)⟩, (List.forall_mem_cons.2 ⟨.inr ⟨(List.Mem.tail _ (List.Mem.tail _ (List.Mem.head _))), (Ne.symm nR_a)⟩, (List.forall_mem_nil _)⟩)⟩)⟩)
      have HKK := Lib.hid hK
      clear hK
      go_wp2_with fail
      have hK := HKK.out
      have gs := vobj_six (hK.blk _ (List.Mem.head _))
      simp only [v30] at gs
      obtain ⟨r0, r1, r2, r3, r4, r5⟩ := gs
      exact bodyPost_ret (v := .tuple #[.agg #[.int .i64 0, .int .i64 0, .int .i64 0, .int .i64 0, .int .i64 0, .int .i64 0], .int .i64 20]) (by simp [results, Tryz.results18, go_sem, r0, r1, r2, r3, r4, r5]) rfl ⟨by rw [← HE.out] <;> rfl, hK.bel⟩
  · have HE := Lib.hid (show (v30, (20 : Int)) = q from (vop_bad (fun g => ha g.1)).symm.trans HQ.out)
    have Ha := Lib.hid ha
    clear ha HQ
    have hK : Kv w (((w.alloc (.cells #[.int .i64 a.1.1, .int .i64 a.1.2, .int .i64 a.2.1.1, .int .i64 a.2.1.2, .int .i64 a.2.2.1, .int .i64 a.2.2.2] 25)).alloc (.cells #[.int .i64 b.1, .int .i64 b.2] 23)).alloc (.cells #[.int .i64 0, .int .i64 0, .int .i64 0, .int .i64 0, .int .i64 0, .int .i64 0] 25)) [(w.heap.size + 1 + 1, vobj (vl v30)), (w.heap.size + 1, .cells #[.int .i64 b.1, .int .i64 b.2] 23 (0, 0)), (w.heap.size, vobj (vl a))] := ((((Kv.start w).al (vobj (vl a)) (n := w.heap.size) (by simp)).al (.cells #[.int .i64 b.1, .int .i64 b.2] 23 (0, 0)) (n := w.heap.size + 1) (by simp)).al (vobj (vl v30)) (n := w.heap.size + 1 + 1) (by simp))
    have gR : w.heap.size ≤ w.heap.size + 1 + 1 := by omega
    have nR_a : w.heap.size + 1 + 1 ≠ w.heap.size := by omega
    have nR_b : w.heap.size + 1 + 1 ≠ w.heap.size + 1 := by omega
    go_enter Tryz.func18, Tryz.ntmps18
    obtain ⟨ca0, ca1, ca2, ca3, ca4, ca5⟩ := vobj_six (hK.blk _ (List.Mem.tail _ (List.Mem.tail _ (List.Mem.head _))))
    have la := lt_of_block (hK.blk _ (List.Mem.tail _ (List.Mem.tail _ (List.Mem.head _))))
    go_wp2_with fail
    refine (ref6_Right_bad Ha.out _).mono ?_; rintro e w1 ⟨rfl, hb⟩
    replace hK := hK.on hb
    clear ca0 ca1 ca2 ca3 ca4 ca5 la hb
    obtain ⟨cR0, cR1, cR2, cR3, cR4, cR5⟩ := vobj_six (hK.blk _ (List.Mem.head _))
    simp only [v30] at cR0 cR1 cR2 cR3 cR4 cR5
    have lR := lt_of_block (hK.blk _ (List.Mem.head _))
    have fR0 := vobj_free (hK.blk _ (List.Mem.head _)) 0
    have fR1 := vobj_free (hK.blk _ (List.Mem.head _)) 1
    have fR2 := vobj_free (hK.blk _ (List.Mem.head _)) 2
    have fR3 := vobj_free (hK.blk _ (List.Mem.head _)) 3
    have fR4 := vobj_free (hK.blk _ (List.Mem.head _)) 4
    have fR5 := vobj_free (hK.blk _ (List.Mem.head _)) 5
    replace hK : Kv w ((((((w1.setCell ⟨w.heap.size + 1 + 1, 0, none⟩ (.int .i64 0)).setCell ⟨w.heap.size + 1 + 1, 1, none⟩ (.int .i64 0)).setCell ⟨w.heap.size + 1 + 1, 2, none⟩ (.int .i64 0)).setCell ⟨w.heap.size + 1 + 1, 3, none⟩ (.int .i64 0)).setCell ⟨w.heap.size + 1 + 1, 4, none⟩ (.int .i64 0)).setCell ⟨w.heap.size + 1 + 1, 5, none⟩ (.int .i64 0)) [(w.heap.size + 1 + 1, vobj (vl v30)), (w.heap.size + 1, .cells #[.int .i64 b.1, .int .i64 b.2] 23 (0, 0)), (w.heap.size, vobj (vl a))] := hK.seta (a := v30) (cs := [(w.heap.size + 1 + 1, vobj (vl v30)), (w.heap.size + 1, .cells #[.int .i64 b.1, .int .i64 b.2] 23 (0, 0)), (w.heap.size, vobj (vl a))]) (List.Mem.head _) gR v30 (List.forall_mem_cons.2 ⟨.inl rfl, (List.forall_mem_cons.2 ⟨.inr ⟨(List.Mem.tail _ (List.Mem.head _)), (Ne.symm nR_b)⟩, (List.forall_mem_cons.2 ⟨.inr ⟨(List.Mem.tail _ (List.Mem.tail _ (List.Mem.head _))), (Ne.symm nR_a)⟩, (List.forall_mem_nil _)⟩)⟩)⟩)
    have HKK := Lib.hid hK
    clear hK
    go_wp2_with fail
    have hK := HKK.out
    have gs := vobj_six (hK.blk _ (List.Mem.head _))
    simp only [v30] at gs
    obtain ⟨r0, r1, r2, r3, r4, r5⟩ := gs
    exact bodyPost_ret (v := .tuple #[.agg #[.int .i64 0, .int .i64 0, .int .i64 0, .int .i64 0, .int .i64 0, .int .i64 0], .int .i64 20]) (by simp [results, Tryz.results18, go_sem, r0, r1, r2, r3, r4, r5]) rfl ⟨by rw [← HE.out] <;> rfl, hK.bel⟩
set_option maxRecDepth 100000 in
set_option maxHeartbeats 600000 in
theorem ref6_Neg (a : V3) (w : World) : Calls Tryz.prog 13 #[.agg #[.int .i64 a.1.1, .int .i64 a.1.2, .int .i64 a.2.1.1, .int .i64 a.2.1.2, .int .i64 a.2.2.1, .int .i64 a.2.2.2]] w fun e w' => e = .returned (.tuple #[.agg #[.int .i64 (vNeg a).1.1.1, .int .i64 (vNeg a).1.1.2, .int .i64 (vNeg a).1.2.1.1, .int .i64 (vNeg a).1.2.1.2, .int .i64 (vNeg a).1.2.2.1, .int .i64 (vNeg a).1.2.2.2], .int .i64 (vNeg a).2]) ∧ Below w.heap.size w w' := by
  obtain ⟨q, hq⟩ : ∃ q, vNeg a = q := ⟨_, rfl⟩
  rw [hq]
  have HV := Lib.hid ((vneg_r a).symm.trans hq)
  clear hq
  have hK : Kv w ((w.alloc (.cells #[.int .i64 a.1.1, .int .i64 a.1.2, .int .i64 a.2.1.1, .int .i64 a.2.1.2, .int .i64 a.2.2.1, .int .i64 a.2.2.2] 25)).alloc (.cells #[.int .i64 0, .int .i64 0, .int .i64 0, .int .i64 0, .int .i64 0, .int .i64 0] 25)) [(w.heap.size + 1, vobj (vl v30)), (w.heap.size, vobj (vl a))] := (((Kv.start w).al (vobj (vl a)) (n := w.heap.size) (by simp)).al (vobj (vl v30)) (n := w.heap.size + 1) (by simp))
  have gR : w.heap.size ≤ w.heap.size + 1 := by omega
  have nR_a : w.heap.size + 1 ≠ w.heap.size := by omega
  go_enter Tryz.func13, Tryz.ntmps13
  obtain ⟨ca0, ca1, ca2, ca3, ca4, ca5⟩ := vobj_six (hK.blk _ (List.Mem.tail _ (List.Mem.head _)))
  have la := lt_of_block (hK.blk _ (List.Mem.tail _ (List.Mem.head _)))
  go_wp2_with fail
  refine (ref2_Neg a.1 _).mono ?_; rintro e w1 ⟨rfl, hb⟩
  replace hK := hK.on hb
  clear ca0 ca1 ca2 ca3 ca4 ca5 la hb
  have nx4_R : w1.heap.size ≠ w.heap.size + 1 := by have h := lt_of_block (hK.blk _ (List.Mem.head _)); first | exact Nat.ne_of_gt h | (simp at h; omega)
  replace hK : Kv w (w1.alloc (.cells #[.int .i64 (sNeg a.1).1.1, .int .i64 (sNeg a.1).1.2] 23)) [(w1.heap.size, .cells #[.int .i64 (sNeg a.1).1.1, .int .i64 (sNeg a.1).1.2] 23 (0, 0)), (w.heap.size + 1, vobj (vl v30)), (w.heap.size, vobj (vl a))] := hK.al (.cells #[.int .i64 (sNeg a.1).1.1, .int .i64 (sNeg a.1).1.2] 23 (0, 0)) (n := w1.heap.size) (by simp)
  obtain ⟨ca0, ca1, ca2, ca3, ca4, ca5⟩ := vobj_six (hK.blk _ (List.Mem.tail _ (List.Mem.tail _ (List.Mem.head _))))
  have la := lt_of_block (hK.blk _ (List.Mem.tail _ (List.Mem.tail _ (List.Mem.head _))))
  go_wp2_with fail
  refine (ref2_Neg a.2.1 _).mono ?_; rintro e w2 ⟨rfl, hb⟩
  replace hK := hK.on hb
  clear ca0 ca1 ca2 ca3 ca4 ca5 la hb
  have nx6_R : w2.heap.size ≠ w.heap.size + 1 := by have h := lt_of_block (hK.blk _ (List.Mem.tail _ (List.Mem.head _))); first | exact Nat.ne_of_gt h | (simp at h; omega)
  replace hK : Kv w (w2.alloc (.cells #[.int .i64 (sNeg a.2.1).1.1, .int .i64 (sNeg a.2.1).1.2] 23)) [(w2.heap.size, .cells #[.int .i64 (sNeg a.2.1).1.1, .int .i64 (sNeg a.2.1).1.2] 23 (0, 0)), (w1.heap.size, .cells #[.int .i64 (sNeg a.1).1.1, .int .i64 (sNeg a.1).1.2] 23 (0, 0)), (w.heap.size + 1, vobj (vl v30)), (w.heap.size, vobj (vl a))] := hK.al (.cells #[.int .i64 (sNeg a.2.1).1.1, .int .i64 (sNeg a.2.1).1.2] 23 (0, 0)) (n := w2.heap.size) (by simp)
  obtain ⟨ca0, ca1, ca2, ca3, ca4, ca5⟩ := vobj_six (hK.blk _ (List.Mem.tail _ (List.Mem.tail _ (List.Mem.tail _ (List.Mem.head _)))))
  have la := lt_of_block (hK.blk _ (List.Mem.tail _ (List.Mem.tail _ (List.Mem.tail _ (List.Mem.head _)))))
  go_wp2_with fail
  refine (ref2_Neg a.2.2 _).mono ?_; rintro e w3 ⟨rfl, hb⟩
  replace hK := hK.on hb
  clear ca0 ca1 ca2 ca3 ca4 ca5 la hb
  have nx8_R : w3.heap.size ≠ w.heap.size + 1 := by have h := lt_of_block (hK.blk _ (List.Mem.tail _ (List.Mem.tail _ (List.Mem.head _)))); first | exact Nat.ne_of_gt h | (simp at h; omega)
  replace hK : Kv w (w3.alloc (.cells #[.int .i64 (sNeg a.2.2).1.1, .int .i64 (sNeg a.2.2).1.2] 23)) [(w3.heap.size, .cells #[.int .i64 (sNeg a.2.2).1.1, .int .i64 (sNeg a.2.2).1.2] 23 (0, 0)), (w2.heap.size, .cells #[.int .i64 (sNeg a.2.1).1.1, .int .i64 (sNeg a.2.1).1.2] 23 (0, 0)), (w1.heap.size, .cells #[.int .i64 (sNeg a.1).1.1, .int .i64 (sNeg a.1).1.2] 23 (0, 0)), (w.heap.size + 1, vobj (vl v30)), (w.heap.size, vobj (vl a))] := hK.al (.cells #[.int .i64 (sNeg a.2.2).1.1, .int .i64 (sNeg a.2.2).1.2] 23 (0, 0)) (n := w3.heap.size) (by simp)
  have cx40 := cell_two0 (hK.blk _ (List.Mem.tail _ (List.Mem.tail _ (List.Mem.head _))))
  have cx41 := cell_two1 (hK.blk _ (List.Mem.tail _ (List.Mem.tail _ (List.Mem.head _))))
  have lx4 := lt_of_block (hK.blk _ (List.Mem.tail _ (List.Mem.tail _ (List.Mem.head _))))
  have cx60 := cell_two0 (hK.blk _ (List.Mem.tail _ (List.Mem.head _)))
  have cx61 := cell_two1 (hK.blk _ (List.Mem.tail _ (List.Mem.head _)))
  have lx6 := lt_of_block (hK.blk _ (List.Mem.tail _ (List.Mem.head _)))
  have cx80 := cell_two0 (hK.blk _ (List.Mem.head _))
  have cx81 := cell_two1 (hK.blk _ (List.Mem.head _))
  have lx8 := lt_of_block (hK.blk _ (List.Mem.head _))
  go_wp2_with fail
  refine (ref6_vector (sNeg a.1) (sNeg a.2.1) (sNeg a.2.2) _).mono ?_; rintro e w4 ⟨rfl, hb⟩
  replace hK := hK.on hb
  clear cx40 cx41 lx4 cx60 cx61 lx6 cx80 cx81 lx8 hb
  rw [HV.out]
  obtain ⟨cR0, cR1, cR2, cR3, cR4, cR5⟩ := vobj_six (hK.blk _ (List.Mem.tail _ (List.Mem.tail _ (List.Mem.tail _ (List.Mem.head _)))))
  simp only [v30] at cR0 cR1 cR2 cR3 cR4 cR5
  have lR := lt_of_block (hK.blk _ (List.Mem.tail _ (List.Mem.tail _ (List.Mem.tail _ (List.Mem.head _)))))
  have fR0 := vobj_free (hK.blk _ (List.Mem.tail _ (List.Mem.tail _ (List.Mem.tail _ (List.Mem.head _))))) 0
  have fR1 := vobj_free (hK.blk _ (List.Mem.tail _ (List.Mem.tail _ (List.Mem.tail _ (List.Mem.head _))))) 1
  have fR2 := vobj_free (hK.blk _ (List.Mem.tail _ (List.Mem.tail _ (List.Mem.tail _ (List.Mem.head _))))) 2
  have fR3 := vobj_free (hK.blk _ (List.Mem.tail _ (List.Mem.tail _ (List.Mem.tail _ (List.Mem.head _))))) 3
  have fR4 := vobj_free (hK.blk _ (List.Mem.tail _ (List.Mem.tail _ (List.Mem.tail _ (List.Mem.head _))))) 4
  have fR5 := vobj_free (hK.blk _ (List.Mem.tail _ (List.Mem.tail _ (List.Mem.tail _ (List.Mem.head _))))) 5
  replace hK : Kv w ((((((w4.setCell ⟨w.heap.size + 1, 0, none⟩ (.int .i64 q.1.1.1)).setCell ⟨w.heap.size + 1, 1, none⟩ (.int .i64 q.1.1.2)).setCell ⟨w.heap.size + 1, 2, none⟩ (.int .i64 q.1.2.1.1)).setCell ⟨w.heap.size + 1, 3, none⟩ (.int .i64 q.1.2.1.2)).setCell ⟨w.heap.size + 1, 4, none⟩ (.int .i64 q.1.2.2.1)).setCell ⟨w.heap.size + 1, 5, none⟩ (.int .i64 q.1.2.2.2)) [(w3.heap.size, .cells #[.int .i64 (sNeg a.2.2).1.1, .int .i64 (sNeg a.2.2).1.2] 23 (0, 0)), (w2.heap.size, .cells #[.int .i64 (sNeg a.2.1).1.1, .int .i64 (sNeg a.2.1).1.2] 23 (0, 0)), (w1.heap.size, .cells #[.int .i64 (sNeg a.1).1.1, .int .i64 (sNeg a.1).1.2] 23 (0, 0)), (w.heap.size + 1, vobj (vl q.1)), (w.heap.size, vobj (vl a))] := hK.seta (a := v30) (cs := [(w3.heap.size, .cells #[.int .i64 (sNeg a.2.2).1.1, .int .i64 (sNeg a.2.2).1.2] 23 (0, 0)), (w2.heap.size, .cells #[.int .i64 (sNeg a.2.1).1.1, .int .i64 (sNeg a.2.1).1.2] 23 (0, 0)), (w1.heap.size, .cells #[.int .i64 (sNeg a.1).1.1, .int .i64 (sNeg a.1).1.2] 23 (0, 0)), (w.heap.size + 1, vobj (vl q.1)), (w.heap.size, vobj (vl a))]) (List.Mem.tail _ (List.Mem.tail _ (List.Mem.tail _ (List.Mem.head _)))) gR q.1 (List.forall_mem_cons.2 ⟨.inr ⟨(List.Mem.head _), nx8_R⟩, (List.forall_mem_cons.2 ⟨.inr ⟨(List.Mem.tail _ (List.Mem.head _)), nx6_R⟩, (List.forall_mem_cons.2 ⟨.inr ⟨(List.Mem.tail _ (List.Mem.tail _ (List.Mem.head _))), nx4_R⟩, (List.forall_mem_cons.2 ⟨.inl rfl, (List.forall_mem_cons.2 ⟨.inr ⟨(List.Mem.tail _ (List.Mem.tail _ (List.Mem.tail _ (List.Mem.tail _ (List.Mem.head _))))), (Ne.symm nR_a)⟩, (List.forall_mem_nil _)⟩)⟩)⟩)⟩)⟩)
  have HKK := Lib.hid hK
  clear hK
  go_wp2_with fail
  have hK := HKK.out
  have gs := vobj_six (hK.blk _ (List.Mem.tail _ (List.Mem.tail _ (List.Mem.tail _ (List.Mem.head _)))))
  try dsimp only at gs
  obtain ⟨r0, r1, r2, r3, r4, r5⟩ := gs
  exact bodyPost_ret (v := .tuple #[.agg #[.int .i64 q.1.1.1, .int .i64 q.1.1.2, .int .i64 q.1.2.1.1, .int .i64 q.1.2.1.2, .int .i64 q.1.2.2.1, .int .i64 q.1.2.2.2], .int .i64 q.2]) (by simp [results, Tryz.results13, go_sem, r0, r1, r2, r3, r4, r5]) rfl ⟨rfl, hK.bel⟩
end Go.Proofs.YtmnccbhlllnlbaaGreat
