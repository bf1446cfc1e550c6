/- Contracts of the reference of layer 6: three, less, Dot, Cross. Printed by wip/genV6.py. -/
import Derived.Test.YtmnccbhlllnlbaaGreatRefVB
namespace Go.Proofs.YtmnccbhlllnlbaaGreat
open Go.RowKit Mnc
attribute [local go_sem] RunS_value RunS_skip RunS_enter evS_tmp evS_const evS_global evS_func
theorem fst2_assoc (a b c : Int) : fst2 (fst2 a b) c = fst2 a (fst2 b c) := by
  unfold fst2
  by_cases h : a = 0 <;> by_cases k : b = 0 <;> simp [h, k]
theorem fst2_ne {a b : Int} (h : a ≠ 0) : fst2 a b = a := fst2_left h b
theorem notes_bad {a b : V3} (h : ¬ (okV a ∧ okV b)) : vNote (vNote 0 a) b = 20 := by
  by_cases ha : okV a
  · rw [vNote_ok ha]
    exact vNote_bad fun hb => h ⟨ha, hb⟩
  · rw [vNote_bad ha]
    exact vNote_20
theorem fst2_20 (b : Int) : fst2 20 b = 20 := fst2_left (by decide) b
theorem vDot_bad {a b : V3} (h : ¬ (okV a ∧ okV b)) : vDot a b = ((0, 0), 20) := by
  unfold vDot dotE sumE
  rw [notes_bad h, err3_20, fst2_20, fst2_20]
  rfl
theorem vCross_bad {a b : V3} (h : ¬ (okV a ∧ okV b)) : vCross a b = (v30, 20) := by
  unfold vCross
  rw [notes_bad h, err3_20, err3_20, err3_20]
  rfl
theorem sAdd_err0 {a b : Int × Int} (ha : okS a) (hb : okS b) (h : (sAdd a b).2 ≠ 0) : sAdd a b = ((0, 0), (sAdd a b).2) := by
  have e : sAdd a b = _ := on2_ok ha hb
  rw [e] at h ⊢
  unfold sT at h ⊢
  split <;> simp_all
theorem vDot_r {a b : V3} (ha : okV a) (hb : okV b) : vDot a b = rThree (sMul a.1 b.1) (sMul a.2.1 b.2.1) (sMul a.2.2 b.2.2) := by
  unfold vDot dotE dotS sumE rThree
  rw [vNote_ok ha, vNote_ok hb]
  have he : err3 sMul 0 a b = fst2 (fst2 (fst2 0 (sMul a.1 b.1).2) (sMul a.2.1 b.2.1).2) (sMul a.2.2 b.2.2).2 := rfl
  rw [he]
  generalize fst2 (fst2 (fst2 0 (sMul a.1 b.1).2) (sMul a.2.1 b.2.1).2) (sMul a.2.2 b.2.2).2 = n
  unfold sum3 each3
  dsimp only
  by_cases hn : n = 0
  · subst hn
    rw [if_pos rfl]
    by_cases hs : (sAdd (sMul a.1 b.1).1 (sMul a.2.1 b.2.1).1).2 = 0
    · rw [if_pos hs, hs]
      have e2 : fst2 (fst2 0 0) (sAdd (sAdd (sMul a.1 b.1).1 (sMul a.2.1 b.2.1).1).1 (sMul a.2.2 b.2.2).1).2 = (sAdd (sAdd (sMul a.1 b.1).1 (sMul a.2.1 b.2.1).1).1 (sMul a.2.2 b.2.2).1).2 := rfl
      rw [e2]
      unfold toldS
      split
      · rename_i h
        exact Prod.ext rfl h.symm
      · rename_i h
        exact (sAdd_err0 (sAdd_okS _ _) (sMul_okS _ _) h).symm
    · rw [if_neg hs]
      have e2 : fst2 (fst2 0 (sAdd (sMul a.1 b.1).1 (sMul a.2.1 b.2.1).1).2) (sAdd (sAdd (sMul a.1 b.1).1 (sMul a.2.1 b.2.1).1).1 (sMul a.2.2 b.2.2).1).2 = (sAdd (sMul a.1 b.1).1 (sMul a.2.1 b.2.1).1).2 := fst2_left hs _
      rw [e2]
      unfold toldS
      rw [if_neg hs]
  · rw [if_neg hn, fst2_left hn, fst2_left hn]
    unfold toldS
    rw [if_neg hn]
theorem sSub_err0 {a b : Int × Int} (ha : okS a) (hb : okS b) (h : (sSub a b).2 ≠ 0) : sSub a b = ((0, 0), (sSub a b).2) := by
  have e : sSub a b = _ := on2_ok ha hb
  rw [e] at h ⊢
  unfold sT at h ⊢
  split <;> simp_all
/-- The error of a difference of products is 0 or 6; its value where there is none. -/
theorem rLess_six {a b c d : Int × Int} (ha : okS a) (hb : okS b) (hc : okS c) (hd : okS d) : ((rLess a b c d).2 = 0 ∨ (rLess a b c d).2 = 6) ∧ ((rLess a b c d).2 = 0 ↔ (sMul a b).2 = 0 ∧ (sMul c d).2 = 0 ∧ (sSub (sMul a b).1 (sMul c d).1).2 = 0) ∧ ((rLess a b c d).2 = 0 → (rLess a b c d).1 = (sSub (sMul a b).1 (sMul c d).1).1) := by
  have m1 := err_or (f := sMul) fun h => sMul_err h ha hb
  have m2 := err_or (f := sMul) fun h => sMul_err h hc hd
  have m3 := err_or (f := sSub) (a := (sMul a b).1) (b := (sMul c d).1) fun h => sSub_err h (sMul_okS _ _) (sMul_okS _ _)
  unfold rLess
  by_cases h : fst2 (fst2 0 (sMul a b).2) (sMul c d).2 = 0
  · rw [if_pos h]
    rw [fst2_nil, fst2_nil] at h
    exact ⟨m3, ⟨fun g => ⟨h.1.2, h.2, g⟩, fun g => g.2.2⟩, fun _ => rfl⟩
  · rw [if_neg h]
    have six : fst2 (fst2 0 (sMul a b).2) (sMul c d).2 = 6 := (fst2_six (fst2_six (.inl rfl) m1) m2).resolve_left h
    refine ⟨.inr six, ⟨fun g => absurd g h, fun g => absurd (fst2_nil.2 ⟨fst2_nil.2 ⟨rfl, g.1⟩, g.2.1⟩) h⟩, fun g => absurd g h⟩
theorem vCross_r {a b : V3} (ha : okV a) (hb : okV b) : vCross a b = rVec (rLess a.2.1 b.2.2 a.2.2 b.2.1) (rLess a.2.2 b.1 a.1 b.2.2) (rLess a.1 b.2.1 a.2.1 b.1) := by
  obtain ⟨s1, i1, v1⟩ := rLess_six ha.2.1 hb.2.2 ha.2.2 hb.2.1
  obtain ⟨s2, i2, v2⟩ := rLess_six ha.2.2 hb.1 ha.1 hb.2.2
  obtain ⟨s3, i3, v3⟩ := rLess_six ha.1 hb.2.1 ha.2.1 hb.1
  unfold vCross rVec
  rw [vNote_ok ha, vNote_ok hb]
  have okP : okV (crP a b) := each3_okV sMul_okS _ _
  have okQ : okV (crQ a b) := each3_okV sMul_okS _ _
  have six := subE_six (crE_six (crE_six (.inl rfl) (turn_ok ha) (turn_ok (turn_ok hb))) (turn_ok (turn_ok ha)) (turn_ok hb)) okP okQ
  have r6 := fst2_six (fst2_six (fst2_six (.inl rfl) s1) s2) s3
  have hiff : err3 sSub (err3 sMul (err3 sMul 0 (turnV a) (turnV (turnV b))) (turnV (turnV a)) (turnV b)) (crP a b) (crQ a b) = 0 ↔ fst2 (fst2 (fst2 0 (rLess a.2.1 b.2.2 a.2.2 b.2.1).2) (rLess a.2.2 b.1 a.1 b.2.2).2) (rLess a.1 b.2.1 a.2.1 b.1).2 = 0 := by
    rw [err3_nil, err3_nil, err3_nil, fst2_nil, fst2_nil, fst2_nil, i1, i2, i3]
    constructor
    · rintro ⟨⟨⟨-, p1, p2, p3⟩, q1, q2, q3⟩, t1, t2, t3⟩
      exact ⟨⟨⟨rfl, p1, q1, t1⟩, p2, q2, t2⟩, p3, q3, t3⟩
    · rintro ⟨⟨⟨-, p1, q1, t1⟩, p2, q2, t2⟩, p3, q3, t3⟩
      exact ⟨⟨⟨rfl, p1, p2, p3⟩, q1, q2, q3⟩, t1, t2, t3⟩
  generalize hA : err3 sSub (err3 sMul (err3 sMul 0 (turnV a) (turnV (turnV b))) (turnV (turnV a)) (turnV b)) (crP a b) (crQ a b) = A at *
  generalize hB : fst2 (fst2 (fst2 0 (rLess a.2.1 b.2.2 a.2.2 b.2.1).2) (rLess a.2.2 b.1 a.1 b.2.2).2) (rLess a.1 b.2.1 a.2.1 b.1).2 = B at *
  have hAB : A = B := by omega
  subst hAB
  by_cases h : A = 0
  · rw [toldV_of h, toldV_of h]
    have h2 := hB.trans h
    rw [fst2_nil, fst2_nil, fst2_nil] at h2
    rw [v1 h2.1.1.2, v2 h2.1.2, v3 h2.2]
    rfl
  · unfold toldV
    rw [if_neg h, if_neg h]
set_option maxRecDepth 100000 in
set_option maxHeartbeats 600000 in
theorem ref6_three (x y z : (Int × Int) × Int) (w : World) : Calls Tryz.prog 52 #[.agg #[.int .i64 x.1.1, .int .i64 x.1.2], .int .i64 x.2, .agg #[.int .i64 y.1.1, .int .i64 y.1.2], .int .i64 y.2, .agg #[.int .i64 z.1.1, .int .i64 z.1.2], .int .i64 z.2] w fun e w' => e = .returned (.tuple #[.agg #[.int .i64 (rThree x y z).1.1, .int .i64 (rThree x y z).1.2], .int .i64 (rThree x y z).2]) ∧ Below w.heap.size w w' := by
  obtain ⟨q, hq⟩ : ∃ q, rThree x y z = q := ⟨_, rfl⟩
  rw [hq]
  unfold rThree at hq
  obtain ⟨n, hn⟩ : ∃ n, fst2 (fst2 (fst2 0 x.2) y.2) z.2 = n := ⟨_, rfl⟩
  have HN := Lib.hid ((fstL_three x.2 y.2 z.2).trans hn)
  rw [hn] at hq
  clear hn
  have HS := Lib.hid (fun W => ref2_Add x.1 y.1 W)
  have HT := Lib.hid (fun W => ref2_Add (sAdd x.1 y.1).1 z.1 W)
  generalize sAdd x.1 y.1 = s at *
  by_cases he : n = 0
  · subst he
    rw [if_pos rfl] at hq
    by_cases hs : s.2 = 0
    · rw [if_pos hs] at hq
      obtain ⟨s1, s2⟩ := s
      obtain rfl : s2 = 0 := hs
      rw [hq] at HT
      clear hq
      have hK : Kv w ((((w.alloc (.cells #[.int .i64 x.1.1, .int .i64 x.1.2] 23)).alloc (.cells #[.int .i64 y.1.1, .int .i64 y.1.2] 23)).alloc (.cells #[.int .i64 z.1.1, .int .i64 z.1.2] 23)).alloc (.cells #[.int .i64 0, .int .i64 0] 23)) [(w.heap.size + 1 + 1 + 1, .cells #[.int .i64 0, .int .i64 0] 23 (0, 0)), (w.heap.size + 1 + 1, .cells #[.int .i64 z.1.1, .int .i64 z.1.2] 23 (0, 0)), (w.heap.size + 1, .cells #[.int .i64 y.1.1, .int .i64 y.1.2] 23 (0, 0)), (w.heap.size, .cells #[.int .i64 x.1.1, .int .i64 x.1.2] 23 (0, 0))] := (((((Kv.start w).al (.cells #[.int .i64 x.1.1, .int .i64 x.1.2] 23 (0, 0)) (n := w.heap.size) (by simp)).al (.cells #[.int .i64 y.1.1, .int .i64 y.1.2] 23 (0, 0)) (n := w.heap.size + 1) (by simp)).al (.cells #[.int .i64 z.1.1, .int .i64 z.1.2] 23 (0, 0)) (n := w.heap.size + 1 + 1) (by simp)).al (.cells #[.int .i64 0, .int .i64 0] 23 (0, 0)) (n := w.heap.size + 1 + 1 + 1) (by simp))
      have gR : w.heap.size ≤ w.heap.size + 1 + 1 + 1 := by omega
      have nR_x1 : w.heap.size + 1 + 1 + 1 ≠ w.heap.size := by omega
      have nR_y1 : w.heap.size + 1 + 1 + 1 ≠ w.heap.size + 1 := by omega
      have nR_z1 : w.heap.size + 1 + 1 + 1 ≠ w.heap.size + 1 + 1 := by omega
      go_enter Tryz.func52, Tryz.ntmps52
      have nl20_R : w.heap.size + 1 + 1 + 1 + 1 ≠ w.heap.size + 1 + 1 + 1 := by have h := lt_of_block (hK.blk _ (List.Mem.head _)); first | exact Nat.ne_of_gt h | (simp at h; omega)
      replace hK : Kv w (((((w.alloc (.cells #[.int .i64 x.1.1, .int .i64 x.1.2] 23)).alloc (.cells #[.int .i64 y.1.1, .int .i64 y.1.2] 23)).alloc (.cells #[.int .i64 z.1.1, .int .i64 z.1.2] 23)).alloc (.cells #[.int .i64 0, .int .i64 0] 23)).alloc (.cells #[.int .i64 x.2, .int .i64 y.2, .int .i64 z.2] 37)) [(w.heap.size + 1 + 1 + 1 + 1, .cells #[.int .i64 x.2, .int .i64 y.2, .int .i64 z.2] 37 (0, 0)), (w.heap.size + 1 + 1 + 1, .cells #[.int .i64 0, .int .i64 0] 23 (0, 0)), (w.heap.size + 1 + 1, .cells #[.int .i64 z.1.1, .int .i64 z.1.2] 23 (0, 0)), (w.heap.size + 1, .cells #[.int .i64 y.1.1, .int .i64 y.1.2] 23 (0, 0)), (w.heap.size, .cells #[.int .i64 x.1.1, .int .i64 x.1.2] 23 (0, 0))] := hK.al (.cells #[.int .i64 x.2, .int .i64 y.2, .int .i64 z.2] 37 (0, 0)) (n := w.heap.size + 1 + 1 + 1 + 1) (by simp)
      go_wp2_with fail
      refine ((ref6_First [x.2, y.2, z.2] (by simp) _ _ (hK.blk _ (List.Mem.head _)))).mono ?_; rintro e w1 ⟨rfl, hb⟩
      replace hK := hK.on hb
      clear hb
      rw [HN.out]
      have cx10 := cell_two0 (hK.blk _ (List.Mem.tail _ (List.Mem.tail _ (List.Mem.tail _ (List.Mem.tail _ (List.Mem.head _))))))
      have cx11 := cell_two1 (hK.blk _ (List.Mem.tail _ (List.Mem.tail _ (List.Mem.tail _ (List.Mem.tail _ (List.Mem.head _))))))
      have lx1 := lt_of_block (hK.blk _ (List.Mem.tail _ (List.Mem.tail _ (List.Mem.tail _ (List.Mem.tail _ (List.Mem.head _))))))
      have cy10 := cell_two0 (hK.blk _ (List.Mem.tail _ (List.Mem.tail _ (List.Mem.tail _ (List.Mem.head _)))))
      have cy11 := cell_two1 (hK.blk _ (List.Mem.tail _ (List.Mem.tail _ (List.Mem.tail _ (List.Mem.head _)))))
      have ly1 := lt_of_block (hK.blk _ (List.Mem.tail _ (List.Mem.tail _ (List.Mem.tail _ (List.Mem.head _)))))
      go_wp2_with fail
      refine (HS.out _).mono ?_; rintro e w2 ⟨rfl, hb⟩
      replace hK := hK.on hb
      clear cx10 cx11 lx1 cy10 cy11 ly1 hb
      have nx15_R : w2.heap.size ≠ w.heap.size + 1 + 1 + 1 := by have h := lt_of_block (hK.blk _ (List.Mem.tail _ (List.Mem.head _))); first | exact Nat.ne_of_gt h | (simp at h; omega)
      replace hK : Kv w (w2.alloc (.cells #[.int .i64 s1.1, .int .i64 s1.2] 23)) [(w2.heap.size, .cells #[.int .i64 s1.1, .int .i64 s1.2] 23 (0, 0)), (w.heap.size + 1 + 1 + 1 + 1, .cells #[.int .i64 x.2, .int .i64 y.2, .int .i64 z.2] 37 (0, 0)), (w.heap.size + 1 + 1 + 1, .cells #[.int .i64 0, .int .i64 0] 23 (0, 0)), (w.heap.size + 1 + 1, .cells #[.int .i64 z.1.1, .int .i64 z.1.2] 23 (0, 0)), (w.heap.size + 1, .cells #[.int .i64 y.1.1, .int .i64 y.1.2] 23 (0, 0)), (w.heap.size, .cells #[.int .i64 x.1.1, .int .i64 x.1.2] 23 (0, 0))] := hK.al (.cells #[.int .i64 s1.1, .int .i64 s1.2] 23 (0, 0)) (n := w2.heap.size) (by simp)
      have cx150 := cell_two0 (hK.blk _ (List.Mem.head _))
      have cx151 := cell_two1 (hK.blk _ (List.Mem.head _))
      have lx15 := lt_of_block (hK.blk _ (List.Mem.head _))
      have cz10 := cell_two0 (hK.blk _ (List.Mem.tail _ (List.Mem.tail _ (List.Mem.tail _ (List.Mem.head _)))))
      have cz11 := cell_two1 (hK.blk _ (List.Mem.tail _ (List.Mem.tail _ (List.Mem.tail _ (List.Mem.head _)))))
      have lz1 := lt_of_block (hK.blk _ (List.Mem.tail _ (List.Mem.tail _ (List.Mem.tail _ (List.Mem.head _)))))
      go_wp2_with fail
      refine (HT.out _).mono ?_; rintro e w3 ⟨rfl, hb⟩
      replace hK := hK.on hb
      clear cx150 cx151 lx15 cz10 cz11 lz1 hb
      have cR0 := cell_two0 (hK.blk _ (List.Mem.tail _ (List.Mem.tail _ (List.Mem.head _))))
      have cR1 := cell_two1 (hK.blk _ (List.Mem.tail _ (List.Mem.tail _ (List.Mem.head _))))
      have lR := lt_of_block (hK.blk _ (List.Mem.tail _ (List.Mem.tail _ (List.Mem.head _))))
      have fR0 := free_two (i := 0) (hK.blk _ (List.Mem.tail _ (List.Mem.tail _ (List.Mem.head _))))
      have fR1 := free_two (i := 1) (hK.blk _ (List.Mem.tail _ (List.Mem.tail _ (List.Mem.head _))))
      replace hK : Kv w ((w3.setCell ⟨w.heap.size + 1 + 1 + 1, 0, none⟩ (.int .i64 q.1.1)).setCell ⟨w.heap.size + 1 + 1 + 1, 1, none⟩ (.int .i64 q.1.2)) [(w2.heap.size, .cells #[.int .i64 s1.1, .int .i64 s1.2] 23 (0, 0)), (w.heap.size + 1 + 1 + 1 + 1, .cells #[.int .i64 x.2, .int .i64 y.2, .int .i64 z.2] 37 (0, 0)), (w.heap.size + 1 + 1 + 1, .cells #[.int .i64 q.1.1, .int .i64 q.1.2] 23 (0, 0)), (w.heap.size + 1 + 1, .cells #[.int .i64 z.1.1, .int .i64 z.1.2] 23 (0, 0)), (w.heap.size + 1, .cells #[.int .i64 y.1.1, .int .i64 y.1.2] 23 (0, 0)), (w.heap.size, .cells #[.int .i64 x.1.1, .int .i64 x.1.2] 23 (0, 0))] := hK.setb (a := (0, 0)) (cs := [(w2.heap.size, .cells #[.int .i64 s1.1, .int .i64 s1.2] 23 (0, 0)), (w.heap.size + 1 + 1 + 1 + 1, .cells #[.int .i64 x.2, .int .i64 y.2, .int .i64 z.2] 37 (0, 0)), (w.heap.size + 1 + 1 + 1, .cells #[.int .i64 q.1.1, .int .i64 q.1.2] 23 (0, 0)), (w.heap.size + 1 + 1, .cells #[.int .i64 z.1.1, .int .i64 z.1.2] 23 (0, 0)), (w.heap.size + 1, .cells #[.int .i64 y.1.1, .int .i64 y.1.2] 23 (0, 0)), (w.heap.size, .cells #[.int .i64 x.1.1, .int .i64 x.1.2] 23 (0, 0))]) (List.Mem.tail _ (List.Mem.tail _ (List.Mem.head _))) gR q.1 (List.forall_mem_cons.2 ⟨.inr ⟨(List.Mem.head _), nx15_R⟩, (List.forall_mem_cons.2 ⟨.inr ⟨(List.Mem.tail _ (List.Mem.head _)), nl20_R⟩, (List.forall_mem_cons.2 ⟨.inl rfl, (List.forall_mem_cons.2 ⟨.inr ⟨(List.Mem.tail _ (List.Mem.tail _ (List.Mem.tail _ (List.Mem.head _)))), (Ne.symm nR_z1)⟩, (List.forall_mem_cons.2 ⟨.inr ⟨(List.Mem.tail _ (List.Mem.tail _ (List.Mem.tail _ (List.Mem.tail _ (List.Mem.head _))))), (Ne.symm nR_y1)⟩, (List.forall_mem_cons.2 ⟨.inr ⟨(List.Mem.tail _ (List.Mem.tail _ (List.Mem.tail _ (List.Mem.tail _ (List.Mem.tail _ (List.Mem.head _)))))), (Ne.symm nR_x1)⟩, (List.forall_mem_nil _)⟩)⟩)⟩)⟩)⟩)⟩)
      have HKK := Lib.hid hK
      clear hK
      go_wp2_with fail
      have hK := HKK.out
      have r0 := cell_two0 (hK.blk _ (List.Mem.tail _ (List.Mem.tail _ (List.Mem.head _))))
      have r1 := cell_two1 (hK.blk _ (List.Mem.tail _ (List.Mem.tail _ (List.Mem.head _))))
      exact bodyPost_ret (v := .tuple #[.agg #[.int .i64 q.1.1, .int .i64 q.1.2], .int .i64 q.2]) (by simp [results, Tryz.results52, go_sem, r0, r1]) rfl ⟨rfl, hK.bel⟩
    · rw [if_neg hs] at hq
      have HE := Lib.hid hq
      have q1 : (s.2 == 0) = false := by simp [hs]
      clear hq HT
      have hK : Kv w ((((w.alloc (.cells #[.int .i64 x.1.1, .int .i64 x.1.2] 23)).alloc (.cells #[.int .i64 y.1.1, .int .i64 y.1.2] 23)).alloc (.cells #[.int .i64 z.1.1, .int .i64 z.1.2] 23)).alloc (.cells #[.int .i64 0, .int .i64 0] 23)) [(w.heap.size + 1 + 1 + 1, .cells #[.int .i64 0, .int .i64 0] 23 (0, 0)), (w.heap.size + 1 + 1, .cells #[.int .i64 z.1.1, .int .i64 z.1.2] 23 (0, 0)), (w.heap.size + 1, .cells #[.int .i64 y.1.1, .int .i64 y.1.2] 23 (0, 0)), (w.heap.size, .cells #[.int .i64 x.1.1, .int .i64 x.1.2] 23 (0, 0))] := (((((Kv.start w).al (.cells #[.int .i64 x.1.1, .int .i64 x.1.2] 23 (0, 0)) (n := w.heap.size) (by simp)).al (.cells #[.int .i64 y.1.1, .int .i64 y.1.2] 23 (0, 0)) (n := w.heap.size + 1) (by simp)).al (.cells #[.int .i64 z.1.1, .int .i64 z.1.2] 23 (0, 0)) (n := w.heap.size + 1 + 1) (by simp)).al (.cells #[.int .i64 0, .int .i64 0] 23 (0, 0)) (n := w.heap.size + 1 + 1 + 1) (by simp))
      have gR : w.heap.size ≤ w.heap.size + 1 + 1 + 1 := by omega
      have nR_x1 : w.heap.size + 1 + 1 + 1 ≠ w.heap.size := by omega
      have nR_y1 : w.heap.size + 1 + 1 + 1 ≠ w.heap.size + 1 := by omega
      have nR_z1 : w.heap.size + 1 + 1 + 1 ≠ w.heap.size + 1 + 1 := by omega
      go_enter Tryz.func52, Tryz.ntmps52
      have nl20_R : w.heap.size + 1 + 1 + 1 + 1 ≠ w.heap.size + 1 + 1 + 1 := by have h := lt_of_block (hK.blk _ (List.Mem.head _)); first | exact Nat.ne_of_gt h | (simp at h; omega)
      replace hK : Kv w (((((w.alloc (.cells #[.int .i64 x.1.1, .int .i64 x.1.2] 23)).alloc (.cells #[.int .i64 y.1.1, .int .i64 y.1.2] 23)).alloc (.cells #[.int .i64 z.1.1, .int .i64 z.1.2] 23)).alloc (.cells #[.int .i64 0, .int .i64 0] 23)).alloc (.cells #[.int .i64 x.2, .int .i64 y.2, .int .i64 z.2] 37)) [(w.heap.size + 1 + 1 + 1 + 1, .cells #[.int .i64 x.2, .int .i64 y.2, .int .i64 z.2] 37 (0, 0)), (w.heap.size + 1 + 1 + 1, .cells #[.int .i64 0, .int .i64 0] 23 (0, 0)), (w.heap.size + 1 + 1, .cells #[.int .i64 z.1.1, .int .i64 z.1.2] 23 (0, 0)), (w.heap.size + 1, .cells #[.int .i64 y.1.1, .int .i64 y.1.2] 23 (0, 0)), (w.heap.size, .cells #[.int .i64 x.1.1, .int .i64 x.1.2] 23 (0, 0))] := hK.al (.cells #[.int .i64 x.2, .int .i64 y.2, .int .i64 z.2] 37 (0, 0)) (n := w.heap.size + 1 + 1 + 1 + 1) (by simp)
      go_wp2_with fail
      refine ((ref6_First [x.2, y.2, z.2] (by simp) _ _ (hK.blk _ (List.Mem.head _)))).mono ?_; rintro e w1 ⟨rfl, hb⟩
      replace hK := hK.on hb
      clear hb
      rw [HN.out]
      have cx10 := cell_two0 (hK.blk _ (List.Mem.tail _ (List.Mem.tail _ (List.Mem.tail _ (List.Mem.tail _ (List.Mem.head _))))))
      have cx11 := cell_two1 (hK.blk _ (List.Mem.tail _ (List.Mem.tail _ (List.Mem.tail _ (List.Mem.tail _ (List.Mem.head _))))))
      have lx1 := lt_of_block (hK.blk _ (List.Mem.tail _ (List.Mem.tail _ (List.Mem.tail _ (List.Mem.tail _ (List.Mem.head _))))))
      have cy10 := cell_two0 (hK.blk _ (List.Mem.tail _ (List.Mem.tail _ (List.Mem.tail _ (List.Mem.head _)))))
      have cy11 := cell_two1 (hK.blk _ (List.Mem.tail _ (List.Mem.tail _ (List.Mem.tail _ (List.Mem.head _)))))
      have ly1 := lt_of_block (hK.blk _ (List.Mem.tail _ (List.Mem.tail _ (List.Mem.tail _ (List.Mem.head _)))))
      go_wp2_with fail
      refine (HS.out _).mono ?_; rintro e w2 ⟨rfl, hb⟩
      replace hK := hK.on hb
      clear cx10 cx11 lx1 cy10 cy11 ly1 hb
      have nx15_R : w2.heap.size ≠ w.heap.size + 1 + 1 + 1 := by have h := lt_of_block (hK.blk _ (List.Mem.tail _ (List.Mem.head _))); first | exact Nat.ne_of_gt h | (simp at h; omega)
      replace hK : Kv w (w2.alloc (.cells #[.int .i64 s.1.1, .int .i64 s.1.2] 23)) [(w2.heap.size, .cells #[.int .i64 s.1.1, .int .i64 s.1.2] 23 (0, 0)), (w.heap.size + 1 + 1 + 1 + 1, .cells #[.int .i64 x.2, .int .i64 y.2, .int .i64 z.2] 37 (0, 0)), (w.heap.size + 1 + 1 + 1, .cells #[.int .i64 0, .int .i64 0] 23 (0, 0)), (w.heap.size + 1 + 1, .cells #[.int .i64 z.1.1, .int .i64 z.1.2] 23 (0, 0)), (w.heap.size + 1, .cells #[.int .i64 y.1.1, .int .i64 y.1.2] 23 (0, 0)), (w.heap.size, .cells #[.int .i64 x.1.1, .int .i64 x.1.2] 23 (0, 0))] := hK.al (.cells #[.int .i64 s.1.1, .int .i64 s.1.2] 23 (0, 0)) (n := w2.heap.size) (by simp)
      have cR0 := cell_two0 (hK.blk _ (List.Mem.tail _ (List.Mem.tail _ (List.Mem.head _))))
      have cR1 := cell_two1 (hK.blk _ (List.Mem.tail _ (List.Mem.tail _ (List.Mem.head _))))
      have lR := lt_of_block (hK.blk _ (List.Mem.tail _ (List.Mem.tail _ (List.Mem.head _))))
      have fR0 := free_two (i := 0) (hK.blk _ (List.Mem.tail _ (List.Mem.tail _ (List.Mem.head _))))
      have fR1 := free_two (i := 1) (hK.blk _ (List.Mem.tail _ (List.Mem.tail _ (List.Mem.head _))))
      replace hK : Kv w (((w2.alloc (.cells #[.int .i64 s.1.1, .int .i64 s.1.2] 23)).setCell ⟨w.heap.size + 1 + 1 + 1, 0, none⟩ (.int .i64 0)).setCell ⟨w.heap.size + 1 + 1 + 1, 1, none⟩ (.int .i64 0)) [(w2.heap.size, .cells #[.int .i64 s.1.1, .int .i64 s.1.2] 23 (0, 0)), (w.heap.size + 1 + 1 + 1 + 1, .cells #[.int .i64 x.2, .int .i64 y.2, .int .i64 z.2] 37 (0, 0)), (w.heap.size + 1 + 1 + 1, .cells #[.int .i64 0, .int .i64 0] 23 (0, 0)), (w.heap.size + 1 + 1, .cells #[.int .i64 z.1.1, .int .i64 z.1.2] 23 (0, 0)), (w.heap.size + 1, .cells #[.int .i64 y.1.1, .int .i64 y.1.2] 23 (0, 0)), (w.heap.size, .cells #[.int .i64 x.1.1, .int .i64 x.1.2] 23 (0, 0))] := hK.setb (a := (0, 0)) (cs := [(w2.heap.size, .cells #[.int .i64 s.1.1, .int .i64 s.1.2] 23 (0, 0)), (w.heap.size + 1 + 1 + 1 + 1, .cells #[.int .i64 x.2, .int .i64 y.2, .int .i64 z.2] 37 (0, 0)), (w.heap.size + 1 + 1 + 1, .cells #[.int .i64 0, .int .i64 0] 23 (0, 0)), (w.heap.size + 1 + 1, .cells #[.int .i64 z.1.1, .int .i64 z.1.2] 23 (0, 0)), (w.heap.size + 1, .cells #[.int .i64 y.1.1, .int .i64 y.1.2] 23 (0, 0)), (w.heap.size, .cells #[.int .i64 x.1.1, .int .i64 x.1.2] 23 (0, 0))]) (List.Mem.tail _ (List.Mem.tail _ (List.Mem.head _))) gR (0, 0) (List.forall_mem_cons.2 ⟨.inr ⟨(List.Mem.head _), nx15_R⟩, (List.forall_mem_cons.2 ⟨.inr ⟨(List.Mem.tail _ (List.Mem.head _)), nl20_R⟩, (List.forall_mem_cons.2 ⟨.inl rfl, (List.forall_mem_cons.2 ⟨.inr ⟨(List.Mem.tail _ (List.Mem.tail _ (List.Mem.tail _ (List.Mem.head _)))), (Ne.symm nR_z1)⟩, (List.forall_mem_cons.2 ⟨.inr ⟨(List.Mem.tail _ (List.Mem.tail _ (List.Mem.tail _ (List.Mem.tail _ (List.Mem.head _))))), (Ne.symm nR_y1)⟩, (List.forall_mem_cons.2 ⟨.inr ⟨(List.Mem.tail _ (List.Mem.tail _ (List.Mem.tail _ (List.Mem.tail _ (List.Mem.tail _ (List.Mem.head _)))))), (Ne.symm nR_x1)⟩, (List.forall_mem_nil _)⟩)⟩)⟩)⟩)⟩)⟩)
      have HKK := Lib.hid hK
      clear hK
      go_wp2_with fail
      have hK := HKK.out
      have r0 := cell_two0 (hK.blk _ (List.Mem.tail _ (List.Mem.tail _ (List.Mem.head _))))
      have r1 := cell_two1 (hK.blk _ (List.Mem.tail _ (List.Mem.tail _ (List.Mem.head _))))
      exact bodyPost_ret (v := .tuple #[.agg #[.int .i64 0, .int .i64 0], .int .i64 s.2]) (by simp [results, Tryz.results52, go_sem, r0, r1]) rfl ⟨by rw [← HE.out], hK.bel⟩
  · rw [if_neg he] at hq
    have HE := Lib.hid hq
    have q0 : (n == 0) = false := by simp [he]
    clear hq HS HT
    have hK : Kv w ((((w.alloc (.cells #[.int .i64 x.1.1, .int .i64 x.1.2] 23)).alloc (.cells #[.int .i64 y.1.1, .int .i64 y.1.2] 23)).alloc (.cells #[.int .i64 z.1.1, .int .i64 z.1.2] 23)).alloc (.cells #[.int .i64 0, .int .i64 0] 23)) [(w.heap.size + 1 + 1 + 1, .cells #[.int .i64 0, .int .i64 0] 23 (0, 0)), (w.heap.size + 1 + 1, .cells #[.int .i64 z.1.1, .int .i64 z.1.2] 23 (0, 0)), (w.heap.size + 1, .cells #[.int .i64 y.1.1, .int .i64 y.1.2] 23 (0, 0)), (w.heap.size, .cells #[.int .i64 x.1.1, .int .i64 x.1.2] 23 (0, 0))] := (((((Kv.start w).al (.cells #[.int .i64 x.1.1, .int .i64 x.1.2] 23 (0, 0)) (n := w.heap.size) (by simp)).al (.cells #[.int .i64 y.1.1, .int .i64 y.1.2] 23 (0, 0)) (n := w.heap.size + 1) (by simp)).al (.cells #[.int .i64 z.1.1, .int .i64 z.1.2] 23 (0, 0)) (n := w.heap.size + 1 + 1) (by simp)).al (.cells #[.int .i64 0, .int .i64 0] 23 (0, 0)) (n := w.heap.size + 1 + 1 + 1) (by simp))
    have gR : w.heap.size ≤ w.heap.size + 1 + 1 + 1 := by omega
    have nR_x1 : w.heap.size + 1 + 1 + 1 ≠ w.heap.size := by omega
    have nR_y1 : w.heap.size + 1 + 1 + 1 ≠ w.heap.size + 1 := by omega
    have nR_z1 : w.heap.size + 1 + 1 + 1 ≠ w.heap.size + 1 + 1 := by omega
    go_enter Tryz.func52, Tryz.ntmps52
    have nl20_R : w.heap.size + 1 + 1 + 1 + 1 ≠ w.heap.size + 1 + 1 + 1 := by have h := lt_of_block (hK.blk _ (List.Mem.head _)); first | exact Nat.ne_of_gt h | (simp at h; omega)
    replace hK : Kv w (((((w.alloc (.cells #[.int .i64 x.1.1, .int .i64 x.1.2] 23)).alloc (.cells #[.int .i64 y.1.1, .int .i64 y.1.2] 23)).alloc (.cells #[.int .i64 z.1.1, .int .i64 z.1.2] 23)).alloc (.cells #[.int .i64 0, .int .i64 0] 23)).alloc (.cells #[.int .i64 x.2, .int .i64 y.2, .int .i64 z.2] 37)) [(w.heap.size + 1 + 1 + 1 + 1, .cells #[.int .i64 x.2, .int .i64 y.2, .int .i64 z.2] 37 (0, 0)), (w.heap.size + 1 + 1 + 1, .cells #[.int .i64 0, .int .i64 0] 23 (0, 0)), (w.heap.size + 1 + 1, .cells #[.int .i64 z.1.1, .int .i64 z.1.2] 23 (0, 0)), (w.heap.size + 1, .cells #[.int .i64 y.1.1, .int .i64 y.1.2] 23 (0, 0)), (w.heap.size, .cells #[.int .i64 x.1.1, .int .i64 x.1.2] 23 (0, 0))] := hK.al (.cells #[.int .i64 x.2, .int .i64 y.2, .int .i64 z.2] 37 (0, 0)) (n := w.heap.size + 1 + 1 + 1 + 1) (by simp)
    go_wp2_with fail
    refine ((ref6_First [x.2, y.2, z.2] (by simp) _ _ (hK.blk _ (List.Mem.head _)))).mono ?_; rintro e w1 ⟨rfl, hb⟩
    replace hK := hK.on hb
    clear hb
    rw [HN.out]
    have cR0 := cell_two0 (hK.blk _ (List.Mem.tail _ (List.Mem.head _)))
    have cR1 := cell_two1 (hK.blk _ (List.Mem.tail _ (List.Mem.head _)))
    have lR := lt_of_block (hK.blk _ (List.Mem.tail _ (List.Mem.head _)))
    have fR0 := free_two (i := 0) (hK.blk _ (List.Mem.tail _ (List.Mem.head _)))
    have fR1 := free_two (i := 1) (hK.blk _ (List.Mem.tail _ (List.Mem.head _)))
    replace hK : Kv w ((w1.setCell ⟨w.heap.size + 1 + 1 + 1, 0, none⟩ (.int .i64 0)).setCell ⟨w.heap.size + 1 + 1 + 1, 1, none⟩ (.int .i64 0)) [(w.heap.size + 1 + 1 + 1 + 1, .cells #[.int .i64 x.2, .int .i64 y.2, .int .i64 z.2] 37 (0, 0)), (w.heap.size + 1 + 1 + 1, .cells #[.int .i64 0, .int .i64 0] 23 (0, 0)), (w.heap.size + 1 + 1, .cells #[.int .i64 z.1.1, .int .i64 z.1.2] 23 (0, 0)), (w.heap.size + 1, .cells #[.int .i64 y.1.1, .int .i64 y.1.2] 23 (0, 0)), (w.heap.size, .cells #[.int .i64 x.1.1, .int .i64 x.1.2] 23 (0, 0))] := hK.setb (a := (0, 0)) (cs := [(w.heap.size + 1 + 1 + 1 + 1, .cells #[.int .i64 x.2, .int .i64 y.2, .int .i64 z.2] 37 (0, 0)), (w.heap.size + 1 + 1 + 1, .cells #[.int .i64 0, .int .i64 0] 23 (0, 0)), (w.heap.size + 1 + 1, .cells #[.int .i64 z.1.1, .int .i64 z.1.2] 23 (0, 0)), (w.heap.size + 1, .cells #[.int .i64 y.1.1, .int .i64 y.1.2] 23 (0, 0)), (w.heap.size, .cells #[.int .i64 x.1.1, .int .i64 x.1.2] 23 (0, 0))]) (List.Mem.tail _ (List.Mem.head _)) gR (0, 0) (List.forall_mem_cons.2 ⟨.inr ⟨(List.Mem.head _), nl20_R⟩, (List.forall_mem_cons.2 ⟨.inl rfl, (List.forall_mem_cons.2 ⟨.inr ⟨(List.Mem.tail _ (List.Mem.tail _ (List.Mem.head _))), (Ne.symm nR_z1)⟩, (List.forall_mem_cons.2 ⟨.inr ⟨(List.Mem.tail _ (List.Mem.tail _ (List.Mem.tail _ (List.Mem.head _)))), (Ne.symm nR_y1)⟩, (List.forall_mem_cons.2 ⟨.inr ⟨(List.Mem.tail _ (List.Mem.tail _ (List.Mem.tail _ (List.Mem.tail _ (List.Mem.head _))))), (Ne.symm nR_x1)⟩, (List.forall_mem_nil _)⟩)⟩)⟩)⟩)⟩)
    have HKK := Lib.hid hK
    clear hK
    go_wp2_with fail
    have hK := HKK.out
    have r0 := cell_two0 (hK.blk _ (List.Mem.tail _ (List.Mem.head _)))
    have r1 := cell_two1 (hK.blk _ (List.Mem.tail _ (List.Mem.head _)))
    exact bodyPost_ret (v := .tuple #[.agg #[.int .i64 0, .int .i64 0], .int .i64 n]) (by simp [results, Tryz.results52, go_sem, r0, r1]) rfl ⟨by rw [← HE.out], hK.bel⟩
set_option maxRecDepth 100000 in
set_option maxHeartbeats 600000 in
theorem ref6_less (a b c d : Int × Int) (w : World) : Calls Tryz.prog 54 #[.agg #[.int .i64 a.1, .int .i64 a.2], .agg #[.int .i64 b.1, .int .i64 b.2], .agg #[.int .i64 c.1, .int .i64 c.2], .agg #[.int .i64 d.1, .int .i64 d.2]] w fun e w' => e = .returned (.tuple #[.agg #[.int .i64 (rLess a b c d).1.1, .int .i64 (rLess a b c d).1.2], .int .i64 (rLess a b c d).2]) ∧ Below w.heap.size w w' := by
  obtain ⟨q, hq⟩ : ∃ q, rLess a b c d = q := ⟨_, rfl⟩
  rw [hq]
  unfold rLess at hq
  have HS := Lib.hid (fun W => ref2_Mul a b W)
  have HU := Lib.hid (fun W => ref2_Mul c d W)
  have HT := Lib.hid (fun W => ref2_Sub (sMul a b).1 (sMul c d).1 W)
  generalize sMul a b = s at *
  generalize sMul c d = u at *
  obtain ⟨n, hn⟩ : ∃ n, fst2 (fst2 0 s.2) u.2 = n := ⟨_, rfl⟩
  have HN := Lib.hid ((fstL_two s.2 u.2).trans hn)
  rw [hn] at hq
  clear hn
  by_cases he : n = 0
  · subst he
    rw [if_pos rfl] at hq
    rw [hq] at HT
    clear hq
    have hK : Kv w (((((w.alloc (.cells #[.int .i64 a.1, .int .i64 a.2] 23)).alloc (.cells #[.int .i64 b.1, .int .i64 b.2] 23)).alloc (.cells #[.int .i64 c.1, .int .i64 c.2] 23)).alloc (.cells #[.int .i64 d.1, .int .i64 d.2] 23)).alloc (.cells #[.int .i64 0, .int .i64 0] 23)) [(w.heap.size + 1 + 1 + 1 + 1, .cells #[.int .i64 0, .int .i64 0] 23 (0, 0)), (w.heap.size + 1 + 1 + 1, .cells #[.int .i64 d.1, .int .i64 d.2] 23 (0, 0)), (w.heap.size + 1 + 1, .cells #[.int .i64 c.1, .int .i64 c.2] 23 (0, 0)), (w.heap.size + 1, .cells #[.int .i64 b.1, .int .i64 b.2] 23 (0, 0)), (w.heap.size, .cells #[.int .i64 a.1, .int .i64 a.2] 23 (0, 0))] := ((((((Kv.start w).al (.cells #[.int .i64 a.1, .int .i64 a.2] 23 (0, 0)) (n := w.heap.size) (by simp)).al (.cells #[.int .i64 b.1, .int .i64 b.2] 23 (0, 0)) (n := w.heap.size + 1) (by simp)).al (.cells #[.int .i64 c.1, .int .i64 c.2] 23 (0, 0)) (n := w.heap.size + 1 + 1) (by simp)).al (.cells #[.int .i64 d.1, .int .i64 d.2] 23 (0, 0)) (n := w.heap.size + 1 + 1 + 1) (by simp)).al (.cells #[.int .i64 0, .int .i64 0] 23 (0, 0)) (n := w.heap.size + 1 + 1 + 1 + 1) (by simp))
    have gR : w.heap.size ≤ w.heap.size + 1 + 1 + 1 + 1 := by omega
    have nR_a : w.heap.size + 1 + 1 + 1 + 1 ≠ w.heap.size := by omega
    have nR_b : w.heap.size + 1 + 1 + 1 + 1 ≠ w.heap.size + 1 := by omega
    have nR_c : w.heap.size + 1 + 1 + 1 + 1 ≠ w.heap.size + 1 + 1 := by omega
    have nR_d : w.heap.size + 1 + 1 + 1 + 1 ≠ w.heap.size + 1 + 1 + 1 := by omega
    go_enter Tryz.func54, Tryz.ntmps54
    have ca0 := cell_two0 (hK.blk _ (List.Mem.tail _ (List.Mem.tail _ (List.Mem.tail _ (List.Mem.tail _ (List.Mem.head _))))))
    have ca1 := cell_two1 (hK.blk _ (List.Mem.tail _ (List.Mem.tail _ (List.Mem.tail _ (List.Mem.tail _ (List.Mem.head _))))))
    have la := lt_of_block (hK.blk _ (List.Mem.tail _ (List.Mem.tail _ (List.Mem.tail _ (List.Mem.tail _ (List.Mem.head _))))))
    have cb0 := cell_two0 (hK.blk _ (List.Mem.tail _ (List.Mem.tail _ (List.Mem.tail _ (List.Mem.head _)))))
    have cb1 := cell_two1 (hK.blk _ (List.Mem.tail _ (List.Mem.tail _ (List.Mem.tail _ (List.Mem.head _)))))
    have lb := lt_of_block (hK.blk _ (List.Mem.tail _ (List.Mem.tail _ (List.Mem.tail _ (List.Mem.head _)))))
    go_wp2_with fail
    refine (HS.out _).mono ?_; rintro e w1 ⟨rfl, hb⟩
    replace hK := hK.on hb
    clear ca0 ca1 la cb0 cb1 lb hb
    have nx10_R : w1.heap.size ≠ w.heap.size + 1 + 1 + 1 + 1 := by have h := lt_of_block (hK.blk _ (List.Mem.head _)); first | exact Nat.ne_of_gt h | (simp at h; omega)
    replace hK : Kv w (w1.alloc (.cells #[.int .i64 s.1.1, .int .i64 s.1.2] 23)) [(w1.heap.size, .cells #[.int .i64 s.1.1, .int .i64 s.1.2] 23 (0, 0)), (w.heap.size + 1 + 1 + 1 + 1, .cells #[.int .i64 0, .int .i64 0] 23 (0, 0)), (w.heap.size + 1 + 1 + 1, .cells #[.int .i64 d.1, .int .i64 d.2] 23 (0, 0)), (w.heap.size + 1 + 1, .cells #[.int .i64 c.1, .int .i64 c.2] 23 (0, 0)), (w.heap.size + 1, .cells #[.int .i64 b.1, .int .i64 b.2] 23 (0, 0)), (w.heap.size, .cells #[.int .i64 a.1, .int .i64 a.2] 23 (0, 0))] := hK.al (.cells #[.int .i64 s.1.1, .int .i64 s.1.2] 23 (0, 0)) (n := w1.heap.size) (by simp)
    have cc0 := cell_two0 (hK.blk _ (List.Mem.tail _ (List.Mem.tail _ (List.Mem.tail _ (List.Mem.head _)))))
    have cc1 := cell_two1 (hK.blk _ (List.Mem.tail _ (List.Mem.tail _ (List.Mem.tail _ (List.Mem.head _)))))
    have lc := lt_of_block (hK.blk _ (List.Mem.tail _ (List.Mem.tail _ (List.Mem.tail _ (List.Mem.head _)))))
    have cd0 := cell_two0 (hK.blk _ (List.Mem.tail _ (List.Mem.tail _ (List.Mem.head _))))
    have cd1 := cell_two1 (hK.blk _ (List.Mem.tail _ (List.Mem.tail _ (List.Mem.head _))))
    have ld := lt_of_block (hK.blk _ (List.Mem.tail _ (List.Mem.tail _ (List.Mem.head _))))
    go_wp2_with fail
    refine (HU.out _).mono ?_; rintro e w2 ⟨rfl, hb⟩
    replace hK := hK.on hb
    clear cc0 cc1 lc cd0 cd1 ld hb
    have nx12_R : w2.heap.size ≠ w.heap.size + 1 + 1 + 1 + 1 := by have h := lt_of_block (hK.blk _ (List.Mem.tail _ (List.Mem.head _))); first | exact Nat.ne_of_gt h | (simp at h; omega)
    replace hK : Kv w (w2.alloc (.cells #[.int .i64 u.1.1, .int .i64 u.1.2] 23)) [(w2.heap.size, .cells #[.int .i64 u.1.1, .int .i64 u.1.2] 23 (0, 0)), (w1.heap.size, .cells #[.int .i64 s.1.1, .int .i64 s.1.2] 23 (0, 0)), (w.heap.size + 1 + 1 + 1 + 1, .cells #[.int .i64 0, .int .i64 0] 23 (0, 0)), (w.heap.size + 1 + 1 + 1, .cells #[.int .i64 d.1, .int .i64 d.2] 23 (0, 0)), (w.heap.size + 1 + 1, .cells #[.int .i64 c.1, .int .i64 c.2] 23 (0, 0)), (w.heap.size + 1, .cells #[.int .i64 b.1, .int .i64 b.2] 23 (0, 0)), (w.heap.size, .cells #[.int .i64 a.1, .int .i64 a.2] 23 (0, 0))] := hK.al (.cells #[.int .i64 u.1.1, .int .i64 u.1.2] 23 (0, 0)) (n := w2.heap.size) (by simp)
    have nl29_R : w2.heap.size + 1 ≠ w.heap.size + 1 + 1 + 1 + 1 := by have h := lt_of_block (hK.blk _ (List.Mem.tail _ (List.Mem.tail _ (List.Mem.head _)))); first | exact Nat.ne_of_gt h | (simp at h; omega)
    replace hK : Kv w ((w2.alloc (.cells #[.int .i64 u.1.1, .int .i64 u.1.2] 23)).alloc (.cells #[.int .i64 s.2, .int .i64 u.2] 37)) [(w2.heap.size + 1, .cells #[.int .i64 s.2, .int .i64 u.2] 37 (0, 0)), (w2.heap.size, .cells #[.int .i64 u.1.1, .int .i64 u.1.2] 23 (0, 0)), (w1.heap.size, .cells #[.int .i64 s.1.1, .int .i64 s.1.2] 23 (0, 0)), (w.heap.size + 1 + 1 + 1 + 1, .cells #[.int .i64 0, .int .i64 0] 23 (0, 0)), (w.heap.size + 1 + 1 + 1, .cells #[.int .i64 d.1, .int .i64 d.2] 23 (0, 0)), (w.heap.size + 1 + 1, .cells #[.int .i64 c.1, .int .i64 c.2] 23 (0, 0)), (w.heap.size + 1, .cells #[.int .i64 b.1, .int .i64 b.2] 23 (0, 0)), (w.heap.size, .cells #[.int .i64 a.1, .int .i64 a.2] 23 (0, 0))] := hK.al (.cells #[.int .i64 s.2, .int .i64 u.2] 37 (0, 0)) (n := w2.heap.size + 1) (by simp)
    go_wp2_with fail
    refine ((ref6_First [s.2, u.2] (by simp) _ _ (hK.blk _ (List.Mem.head _)))).mono ?_; rintro e w3 ⟨rfl, hb⟩
    replace hK := hK.on hb
    clear hb
    rw [HN.out]
    have cx100 := cell_two0 (hK.blk _ (List.Mem.tail _ (List.Mem.tail _ (List.Mem.head _))))
    have cx101 := cell_two1 (hK.blk _ (List.Mem.tail _ (List.Mem.tail _ (List.Mem.head _))))
    have lx10 := lt_of_block (hK.blk _ (List.Mem.tail _ (List.Mem.tail _ (List.Mem.head _))))
    have cx120 := cell_two0 (hK.blk _ (List.Mem.tail _ (List.Mem.head _)))
    have cx121 := cell_two1 (hK.blk _ (List.Mem.tail _ (List.Mem.head _)))
    have lx12 := lt_of_block (hK.blk _ (List.Mem.tail _ (List.Mem.head _)))
    go_wp2_with fail
    refine (HT.out _).mono ?_; rintro e w4 ⟨rfl, hb⟩
    replace hK := hK.on hb
    clear cx100 cx101 lx10 cx120 cx121 lx12 hb
    have cR0 := cell_two0 (hK.blk _ (List.Mem.tail _ (List.Mem.tail _ (List.Mem.tail _ (List.Mem.head _)))))
    have cR1 := cell_two1 (hK.blk _ (List.Mem.tail _ (List.Mem.tail _ (List.Mem.tail _ (List.Mem.head _)))))
    have lR := lt_of_block (hK.blk _ (List.Mem.tail _ (List.Mem.tail _ (List.Mem.tail _ (List.Mem.head _)))))
    have fR0 := free_two (i := 0) (hK.blk _ (List.Mem.tail _ (List.Mem.tail _ (List.Mem.tail _ (List.Mem.head _)))))
    have fR1 := free_two (i := 1) (hK.blk _ (List.Mem.tail _ (List.Mem.tail _ (List.Mem.tail _ (List.Mem.head _)))))
    replace hK : Kv w ((w4.setCell ⟨w.heap.size + 1 + 1 + 1 + 1, 0, none⟩ (.int .i64 q.1.1)).setCell ⟨w.heap.size + 1 + 1 + 1 + 1, 1, none⟩ (.int .i64 q.1.2)) [(w2.heap.size + 1, .cells #[.int .i64 s.2, .int .i64 u.2] 37 (0, 0)), (w2.heap.size, .cells #[.int .i64 u.1.1, .int .i64 u.1.2] 23 (0, 0)), (w1.heap.size, .cells #[.int .i64 s.1.1, .int .i64 s.1.2] 23 (0, 0)), (w.heap.size + 1 + 1 + 1 + 1, .cells #[.int .i64 q.1.1, .int .i64 q.1.2] 23 (0, 0)), (w.heap.size + 1 + 1 + 1, .cells #[.int .i64 d.1, .int .i64 d.2] 23 (0, 0)), (w.heap.size + 1 + 1, .cells #[.int .i64 c.1, .int .i64 c.2] 23 (0, 0)), (w.heap.size + 1, .cells #[.int .i64 b.1, .int .i64 b.2] 23 (0, 0)), (w.heap.size, .cells #[.int .i64 a.1, .int .i64 a.2] 23 (0, 0))] := hK.setb (a := (0, 0)) (cs := [(w2.heap.size + 1, .cells #[.int .i64 s.2, .int .i64 u.2] 37 (0, 0)), (w2.heap.size, .cells #[.int .i64 u.1.1, .int .i64 u.1.2] 23 (0, 0)), (w1.heap.size, .cells #[.int .i64 s.1.1, .int .i64 s.1.2] 23 (0, 0)), (w.heap.size + 1 + 1 + 1 + 1, .cells #[.int .i64 q.1.1, .int .i64 q.1.2] 23 (0, 0)), (w.heap.size + 1 + 1 + 1, .cells #[.int .i64 d.1, .int .i64 d.2] 23 (0, 0)), (w.heap.size + 1 + 1, .cells #[.int .i64 c.1, .int .i64 c.2] 23 (0, 0)), (w.heap.size + 1, .cells #[.int .i64 b.1, .int .i64 b.2] 23 (0, 0)), (w.heap.size, .cells #[.int .i64 a.1, .int .i64 a.2] 23 (0, 0))]) (List.Mem.tail _ (List.Mem.tail _ (List.Mem.tail _ (List.Mem.head _)))) gR q.1 (List.forall_mem_cons.2 ⟨.inr ⟨(List.Mem.head _), nl29_R⟩, (List.forall_mem_cons.2 ⟨.inr ⟨(List.Mem.tail _ (List.Mem.head _)), nx12_R⟩, (List.forall_mem_cons.2 ⟨.inr ⟨(List.Mem.tail _ (List.Mem.tail _ (List.Mem.head _))), nx10_R⟩, (List.forall_mem_cons.2 ⟨.inl rfl, (List.forall_mem_cons.2 ⟨.inr ⟨(List.Mem.tail _ (List.Mem.tail _ (List.Mem.tail _ (List.Mem.tail _ (List.Mem.head _))))), (Ne.symm nR_d)⟩, (List.forall_mem_cons.2 ⟨.inr ⟨(List.Mem.tail _ (List.Mem.tail _ (List.Mem.tail _ (List.Mem.tail _ (List.Mem.tail _ (List.Mem.head _)))))), (Ne.symm nR_c)⟩, (List.forall_mem_cons.2 ⟨.inr ⟨(List.Mem.tail _ (List.Mem.tail _ (List.Mem.tail _ (List.Mem.tail _ (List.Mem.tail _ (List.Mem.tail _ (List.Mem.head _))))))), (Ne.symm nR_b)⟩, (List.forall_mem_cons.2 ⟨.inr ⟨(List.Mem.tail _ (List.Mem.tail _ (List.Mem.tail _ (List.Mem.tail _ (List.Mem.tail _ (List.Mem.tail _ (List.Mem.tail _ (List.Mem.head _)))))))), (Ne.symm nR_a)⟩, (List.forall_mem_nil _)⟩)⟩)⟩)⟩)⟩)⟩)⟩)⟩)
    have HKK := Lib.hid hK
    clear hK
    go_wp2_with fail
    have hK := HKK.out
    have r0 := cell_two0 (hK.blk _ (List.Mem.tail _ (List.Mem.tail _ (List.Mem.tail _ (List.Mem.head _)))))
    have r1 := cell_two1 (hK.blk _ (List.Mem.tail _ (List.Mem.tail _ (List.Mem.tail _ (List.Mem.head _)))))
    exact bodyPost_ret (v := .tuple #[.agg #[.int .i64 q.1.1, .int .i64 q.1.2], .int .i64 q.2]) (by simp [results, Tryz.results54, go_sem, r0, r1]) rfl ⟨rfl, hK.bel⟩
  · rw [if_neg he] at hq
    have HE := Lib.hid hq
    have q0 : (n == 0) = false := by simp [he]
    clear hq HT
    have hK : Kv w (((((w.alloc (.cells #[.int .i64 a.1, .int .i64 a.2] 23)).alloc (.cells #[.int .i64 b.1, .int .i64 b.2] 23)).alloc (.cells #[.int .i64 c.1, .int .i64 c.2] 23)).alloc (.cells #[.int .i64 d.1, .int .i64 d.2] 23)).alloc (.cells #[.int .i64 0, .int .i64 0] 23)) [(w.heap.size + 1 + 1 + 1 + 1, .cells #[.int .i64 0, .int .i64 0] 23 (0, 0)), (w.heap.size + 1 + 1 + 1, .cells #[.int .i64 d.1, .int .i64 d.2] 23 (0, 0)), (w.heap.size + 1 + 1, .cells #[.int .i64 c.1, .int .i64 c.2] 23 (0, 0)), (w.heap.size + 1, .cells #[.int .i64 b.1, .int .i64 b.2] 23 (0, 0)), (w.heap.size, .cells #[.int .i64 a.1, .int .i64 a.2] 23 (0, 0))] := ((((((Kv.start w).al (.cells #[.int .i64 a.1, .int .i64 a.2] 23 (0, 0)) (n := w.heap.size) (by simp)).al (.cells #[.int .i64 b.1, .int .i64 b.2] 23 (0, 0)) (n := w.heap.size + 1) (by simp)).al (.cells #[.int .i64 c.1, .int .i64 c.2] 23 (0, 0)) (n := w.heap.size + 1 + 1) (by simp)).al (.cells #[.int .i64 d.1, .int .i64 d.2] 23 (0, 0)) (n := w.heap.size + 1 + 1 + 1) (by simp)).al (.cells #[.int .i64 0, .int .i64 0] 23 (0, 0)) (n := w.heap.size + 1 + 1 + 1 + 1) (by simp))
    have gR : w.heap.size ≤ w.heap.size + 1 + 1 + 1 + 1 := by omega
    have nR_a : w.heap.size + 1 + 1 + 1 + 1 ≠ w.heap.size := by omega
    have nR_b : w.heap.size + 1 + 1 + 1 + 1 ≠ w.heap.size + 1 := by omega
    have nR_c : w.heap.size + 1 + 1 + 1 + 1 ≠ w.heap.size + 1 + 1 := by omega
    have nR_d : w.heap.size + 1 + 1 + 1 + 1 ≠ w.heap.size + 1 + 1 + 1 := by omega
    go_enter Tryz.func54, Tryz.ntmps54
    have ca0 := cell_two0 (hK.blk _ (List.Mem.tail _ (List.Mem.tail _ (List.Mem.tail _ (List.Mem.tail _ (List.Mem.head _))))))
    have ca1 := cell_two1 (hK.blk _ (List.Mem.tail _ (List.Mem.tail _ (List.Mem.tail _ (List.Mem.tail _ (List.Mem.head _))))))
    have la := lt_of_block (hK.blk _ (List.Mem.tail _ (List.Mem.tail _ (List.Mem.tail _ (List.Mem.tail _ (List.Mem.head _))))))
    have cb0 := cell_two0 (hK.blk _ (List.Mem.tail _ (List.Mem.tail _ (List.Mem.tail _ (List.Mem.head _)))))
    have cb1 := cell_two1 (hK.blk _ (List.Mem.tail _ (List.Mem.tail _ (List.Mem.tail _ (List.Mem.head _)))))
    have lb := lt_of_block (hK.blk _ (List.Mem.tail _ (List.Mem.tail _ (List.Mem.tail _ (List.Mem.head _)))))
    go_wp2_with fail
    refine (HS.out _).mono ?_; rintro e w1 ⟨rfl, hb⟩
    replace hK := hK.on hb
    clear ca0 ca1 la cb0 cb1 lb hb
    have nx10_R : w1.heap.size ≠ w.heap.size + 1 + 1 + 1 + 1 := by have h := lt_of_block (hK.blk _ (List.Mem.head _)); first | exact Nat.ne_of_gt h | (simp at h; omega)
    replace hK : Kv w (w1.alloc (.cells #[.int .i64 s.1.1, .int .i64 s.1.2] 23)) [(w1.heap.size, .cells #[.int .i64 s.1.1, .int .i64 s.1.2] 23 (0, 0)), (w.heap.size + 1 + 1 + 1 + 1, .cells #[.int .i64 0, .int .i64 0] 23 (0, 0)), (w.heap.size + 1 + 1 + 1, .cells #[.int .i64 d.1, .int .i64 d.2] 23 (0, 0)), (w.heap.size + 1 + 1, .cells #[.int .i64 c.1, .int .i64 c.2] 23 (0, 0)), (w.heap.size + 1, .cells #[.int .i64 b.1, .int .i64 b.2] 23 (0, 0)), (w.heap.size, .cells #[.int .i64 a.1, .int .i64 a.2] 23 (0, 0))] := hK.al (.cells #[.int .i64 s.1.1, .int .i64 s.1.2] 23 (0, 0)) (n := w1.heap.size) (by simp)
    have cc0 := cell_two0 (hK.blk _ (List.Mem.tail _ (List.Mem.tail _ (List.Mem.tail _ (List.Mem.head _)))))
    have cc1 := cell_two1 (hK.blk _ (List.Mem.tail _ (List.Mem.tail _ (List.Mem.tail _ (List.Mem.head _)))))
    have lc := lt_of_block (hK.blk _ (List.Mem.tail _ (List.Mem.tail _ (List.Mem.tail _ (List.Mem.head _)))))
    have cd0 := cell_two0 (hK.blk _ (List.Mem.tail _ (List.Mem.tail _ (List.Mem.head _))))
    have cd1 := cell_two1 (hK.blk _ (List.Mem.tail _ (List.Mem.tail _ (List.Mem.head _))))
    have ld := lt_of_block (hK.blk _ (List.Mem.tail _ (List.Mem.tail _ (List.Mem.head _))))
    go_wp2_with fail
    refine (HU.out _).mono ?_; rintro e w2 ⟨rfl, hb⟩
    replace hK := hK.on hb
    clear cc0 cc1 lc cd0 cd1 ld hb
    have nx12_R : w2.heap.size ≠ w.heap.size + 1 + 1 + 1 + 1 := by have h := lt_of_block (hK.blk _ (List.Mem.tail _ (List.Mem.head _))); first | exact Nat.ne_of_gt h | (simp at h; omega)
    replace hK : Kv w (w2.alloc (.cells #[.int .i64 u.1.1, .int .i64 u.1.2] 23)) [(w2.heap.size, .cells #[.int .i64 u.1.1, .int .i64 u.1.2] 23 (0, 0)), (w1.heap.size, .cells #[.int .i64 s.1.1, .int .i64 s.1.2] 23 (0, 0)), (w.heap.size + 1 + 1 + 1 + 1, .cells #[.int .i64 0, .int .i64 0] 23 (0, 0)), (w.heap.size + 1 + 1 + 1, .cells #[.int .i64 d.1, .int .i64 d.2] 23 (0, 0)), (w.heap.size + 1 + 1, .cells #[.int .i64 c.1, .int .i64 c.2] 23 (0, 0)), (w.heap.size + 1, .cells #[.int .i64 b.1, .int .i64 b.2] 23 (0, 0)), (w.heap.size, .cells #[.int .i64 a.1, .int .i64 a.2] 23 (0, 0))] := hK.al (.cells #[.int .i64 u.1.1, .int .i64 u.1.2] 23 (0, 0)) (n := w2.heap.size) (by simp)
    have nl29_R : w2.heap.size + 1 ≠ w.heap.size + 1 + 1 + 1 + 1 := by have h := lt_of_block (hK.blk _ (List.Mem.tail _ (List.Mem.tail _ (List.Mem.head _)))); first | exact Nat.ne_of_gt h | (simp at h; omega)
    replace hK : Kv w ((w2.alloc (.cells #[.int .i64 u.1.1, .int .i64 u.1.2] 23)).alloc (.cells #[.int .i64 s.2, .int .i64 u.2] 37)) [(w2.heap.size + 1, .cells #[.int .i64 s.2, .int .i64 u.2] 37 (0, 0)), (w2.heap.size, .cells #[.int .i64 u.1.1, .int .i64 u.1.2] 23 (0, 0)), (w1.heap.size, .cells #[.int .i64 s.1.1, .int .i64 s.1.2] 23 (0, 0)), (w.heap.size + 1 + 1 + 1 + 1, .cells #[.int .i64 0, .int .i64 0] 23 (0, 0)), (w.heap.size + 1 + 1 + 1, .cells #[.int .i64 d.1, .int .i64 d.2] 23 (0, 0)), (w.heap.size + 1 + 1, .cells #[.int .i64 c.1, .int .i64 c.2] 23 (0, 0)), (w.heap.size + 1, .cells #[.int .i64 b.1, .int .i64 b.2] 23 (0, 0)), (w.heap.size, .cells #[.int .i64 a.1, .int .i64 a.2] 23 (0, 0))] := hK.al (.cells #[.int .i64 s.2, .int .i64 u.2] 37 (0, 0)) (n := w2.heap.size + 1) (by simp)
    go_wp2_with fail
    refine ((ref6_First [s.2, u.2] (by simp) _ _ (hK.blk _ (List.Mem.head _)))).mono ?_; rintro e w3 ⟨rfl, hb⟩
    replace hK := hK.on hb
    clear hb
    rw [HN.out]
    have cR0 := cell_two0 (hK.blk _ (List.Mem.tail _ (List.Mem.tail _ (List.Mem.tail _ (List.Mem.head _)))))
    have cR1 := cell_two1 (hK.blk _ (List.Mem.tail _ (List.Mem.tail _ (List.Mem.tail _ (List.Mem.head _)))))
    have lR := lt_of_block (hK.blk _ (List.Mem.tail _ (List.Mem.tail _ (List.Mem.tail _ (List.Mem.head _)))))
    have fR0 := free_two (i := 0) (hK.blk _ (List.Mem.tail _ (List.Mem.tail _ (List.Mem.tail _ (List.Mem.head _)))))
    have fR1 := free_two (i := 1) (hK.blk _ (List.Mem.tail _ (List.Mem.tail _ (List.Mem.tail _ (List.Mem.head _)))))
    replace hK : Kv w ((w3.setCell ⟨w.heap.size + 1 + 1 + 1 + 1, 0, none⟩ (.int .i64 0)).setCell ⟨w.heap.size + 1 + 1 + 1 + 1, 1, none⟩ (.int .i64 0)) [(w2.heap.size + 1, .cells #[.int .i64 s.2, .int .i64 u.2] 37 (0, 0)), (w2.heap.size, .cells #[.int .i64 u.1.1, .int .i64 u.1.2] 23 (0, 0)), (w1.heap.size, .cells #[.int .i64 s.1.1, .int .i64 s.1.2] 23 (0, 0)), (w.heap.size + 1 + 1 + 1 + 1, .cells #[.int .i64 0, .int .i64 0] 23 (0, 0)), (w.heap.size + 1 + 1 + 1, .cells #[.int .i64 d.1, .int .i64 d.2] 23 (0, 0)), (w.heap.size + 1 + 1, .cells #[.int .i64 c.1, .int .i64 c.2] 23 (0, 0)), (w.heap.size + 1, .cells #[.int .i64 b.1, .int .i64 b.2] 23 (0, 0)), (w.heap.size, .cells #[.int .i64 a.1, .int .i64 a.2] 23 (0, 0))] := hK.setb (a := (0, 0)) (cs := [(w2.heap.size + 1, .cells #[.int .i64 s.2, .int .i64 u.2] 37 (0, 0)), (w2.heap.size, .cells #[.int .i64 u.1.1, .int .i64 u.1.2] 23 (0, 0)), (w1.heap.size, .cells #[.int .i64 s.1.1, .int .i64 s.1.2] 23 (0, 0)), (w.heap.size + 1 + 1 + 1 + 1, .cells #[.int .i64 0, .int .i64 0] 23 (0, 0)), (w.heap.size + 1 + 1 + 1, .cells #[.int .i64 d.1, .int .i64 d.2] 23 (0, 0)), (w.heap.size + 1 + 1, .cells #[.int .i64 c.1, .int .i64 c.2] 23 (0, 0)), (w.heap.size + 1, .cells #[.int .i64 b.1, .int .i64 b.2] 23 (0, 0)), (w.heap.size, .cells #[.int .i64 a.1, .int .i64 a.2] 23 (0, 0))]) (List.Mem.tail _ (List.Mem.tail _ (List.Mem.tail _ (List.Mem.head _)))) gR (0, 0) (List.forall_mem_cons.2 ⟨.inr ⟨(List.Mem.head _), nl29_R⟩, (List.forall_mem_cons.2 ⟨.inr ⟨(List.Mem.tail _ (List.Mem.head _)), nx12_R⟩, (List.forall_mem_cons.2 ⟨.inr ⟨(List.Mem.tail _ (List.Mem.tail _ (List.Mem.head _))), nx10_R⟩, (List.forall_mem_cons.2 ⟨.inl rfl, (List.forall_mem_cons.2 ⟨.inr ⟨(List.Mem.tail _ (List.Mem.tail _ (List.Mem.tail _ (List.Mem.tail _ (List.Mem.head _))))), (Ne.symm nR_d)⟩, (List.forall_mem_cons.2 ⟨.inr ⟨(List.Mem.tail _ (List.Mem.tail _ (List.Mem.tail _ (List.Mem.tail _ (List.Mem.tail _ (List.Mem.head _)))))), (Ne.symm nR_c)⟩, (List.forall_mem_cons.2 ⟨.inr ⟨(List.Mem.tail _ (List.Mem.tail _ (List.Mem.tail _ (List.Mem.tail _ (List.Mem.tail _ (List.Mem.tail _ (List.Mem.head _))))))), (Ne.symm nR_b)⟩, (List.forall_mem_cons.2 ⟨.inr ⟨(List.Mem.tail _ (List.Mem.tail _ (List.Mem.tail _ (List.Mem.tail _ (List.Mem.tail _ (List.Mem.tail _ (List.Mem.tail _ (List.Mem.head _)))))))), (Ne.symm nR_a)⟩, (List.forall_mem_nil _)⟩)⟩)⟩)⟩)⟩)⟩)⟩)⟩)
    have HKK := Lib.hid hK
    clear hK
    go_wp2_with fail
    have hK := HKK.out
    have r0 := cell_two0 (hK.blk _ (List.Mem.tail _ (List.Mem.tail _ (List.Mem.tail _ (List.Mem.head _)))))
    have r1 := cell_two1 (hK.blk _ (List.Mem.tail _ (List.Mem.tail _ (List.Mem.tail _ (List.Mem.head _)))))
    exact bodyPost_ret (v := .tuple #[.agg #[.int .i64 0, .int .i64 0], .int .i64 n]) (by simp [results, Tryz.results54, go_sem, r0, r1]) rfl ⟨by rw [← HE.out], hK.bel⟩
set_option maxRecDepth 100000 in
set_option maxHeartbeats 600000 in
theorem ref6_Dot (a b : V3) (w : World) : Calls Tryz.prog 20 #[.agg #[.int .i64 a.1.1, .int .i64 a.1.2, .int .i64 a.2.1.1, .int .i64 a.2.1.2, .int .i64 a.2.2.1, .int .i64 a.2.2.2], .agg #[.int .i64 b.1.1, .int .i64 b.1.2, .int .i64 b.2.1.1, .int .i64 b.2.1.2, .int .i64 b.2.2.1, .int .i64 b.2.2.2]] w fun e w' => e = .returned (.tuple #[.agg #[.int .i64 (vDot a b).1.1, .int .i64 (vDot a b).1.2], .int .i64 (vDot a b).2]) ∧ Below w.heap.size w w' := by
  obtain ⟨q, hq⟩ : ∃ q, vDot a b = q := ⟨_, rfl⟩
  rw [hq]
  have HQ := Lib.hid hq
  clear hq
  by_cases ha : okV a
  · by_cases hb : okV b
    · have HV := Lib.hid (show rThree (sMul a.1 b.1) (sMul a.2.1 b.2.1) (sMul a.2.2 b.2.2) = q from (vDot_r ha hb).symm.trans HQ.out)
      have Ha := Lib.hid ha
      have Hb := Lib.hid hb
      clear ha hb HQ
      have hK : Kv w (((w.alloc (.cells #[.int .i64 a.1.1, .int .i64 a.1.2, .int .i64 a.2.1.1, .int .i64 a.2.1.2, .int .i64 a.2.2.1, .int .i64 a.2.2.2] 25)).alloc (.cells #[.int .i64 b.1.1, .int .i64 b.1.2, .int .i64 b.2.1.1, .int .i64 b.2.1.2, .int .i64 b.2.2.1, .int .i64 b.2.2.2] 25)).alloc (.cells #[.int .i64 0, .int .i64 0] 23)) [(w.heap.size + 1 + 1, .cells #[.int .i64 0, .int .i64 0] 23 (0, 0)), (w.heap.size + 1, vobj (vl b)), (w.heap.size, vobj (vl a))] := ((((Kv.start w).al (vobj (vl a)) (n := w.heap.size) (by simp)).al (vobj (vl b)) (n := w.heap.size + 1) (by simp)).al (.cells #[.int .i64 0, .int .i64 0] 23 (0, 0)) (n := w.heap.size + 1 + 1) (by simp))
      have gR : w.heap.size ≤ w.heap.size + 1 + 1 := by omega
      have nR_a : w.heap.size + 1 + 1 ≠ w.heap.size := by omega
      have nR_b : w.heap.size + 1 + 1 ≠ w.heap.size + 1 := by omega
      go_enter Tryz.func20, Tryz.ntmps20
      obtain ⟨ca0, ca1, ca2, ca3, ca4, ca5⟩ := vobj_six (hK.blk _ (List.Mem.tail _ (List.Mem.tail _ (List.Mem.head _))))
      have la := lt_of_block (hK.blk _ (List.Mem.tail _ (List.Mem.tail _ (List.Mem.head _))))
      go_wp2_with fail
      refine (ref6_Right_ok Ha.out _).mono ?_; rintro e w1 ⟨rfl, hb⟩
      replace hK := hK.on hb
      clear ca0 ca1 ca2 ca3 ca4 ca5 la hb
      obtain ⟨cb0, cb1, cb2, cb3, cb4, cb5⟩ := vobj_six (hK.blk _ (List.Mem.tail _ (List.Mem.head _)))
      have lb := lt_of_block (hK.blk _ (List.Mem.tail _ (List.Mem.head _)))
      go_wp2_with fail
      refine (ref6_Right_ok Hb.out _).mono ?_; rintro e w2 ⟨rfl, hb⟩
      replace hK := hK.on hb
      clear cb0 cb1 cb2 cb3 cb4 cb5 lb hb
      obtain ⟨ca0, ca1, ca2, ca3, ca4, ca5⟩ := vobj_six (hK.blk _ (List.Mem.tail _ (List.Mem.tail _ (List.Mem.head _))))
      have la := lt_of_block (hK.blk _ (List.Mem.tail _ (List.Mem.tail _ (List.Mem.head _))))
      obtain ⟨cb0, cb1, cb2, cb3, cb4, cb5⟩ := vobj_six (hK.blk _ (List.Mem.tail _ (List.Mem.head _)))
      have lb := lt_of_block (hK.blk _ (List.Mem.tail _ (List.Mem.head _)))
      go_wp2_with fail
      refine (ref2_Mul a.1 b.1 _).mono ?_; rintro e w3 ⟨rfl, hb⟩
      replace hK := hK.on hb
      clear ca0 ca1 ca2 ca3 ca4 ca5 la cb0 cb1 cb2 cb3 cb4 cb5 lb hb
      have nx6_R : w3.heap.size ≠ w.heap.size + 1 + 1 := by have h := lt_of_block (hK.blk _ (List.Mem.head _)); first | exact Nat.ne_of_gt h | (simp at h; omega)
      replace hK : Kv w (w3.alloc (.cells #[.int .i64 (sMul a.1 b.1).1.1, .int .i64 (sMul a.1 b.1).1.2] 23)) [(w3.heap.size, .cells #[.int .i64 (sMul a.1 b.1).1.1, .int .i64 (sMul a.1 b.1).1.2] 23 (0, 0)), (w.heap.size + 1 + 1, .cells #[.int .i64 0, .int .i64 0] 23 (0, 0)), (w.heap.size + 1, vobj (vl b)), (w.heap.size, vobj (vl a))] := hK.al (.cells #[.int .i64 (sMul a.1 b.1).1.1, .int .i64 (sMul a.1 b.1).1.2] 23 (0, 0)) (n := w3.heap.size) (by simp)
      obtain ⟨ca0, ca1, ca2, ca3, ca4, ca5⟩ := vobj_six (hK.blk _ (List.Mem.tail _ (List.Mem.tail _ (List.Mem.tail _ (List.Mem.head _)))))
      have la := lt_of_block (hK.blk _ (List.Mem.tail _ (List.Mem.tail _ (List.Mem.tail _ (List.Mem.head _)))))
      obtain ⟨cb0, cb1, cb2, cb3, cb4, cb5⟩ := vobj_six (hK.blk _ (List.Mem.tail _ (List.Mem.tail _ (List.Mem.head _))))
      have lb := lt_of_block (hK.blk _ (List.Mem.tail _ (List.Mem.tail _ (List.Mem.head _))))
      go_wp2_with fail
      refine (ref2_Mul a.2.1 b.2.1 _).mono ?_; rintro e w4 ⟨rfl, hb⟩
      replace hK := hK.on hb
      clear ca0 ca1 ca2 ca3 ca4 ca5 la cb0 cb1 cb2 cb3 cb4 cb5 lb hb
      have nx8_R : w4.heap.size ≠ w.heap.size + 1 + 1 := by have h := lt_of_block (hK.blk _ (List.Mem.tail _ (List.Mem.head _))); first | exact Nat.ne_of_gt h | (simp at h; omega)
      replace hK : Kv w (w4.alloc (.cells #[.int .i64 (sMul a.2.1 b.2.1).1.1, .int .i64 (sMul a.2.1 b.2.1).1.2] 23)) [(w4.heap.size, .cells #[.int .i64 (sMul a.2.1 b.2.1).1.1, .int .i64 (sMul a.2.1 b.2.1).1.2] 23 (0, 0)), (w3.heap.size, .cells #[.int .i64 (sMul a.1 b.1).1.1, .int .i64 (sMul a.1 b.1).1.2] 23 (0, 0)), (w.heap.size + 1 + 1, .cells #[.int .i64 0, .int .i64 0] 23 (0, 0)), (w.heap.size + 1, vobj (vl b)), (w.heap.size, vobj (vl a))] := hK.al (.cells #[.int .i64 (sMul a.2.1 b.2.1).1.1, .int .i64 (sMul a.2.1 b.2.1).1.2] 23 (0, 0)) (n := w4.heap.size) (by simp)
      obtain ⟨ca0, ca1, ca2, ca3, ca4, ca5⟩ := vobj_six (hK.blk _ (List.Mem.tail _ (List.Mem.tail _ (List.Mem.tail _ (List.Mem.tail _ (List.Mem.head _))))))
      have la := lt_of_block (hK.blk _ (List.Mem.tail _ (List.Mem.tail _ (List.Mem.tail _ (List.Mem.tail _ (List.Mem.head _))))))
      obtain ⟨cb0, cb1, cb2, cb3, cb4, cb5⟩ := vobj_six (hK.blk _ (List.Mem.tail _ (List.Mem.tail _ (List.Mem.tail _ (List.Mem.head _)))))
      have lb := lt_of_block (hK.blk _ (List.Mem.tail _ (List.Mem.tail _ (List.Mem.tail _ (List.Mem.head _)))))
      go_wp2_with fail
      refine (ref2_Mul a.2.2 b.2.2 _).mono ?_; rintro e w5 ⟨rfl, hb⟩
      replace hK := hK.on hb
      clear ca0 ca1 ca2 ca3 ca4 ca5 la cb0 cb1 cb2 cb3 cb4 cb5 lb hb
      have nx10_R : w5.heap.size ≠ w.heap.size + 1 + 1 := by have h := lt_of_block (hK.blk _ (List.Mem.tail _ (List.Mem.tail _ (List.Mem.head _)))); first | exact Nat.ne_of_gt h | (simp at h; omega)
      replace hK : Kv w (w5.alloc (.cells #[.int .i64 (sMul a.2.2 b.2.2).1.1, .int .i64 (sMul a.2.2 b.2.2).1.2] 23)) [(w5.heap.size, .cells #[.int .i64 (sMul a.2.2 b.2.2).1.1, .int .i64 (sMul a.2.2 b.2.2).1.2] 23 (0, 0)), (w4.heap.size, .cells #[.int .i64 (sMul a.2.1 b.2.1).1.1, .int .i64 (sMul a.2.1 b.2.1).1.2] 23 (0, 0)), (w3.heap.size, .cells #[.int .i64 (sMul a.1 b.1).1.1, .int .i64 (sMul a.1 b.1).1.2] 23 (0, 0)), (w.heap.size + 1 + 1, .cells #[.int .i64 0, .int .i64 0] 23 (0, 0)), (w.heap.size + 1, vobj (vl b)), (w.heap.size, vobj (vl a))] := hK.al (.cells #[.int .i64 (sMul a.2.2 b.2.2).1.1, .int .i64 (sMul a.2.2 b.2.2).1.2] 23 (0, 0)) (n := w5.heap.size) (by simp)
      have cx60 := cell_two0 (hK.blk _ (List.Mem.tail _ (List.Mem.tail _ (List.Mem.head _))))
      have cx61 := cell_two1 (hK.blk _ (List.Mem.tail _ (List.Mem.tail _ (List.Mem.head _))))
      have lx6 := lt_of_block (hK.blk _ (List.Mem.tail _ (List.Mem.tail _ (List.Mem.head _))))
      have cx80 := cell_two0 (hK.blk _ (List.Mem.tail _ (List.Mem.head _)))
      have cx81 := cell_two1 (hK.blk _ (List.Mem.tail _ (List.Mem.head _)))
      have lx8 := lt_of_block (hK.blk _ (List.Mem.tail _ (List.Mem.head _)))
      have cx100 := cell_two0 (hK.blk _ (List.Mem.head _))
      have cx101 := cell_two1 (hK.blk _ (List.Mem.head _))
      have lx10 := lt_of_block (hK.blk _ (List.Mem.head _))
      go_wp2_with fail
      refine (ref6_three (sMul a.1 b.1) (sMul a.2.1 b.2.1) (sMul a.2.2 b.2.2) _).mono ?_; rintro e w6 ⟨rfl, hb⟩
      replace hK := hK.on hb
      clear cx60 cx61 lx6 cx80 cx81 lx8 cx100 cx101 lx10 hb
      rw [HV.out]
      have cR0 := cell_two0 (hK.blk _ (List.Mem.tail _ (List.Mem.tail _ (List.Mem.tail _ (List.Mem.head _)))))
      have cR1 := cell_two1 (hK.blk _ (List.Mem.tail _ (List.Mem.tail _ (List.Mem.tail _ (List.Mem.head _)))))
      have lR := lt_of_block (hK.blk _ (List.Mem.tail _ (List.Mem.tail _ (List.Mem.tail _ (List.Mem.head _)))))
      have fR0 := free_two (i := 0) (hK.blk _ (List.Mem.tail _ (List.Mem.tail _ (List.Mem.tail _ (List.Mem.head _)))))
      have fR1 := free_two (i := 1) (hK.blk _ (List.Mem.tail _ (List.Mem.tail _ (List.Mem.tail _ (List.Mem.head _)))))
      replace hK : Kv w ((w6.setCell ⟨w.heap.size + 1 + 1, 0, none⟩ (.int .i64 q.1.1)).setCell ⟨w.heap.size + 1 + 1, 1, none⟩ (.int .i64 q.1.2)) [(w5.heap.size, .cells #[.int .i64 (sMul a.2.2 b.2.2).1.1, .int .i64 (sMul a.2.2 b.2.2).1.2] 23 (0, 0)), (w4.heap.size, .cells #[.int .i64 (sMul a.2.1 b.2.1).1.1, .int .i64 (sMul a.2.1 b.2.1).1.2] 23 (0, 0)), (w3.heap.size, .cells #[.int .i64 (sMul a.1 b.1).1.1, .int .i64 (sMul a.1 b.1).1.2] 23 (0, 0)), (w.heap.size + 1 + 1, .cells #[.int .i64 q.1.1, .int .i64 q.1.2] 23 (0, 0)), (w.heap.size + 1, vobj (vl b)), (w.heap.size, vobj (vl a))] := hK.setb (a := (0, 0)) (cs := [(w5.heap.size, .cells #[.int .i64 (sMul a.2.2 b.2.2).1.1, .int .i64 (sMul a.2.2 b.2.2).1.2] 23 (0, 0)), (w4.heap.size, .cells #[.int .i64 (sMul a.2.1 b.2.1).1.1, .int .i64 (sMul a.2.1 b.2.1).1.2] 23 (0, 0)), (w3.heap.size, .cells #[.int .i64 (sMul a.1 b.1).1.1, .int .i64 (sMul a.1 b.1).1.2] 23 (0, 0)), (w.heap.size + 1 + 1, .cells #[.int .i64 q.1.1, .int .i64 q.1.2] 23 (0, 0)), (w.heap.size + 1, vobj (vl b)), (w.heap.size, vobj (vl a))]) (List.Mem.tail _ (List.Mem.tail _ (List.Mem.tail _ (List.Mem.head _)))) gR q.1 (List.forall_mem_cons.2 ⟨.inr ⟨(List.Mem.head _), nx10_R⟩, (List.forall_mem_cons.2 ⟨.inr ⟨(List.Mem.tail _ (List.Mem.head _)), nx8_R⟩, (List.forall_mem_cons.2 ⟨.inr ⟨(List.Mem.tail _ (List.Mem.tail _ (List.Mem.head _))), nx6_R⟩, (List.forall_mem_cons.2 ⟨.inl rfl, (List.forall_mem_cons.2 ⟨.inr ⟨(List.Mem.tail _ (List.Mem.tail _ (List.Mem.tail _ (List.Mem.tail _ (List.Mem.head _))))), (Ne.symm nR_b)⟩, (List.forall_mem_cons.2 ⟨.inr ⟨(List.Mem.tail _ (List.Mem.tail _ (List.Mem.tail _ (List.Mem.tail _ (List.Mem.tail _ (List.Mem.head _)))))), (Ne.symm nR_a)⟩, (List.forall_mem_nil _)⟩)⟩)⟩)⟩)⟩)⟩)
      have HKK := Lib.hid hK
      clear hK
      go_wp2_with fail
      have hK := HKK.out
      have r0 := cell_two0 (hK.blk _ (List.Mem.tail _ (List.Mem.tail _ (List.Mem.tail _ (List.Mem.head _)))))
      have r1 := cell_two1 (hK.blk _ (List.Mem.tail _ (List.Mem.tail _ (List.Mem.tail _ (List.Mem.head _)))))
      exact bodyPost_ret (v := .tuple #[.agg #[.int .i64 q.1.1, .int .i64 q.1.2], .int .i64 q.2]) (by simp [results, Tryz.results20, go_sem, r0, r1]) rfl ⟨rfl, hK.bel⟩
    · have HE := Lib.hid (show ((0, 0), (20 : Int)) = q from (vDot_bad (fun g => hb g.2)).symm.trans HQ.out)
      have Ha := Lib.hid ha
      have Hb := Lib.hid hb
      clear ha hb HQ
      have hK : Kv w (((w.alloc (.cells #[.int .i64 a.1.1, .int .i64 a.1.2, .int .i64 a.2.1.1, .int .i64 a.2.1.2, .int .i64 a.2.2.1, .int .i64 a.2.2.2] 25)).alloc (.cells #[.int .i64 b.1.1, .int .i64 b.1.2, .int .i64 b.2.1.1, .int .i64 b.2.1.2, .int .i64 b.2.2.1, .int .i64 b.2.2.2] 25)).alloc (.cells #[.int .i64 0, .int .i64 0] 23)) [(w.heap.size + 1 + 1, .cells #[.int .i64 0, .int .i64 0] 23 (0, 0)), (w.heap.size + 1, vobj (vl b)), (w.heap.size, vobj (vl a))] := ((((Kv.start w).al (vobj (vl a)) (n := w.heap.size) (by simp)).al (vobj (vl b)) (n := w.heap.size + 1) (by simp)).al (.cells #[.int .i64 0, .int .i64 0] 23 (0, 0)) (n := w.heap.size + 1 + 1) (by simp))
      have gR : w.heap.size ≤ w.heap.size + 1 + 1 := by omega
      have nR_a : w.heap.size + 1 + 1 ≠ w.heap.size := by omega
      have nR_b : w.heap.size + 1 + 1 ≠ w.heap.size + 1 := by omega
      go_enter Tryz.func20, Tryz.ntmps20
      obtain ⟨ca0, ca1, ca2, ca3, ca4, ca5⟩ := vobj_six (hK.blk _ (List.Mem.tail _ (List.Mem.tail _ (List.Mem.head _))))
      have la := lt_of_block (hK.blk _ (List.Mem.tail _ (List.Mem.tail _ (List.Mem.head _))))
      go_wp2_with fail
      refine (ref6_Right_ok Ha.out _).mono ?_; rintro e w1 ⟨rfl, hb⟩
      replace hK := hK.on hb
      clear ca0 ca1 ca2 ca3 ca4 ca5 la hb
      obtain ⟨cb0, cb1, cb2, cb3, cb4, cb5⟩ := vobj_six (hK.blk _ (List.Mem.tail _ (List.Mem.head _)))
      have lb := lt_of_block (hK.blk _ (List.Mem.tail _ (List.Mem.head _)))
      go_wp2_with fail
      refine (ref6_Right_bad Hb.out _).mono ?_; rintro e w2 ⟨rfl, hb⟩
      replace hK := hK.on hb
      clear cb0 cb1 cb2 cb3 cb4 cb5 lb hb
      have cR0 := cell_two0 (hK.blk _ (List.Mem.head _))
      have cR1 := cell_two1 (hK.blk _ (List.Mem.head _))
      have lR := lt_of_block (hK.blk _ (List.Mem.head _))
      have fR0 := free_two (i := 0) (hK.blk _ (List.Mem.head _))
      have fR1 := free_two (i := 1) (hK.blk _ (List.Mem.head _))
      replace hK : Kv w ((w2.setCell ⟨w.heap.size + 1 + 1, 0, none⟩ (.int .i64 0)).setCell ⟨w.heap.size + 1 + 1, 1, none⟩ (.int .i64 0)) [(w.heap.size + 1 + 1, .cells #[.int .i64 0, .int .i64 0] 23 (0, 0)), (w.heap.size + 1, vobj (vl b)), (w.heap.size, vobj (vl a))] := hK.setb (a := (0, 0)) (cs := [(w.heap.size + 1 + 1, .cells #[.int .i64 0, .int .i64 0] 23 (0, 0)), (w.heap.size + 1, vobj (vl b)), (w.heap.size, vobj (vl a))]) (List.Mem.head _) gR (0, 0) (List.forall_mem_cons.2 ⟨.inl rfl, (List.forall_mem_cons.2 ⟨.inr ⟨(List.Mem.tail _ (List.Mem.head _)), (Ne.symm nR_b)⟩, (List.forall_mem_cons.2 ⟨.inr ⟨(List.Mem.tail _ (List.Mem.tail _ (List.Mem.head _))), (Ne.symm nR_a)⟩, (List.forall_mem_nil _)⟩)⟩)⟩)
      have HKK := Lib.hid hK
      clear hK
      go_wp2_with fail
      have hK := HKK.out
      have r0 := cell_two0 (hK.blk _ (List.Mem.head _))
      have r1 := cell_two1 (hK.blk _ (List.Mem.head _))
      exact bodyPost_ret (v := .tuple #[.agg #[.int .i64 0, .int .i64 0], .int .i64 20]) (by simp [results, Tryz.results20, go_sem, r0, r1]) rfl ⟨by rw [← HE.out] <;> rfl, hK.bel⟩
  · have HE := Lib.hid (show ((0, 0), (20 : Int)) = q from (vDot_bad (fun g => ha g.1)).symm.trans HQ.out)
    have Ha := Lib.hid ha
    clear ha HQ
    have hK : Kv w (((w.alloc (.cells #[.int .i64 a.1.1, .int .i64 a.1.2, .int .i64 a.2.1.1, .int .i64 a.2.1.2, .int .i64 a.2.2.1, .int .i64 a.2.2.2] 25)).alloc (.cells #[.int .i64 b.1.1, .int .i64 b.1.2, .int .i64 b.2.1.1, .int .i64 b.2.1.2, .int .i64 b.2.2.1, .int .i64 b.2.2.2] 25)).alloc (.cells #[.int .i64 0, .int .i64 0] 23)) [(w.heap.size + 1 + 1, .cells #[.int .i64 0, .int .i64 0] 23 (0, 0)), (w.heap.size + 1, vobj (vl b)), (w.heap.size, vobj (vl a))] := ((((Kv.start w).al (vobj (vl a)) (n := w.heap.size) (by simp)).al (vobj (vl b)) (n := w.heap.size + 1) (by simp)).al (.cells #[.int .i64 0, .int .i64 0] 23 (0, 0)) (n := w.heap.size + 1 + 1) (by simp))
    have gR : w.heap.size ≤ w.heap.size + 1 + 1 := by omega
    have nR_a : w.heap.size + 1 + 1 ≠ w.heap.size := by omega
    have nR_b : w.heap.size + 1 + 1 ≠ w.heap.size + 1 := by omega
    go_enter Tryz.func20, Tryz.ntmps20
    obtain ⟨ca0, ca1, ca2, ca3, ca4, ca5⟩ := vobj_six (hK.blk _ (List.Mem.tail _ (List.Mem.tail _ (List.Mem.head _))))
    have la := lt_of_block (hK.blk _ (List.Mem.tail _ (List.Mem.tail _ (List.Mem.head _))))
    go_wp2_with fail
    refine (ref6_Right_bad Ha.out _).mono ?_; rintro e w1 ⟨rfl, hb⟩
    replace hK := hK.on hb
    clear ca0 ca1 ca2 ca3 ca4 ca5 la hb
    have cR0 := cell_two0 (hK.blk _ (List.Mem.head _))
    have cR1 := cell_two1 (hK.blk _ (List.Mem.head _))
    have lR := lt_of_block (hK.blk _ (List.Mem.head _))
    have fR0 := free_two (i := 0) (hK.blk _ (List.Mem.head _))
    have fR1 := free_two (i := 1) (hK.blk _ (List.Mem.head _))
    replace hK : Kv w ((w1.setCell ⟨w.heap.size + 1 + 1, 0, none⟩ (.int .i64 0)).setCell ⟨w.heap.size + 1 + 1, 1, none⟩ (.int .i64 0)) [(w.heap.size + 1 + 1, .cells #[.int .i64 0, .int .i64 0] 23 (0, 0)), (w.heap.size + 1, vobj (vl b)), (w.heap.size, vobj (vl a))] := hK.setb (a := (0, 0)) (cs := [(w.heap.size + 1 + 1, .cells #[.int .i64 0, .int .i64 0] 23 (0, 0)), (w.heap.size + 1, vobj (vl b)), (w.heap.size, vobj (vl a))]) (List.Mem.head _) gR (0, 0) (List.forall_mem_cons.2 ⟨.inl rfl, (List.forall_mem_cons.2 ⟨.inr ⟨(List.Mem.tail _ (List.Mem.head _)), (Ne.symm nR_b)⟩, (List.forall_mem_cons.2 ⟨.inr ⟨(List.Mem.tail _ (List.Mem.tail _ (List.Mem.head _))), (Ne.symm nR_a)⟩, (List.forall_mem_nil _)⟩)⟩)⟩)
    have HKK := Lib.hid hK
    clear hK
    go_wp2_with fail
    have hK := HKK.out
    have r0 := cell_two0 (hK.blk _ (List.Mem.head _))
    have r1 := cell_two1 (hK.blk _ (List.Mem.head _))
    exact bodyPost_ret (v := .tuple #[.agg #[.int .i64 0, .int .i64 0], .int .i64 20]) (by simp [results, Tryz.results20, go_sem, r0, r1]) rfl ⟨by rw [← HE.out] <;> rfl, hK.bel⟩
set_option maxRecDepth 100000 in
set_option maxHeartbeats 600000 in
theorem ref6_Cross (a b : V3) (w : World) : Calls Tryz.prog 22 #[.agg #[.int .i64 a.1.1, .int .i64 a.1.2, .int .i64 a.2.1.1, .int .i64 a.2.1.2, .int .i64 a.2.2.1, .int .i64 a.2.2.2], .agg #[.int .i64 b.1.1, .int .i64 b.1.2, .int .i64 b.2.1.1, .int .i64 b.2.1.2, .int .i64 b.2.2.1, .int .i64 b.2.2.2]] w fun e w' => e = .returned (.tuple #[.agg #[.int .i64 (vCross a b).1.1.1, .int .i64 (vCross a b).1.1.2, .int .i64 (vCross a b).1.2.1.1, .int .i64 (vCross a b).1.2.1.2, .int .i64 (vCross a b).1.2.2.1, .int .i64 (vCross a b).1.2.2.2], .int .i64 (vCross a b).2]) ∧ Below w.heap.size w w' := by
  obtain ⟨q, hq⟩ : ∃ q, vCross a b = q := ⟨_, rfl⟩
  rw [hq]
  have HQ := Lib.hid hq
  clear hq
  by_cases ha : okV a
  · by_cases hb : okV b
    · have HV := Lib.hid (show rVec (rLess a.2.1 b.2.2 a.2.2 b.2.1) (rLess a.2.2 b.1 a.1 b.2.2) (rLess a.1 b.2.1 a.2.1 b.1) = q from (vCross_r ha hb).symm.trans HQ.out)
      have Ha := Lib.hid ha
      have Hb := Lib.hid hb
      clear ha hb HQ
      have hK : Kv w (((w.alloc (.cells #[.int .i64 a.1.1, .int .i64 a.1.2, .int .i64 a.2.1.1, .int .i64 a.2.1.2, .int .i64 a.2.2.1, .int .i64 a.2.2.2] 25)).alloc (.cells #[.int .i64 b.1.1, .int .i64 b.1.2, .int .i64 b.2.1.1, .int .i64 b.2.1.2, .int .i64 b.2.2.1, .int .i64 b.2.2.2] 25)).alloc (.cells #[.int .i64 0, .int .i64 0, .int .i64 0, .int .i64 0, .int .i64 0, .int .i64 0] 25)) [(w.heap.size + 1 + 1, vobj (vl v30)), (w.heap.size + 1, vobj (vl b)), (w.heap.size, vobj (vl a))] := ((((Kv.start w).al (vobj (vl a)) (n := w.heap.size) (by simp)).al (vobj (vl b)) (n := w.heap.size + 1) (by simp)).al (vobj (vl v30)) (n := w.heap.size + 1 + 1) (by simp))
      have gR : w.heap.size ≤ w.heap.size + 1 + 1 := by omega
      have nR_a : w.heap.size + 1 + 1 ≠ w.heap.size := by omega
      have nR_b : w.heap.size + 1 + 1 ≠ w.heap.size + 1 := by omega
      go_enter Tryz.func22, Tryz.ntmps22
      obtain ⟨ca0, ca1, ca2, ca3, ca4, ca5⟩ := vobj_six (hK.blk _ (List.Mem.tail _ (List.Mem.tail _ (List.Mem.head _))))
      have la := lt_of_block (hK.blk _ (List.Mem.tail _ (List.Mem.tail _ (List.Mem.head _))))
      go_wp2_with fail
      refine (ref6_Right_ok Ha.out _).mono ?_; rintro e w1 ⟨rfl, hb⟩
      replace hK := hK.on hb
      clear ca0 ca1 ca2 ca3 ca4 ca5 la hb
      obtain ⟨cb0, cb1, cb2, cb3, cb4, cb5⟩ := vobj_six (hK.blk _ (List.Mem.tail _ (List.Mem.head _)))
      have lb := lt_of_block (hK.blk _ (List.Mem.tail _ (List.Mem.head _)))
      go_wp2_with fail
      refine (ref6_Right_ok Hb.out _).mono ?_; rintro e w2 ⟨rfl, hb⟩
      replace hK := hK.on hb
      clear cb0 cb1 cb2 cb3 cb4 cb5 lb hb
      obtain ⟨ca0, ca1, ca2, ca3, ca4, ca5⟩ := vobj_six (hK.blk _ (List.Mem.tail _ (List.Mem.tail _ (List.Mem.head _))))
      have la := lt_of_block (hK.blk _ (List.Mem.tail _ (List.Mem.tail _ (List.Mem.head _))))
      obtain ⟨cb0, cb1, cb2, cb3, cb4, cb5⟩ := vobj_six (hK.blk _ (List.Mem.tail _ (List.Mem.head _)))
      have lb := lt_of_block (hK.blk _ (List.Mem.tail _ (List.Mem.head _)))
      go_wp2_with fail
      refine (ref6_less a.2.1 b.2.2 a.2.2 b.2.1 _).mono ?_; rintro e w3 ⟨rfl, hb⟩
      replace hK := hK.on hb
      clear ca0 ca1 ca2 ca3 ca4 ca5 la cb0 cb1 cb2 cb3 cb4 cb5 lb hb
      have nx6_R : w3.heap.size ≠ w.heap.size + 1 + 1 := by have h := lt_of_block (hK.blk _ (List.Mem.head _)); first | exact Nat.ne_of_gt h | (simp at h; omega)
      replace hK : Kv w (w3.alloc (.cells #[.int .i64 (rLess a.2.1 b.2.2 a.2.2 b.2.1).1.1, .int .i64 (rLess a.2.1 b.2.2 a.2.2 b.2.1).1.2] 23)) [(w3.heap.size, .cells #[.int .i64 (rLess a.2.1 b.2.2 a.2.2 b.2.1).1.1, .int .i64 (rLess a.2.1 b.2.2 a.2.2 b.2.1).1.2] 23 (0, 0)), (w.heap.size + 1 + 1, vobj (vl v30)), (w.heap.size + 1, vobj (vl b)), (w.heap.size, vobj (vl a))] := hK.al (.cells #[.int .i64 (rLess a.2.1 b.2.2 a.2.2 b.2.1).1.1, .int .i64 (rLess a.2.1 b.2.2 a.2.2 b.2.1).1.2] 23 (0, 0)) (n := w3.heap.size) (by simp)
      obtain ⟨ca0, ca1, ca2, ca3, ca4, ca5⟩ := vobj_six (hK.blk _ (List.Mem.tail _ (List.Mem.tail _ (List.Mem.tail _ (List.Mem.head _)))))
      have la := lt_of_block (hK.blk _ (List.Mem.tail _ (List.Mem.tail _ (List.Mem.tail _ (List.Mem.head _)))))
      obtain ⟨cb0, cb1, cb2, cb3, cb4, cb5⟩ := vobj_six (hK.blk _ (List.Mem.tail _ (List.Mem.tail _ (List.Mem.head _))))
      have lb := lt_of_block (hK.blk _ (List.Mem.tail _ (List.Mem.tail _ (List.Mem.head _))))
      go_wp2_with fail
      refine (ref6_less a.2.2 b.1 a.1 b.2.2 _).mono ?_; rintro e w4 ⟨rfl, hb⟩
      replace hK := hK.on hb
      clear ca0 ca1 ca2 ca3 ca4 ca5 la cb0 cb1 cb2 cb3 cb4 cb5 lb hb
      have nx8_R : w4.heap.size ≠ w.heap.size + 1 + 1 := by have h := lt_of_block (hK.blk _ (List.Mem.tail _ (List.Mem.head _))); first | exact Nat.ne_of_gt h | (simp at h; omega)
      replace hK : Kv w (w4.alloc (.cells #[.int .i64 (rLess a.2.2 b.1 a.1 b.2.2).1.1, .int .i64 (rLess a.2.2 b.1 a.1 b.2.2).1.2] 23)) [(w4.heap.size, .cells #[.int .i64 (rLess a.2.2 b.1 a.1 b.2.2).1.1, .int .i64 (rLess a.2.2 b.1 a.1 b.2.2).1.2] 23 (0, 0)), (w3.heap.size, .cells #[.int .i64 (rLess a.2.1 b.2.2 a.2.2 b.2.1).1.1, .int .i64 (rLess a.2.1 b.2.2 a.2.2 b.2.1).1.2] 23 (0, 0)), (w.heap.size + 1 + 1, vobj (vl v30)), (w.heap.size + 1, vobj (vl b)), (w.heap.size, vobj (vl a))] := hK.al (.cells #[.int .i64 (rLess a.2.2 b.1 a.1 b.2.2).1.1, .int .i64 (rLess a.2.2 b.1 a.1 b.2.2).1.2] 23 (0, 0)) (n := w4.heap.size) (by simp)
      obtain ⟨ca0, ca1, ca2, ca3, ca4, ca5⟩ := vobj_six (hK.blk _ (List.Mem.tail _ (List.Mem.tail _ (List.Mem.tail _ (List.Mem.tail _ (List.Mem.head _))))))
      have la := lt_of_block (hK.blk _ (List.Mem.tail _ (List.Mem.tail _ (List.Mem.tail _ (List.Mem.tail _ (List.Mem.head _))))))
      obtain ⟨cb0, cb1, cb2, cb3, cb4, cb5⟩ := vobj_six (hK.blk _ (List.Mem.tail _ (List.Mem.tail _ (List.Mem.tail _ (List.Mem.head _)))))
      have lb := lt_of_block (hK.blk _ (List.Mem.tail _ (List.Mem.tail _ (List.Mem.tail _ (List.Mem.head _)))))
      go_wp2_with fail
      refine (ref6_less a.1 b.2.1 a.2.1 b.1 _).mono ?_; rintro e w5 ⟨rfl, hb⟩
      replace hK := hK.on hb
      clear ca0 ca1 ca2 ca3 ca4 ca5 la cb0 cb1 cb2 cb3 cb4 cb5 lb hb
      have nx10_R : w5.heap.size ≠ w.heap.size + 1 + 1 := by have h := lt_of_block (hK.blk _ (List.Mem.tail _ (List.Mem.tail _ (List.Mem.head _)))); first | exact Nat.ne_of_gt h | (simp at h; omega)
      replace hK : Kv w (w5.alloc (.cells #[.int .i64 (rLess a.1 b.2.1 a.2.1 b.1).1.1, .int .i64 (rLess a.1 b.2.1 a.2.1 b.1).1.2] 23)) [(w5.heap.size, .cells #[.int .i64 (rLess a.1 b.2.1 a.2.1 b.1).1.1, .int .i64 (rLess a.1 b.2.1 a.2.1 b.1).1.2] 23 (0, 0)), (w4.heap.size, .cells #[.int .i64 (rLess a.2.2 b.1 a.1 b.2.2).1.1, .int .i64 (rLess a.2.2 b.1 a.1 b.2.2).1.2] 23 (0, 0)), (w3.heap.size, .cells #[.int .i64 (rLess a.2.1 b.2.2 a.2.2 b.2.1).1.1, .int .i64 (rLess a.2.1 b.2.2 a.2.2 b.2.1).1.2] 23 (0, 0)), (w.heap.size + 1 + 1, vobj (vl v30)), (w.heap.size + 1, vobj (vl b)), (w.heap.size, vobj (vl a))] := hK.al (.cells #[.int .i64 (rLess a.1 b.2.1 a.2.1 b.1).1.1, .int .i64 (rLess a.1 b.2.1 a.2.1 b.1).1.2] 23 (0, 0)) (n := w5.heap.size) (by simp)
      have cx60 := cell_two0 (hK.blk _ (List.Mem.tail _ (List.Mem.tail _ (List.Mem.head _))))
      have cx61 := cell_two1 (hK.blk _ (List.Mem.tail _ (List.Mem.tail _ (List.Mem.head _))))
      have lx6 := lt_of_block (hK.blk _ (List.Mem.tail _ (List.Mem.tail _ (List.Mem.head _))))
      have cx80 := cell_two0 (hK.blk _ (List.Mem.tail _ (List.Mem.head _)))
      have cx81 := cell_two1 (hK.blk _ (List.Mem.tail _ (List.Mem.head _)))
      have lx8 := lt_of_block (hK.blk _ (List.Mem.tail _ (List.Mem.head _)))
      have cx100 := cell_two0 (hK.blk _ (List.Mem.head _))
      have cx101 := cell_two1 (hK.blk _ (List.Mem.head _))
      have lx10 := lt_of_block (hK.blk _ (List.Mem.head _))
      go_wp2_with fail
      refine (ref6_vector (rLess a.2.1 b.2.2 a.2.2 b.2.1) (rLess a.2.2 b.1 a.1 b.2.2) (rLess a.1 b.2.1 a.2.1 b.1) _).mono ?_; rintro e w6 ⟨rfl, hb⟩
      replace hK := hK.on hb
      clear cx60 cx61 lx6 cx80 cx81 lx8 cx100 cx101 lx10 hb
      rw [HV.out]
      obtain ⟨cR0, cR1, cR2, cR3, cR4, cR5⟩ := vobj_six (hK.blk _ (List.Mem.tail _ (List.Mem.tail _ (List.Mem.tail _ (List.Mem.head _)))))
      simp only [v30] at cR0 cR1 cR2 cR3 cR4 cR5
      have lR := lt_of_block (hK.blk _ (List.Mem.tail _ (List.Mem.tail _ (List.Mem.tail _ (List.Mem.head _)))))
      have fR0 := vobj_free (hK.blk _ (List.Mem.tail _ (List.Mem.tail _ (List.Mem.tail _ (List.Mem.head _))))) 0
      have fR1 := vobj_free (hK.blk _ (List.Mem.tail _ (List.Mem.tail _ (List.Mem.tail _ (List.Mem.head _))))) 1
      have fR2 := vobj_free (hK.blk _ (List.Mem.tail _ (List.Mem.tail _ (List.Mem.tail _ (List.Mem.head _))))) 2
      have fR3 := vobj_free (hK.blk _ (List.Mem.tail _ (List.Mem.tail _ (List.Mem.tail _ (List.Mem.head _))))) 3
      have fR4 := vobj_free (hK.blk _ (List.Mem.tail _ (List.Mem.tail _ (List.Mem.tail _ (List.Mem.head _))))) 4
      have fR5 := vobj_free (hK.blk _ (List.Mem.tail _ (List.Mem.tail _ (List.Mem.tail _ (List.Mem.head _))))) 5
      replace hK : Kv w ((((((w6.setCell ⟨w.heap.size + 1 + 1, 0, none⟩ (.int .i64 q.1.1.1)).setCell ⟨w.heap.size + 1 + 1, 1, none⟩ (.int .i64 q.1.1.2)).setCell ⟨w.heap.size + 1 + 1, 2, none⟩ (.int .i64 q.1.2.1.1)).setCell ⟨w.heap.size + 1 + 1, 3, none⟩ (.int .i64 q.1.2.1.2)).setCell ⟨w.heap.size + 1 + 1, 4, none⟩ (.int .i64 q.1.2.2.1)).setCell ⟨w.heap.size + 1 + 1, 5, none⟩ (.int .i64 q.1.2.2.2)) [(w5.heap.size, .cells #[.int .i64 (rLess a.1 b.2.1 a.2.1 b.1).1.1, .int .i64 (rLess a.1 b.2.1 a.2.1 b.1).1.2] 23 (0, 0)), (w4.heap.size, .cells #[.int .i64 (rLess a.2.2 b.1 a.1 b.2.2).1.1, .int .i64 (rLess a.2.2 b.1 a.1 b.2.2).1.2] 23 (0, 0)), (w3.heap.size, .cells #[.int .i64 (rLess a.2.1 b.2.2 a.2.2 b.2.1).1.1, .int .i64 (rLess a.2.1 b.2.2 a.2.2 b.2.1).1.2] 23 (0, 0)), (w.heap.size + 1 + 1, vobj (vl q.1)), (w.heap.size + 1, vobj (vl b)), (w.heap.size, vobj (vl a))] := hK.seta (a := v30) (cs := [(w5.heap.size, .cells #[.int .i64 (rLess a.1 b.2.1 a.2.1 b.1).1.1, .int .i64 (rLess a.1 b.2.1 a.2.1 b.1).1.2] 23 (0, 0)), (w4.heap.size, .cells #[.int .i64 (rLess a.2.2 b.1 a.1 b.2.2).1.1, .int .i64 (rLess a.2.2 b.1 a.1 b.2.2).1.2] 23 (0, 0)), (w3.heap.size, .cells #[.int .i64 (rLess a.2.1 b.2.2 a.2.2 b.2.1).1.1, .int .i64 (rLess a.2.1 b.2.2 a.2.2 b.2.1).1.2] 23 (0, 0)), (w.heap.size + 1 + 1, vobj (vl q.1)), (w.heap.size + 1, vobj (vl b)), (w.heap.size, vobj (vl a))]) (List.Mem.tail _ (List.Mem.tail _ (List.Mem.tail _ (List.Mem.head _)))) gR q.1 (List.forall_mem_cons.2 ⟨.inr ⟨(List.Mem.head _), nx10_R⟩, (List.forall_mem_cons.2 ⟨.inr ⟨(List.Mem.tail _ (List.Mem.head _)), nx8_R⟩, (List.forall_mem_cons.2 ⟨.inr ⟨(List.Mem.tail _ (List.Mem.tail _ (List.Mem.head _))), nx6_R⟩, (List.forall_mem_cons.2 ⟨.inl rfl, (List.forall_mem_cons.2 ⟨.inr ⟨(List.Mem.tail _ (List.Mem.tail _ (List.Mem.tail _ (List.Mem.tail _ (List.Mem.head _))))), (Ne.symm nR_b)⟩, (List.forall_mem_cons.2 ⟨.inr ⟨(List.Mem.tail _ (List.Mem.tail _ (List.Mem.tail _ (List.Mem.tail _ (List.Mem.tail _ (List.Mem.head _)))))), (Ne.symm nR_a)⟩, (List.forall_mem_nil _)⟩)⟩)⟩)⟩)⟩)⟩)
      have HKK := Lib.hid hK
      clear hK
      go_wp2_with fail
      have hK := HKK.out
      have gs := vobj_six (hK.blk _ (List.Mem.tail _ (List.Mem.tail _ (List.Mem.tail _ (List.Mem.head _)))))
      try dsimp only at gs
      obtain ⟨r0, r1, r2, r3, r4, r5⟩ := gs
      exact bodyPost_ret (v := .tuple #[.agg #[.int .i64 q.1.1.1, .int .i64 q.1.1.2, .int .i64 q.1.2.1.1, .int .i64 q.1.2.1.2, .int .i64 q.1.2.2.1, .int .i64 q.1.2.2.2], .int .i64 q.2]) (by simp [results, Tryz.results22, go_sem, r0, r1, r2, r3, r4, r5]) rfl ⟨rfl, hK.bel⟩
    · have HE := Lib.hid (show (v30, (20 : Int)) = q from (vCross_bad (fun g => hb g.2)).symm.trans HQ.out)
      have Ha := Lib.hid ha
      have Hb := Lib.hid hb
      clear ha hb HQ
      have hK : Kv w (((w.alloc (.cells #[.int .i64 a.1.1, .int .i64 a.1.2, .int .i64 a.2.1.1, .int .i64 a.2.1.2, .int .i64 a.2.2.1, .int .i64 a.2.2.2] 25)).alloc (.cells #[.int .i64 b.1.1, .int .i64 b.1.2, .int .i64 b.2.1.1, .int .i64 b.2.1.2, .int .i64 b.2.2.1, .int .i64 b.2.2.2] 25)).alloc (.cells #[.int .i64 0, .int .i64 0, .int .i64 0, .int .i64 0, .int .i64 0, .int .i64 0] 25)) [(w.heap.size + 1 + 1, vobj (vl v30)), (w.heap.size + 1, vobj (vl b)), (w.heap.size, vobj (vl a))] := ((((Kv.start w).al (vobj (vl a)) (n := w.heap.size) (by simp)).al (vobj (vl b)) (n := w.heap.size + 1) (by simp)).al (vobj (vl v30)) (n := w.heap.size + 1 + 1) (by simp))
      have gR : w.heap.size ≤ w.heap.size + 1 + 1 := by omega
      have nR_a : w.heap.size + 1 + 1 ≠ w.heap.size := by omega
      have nR_b : w.heap.size + 1 + 1 ≠ w.heap.size + 1 := by omega
      go_enter Tryz.func22, Tryz.ntmps22
      obtain ⟨ca0, ca1, ca2, ca3, ca4, ca5⟩ := vobj_six (hK.blk _ (List.Mem.tail _ (List.Mem.tail _ (List.Mem.head _))))
      have la := lt_of_block (hK.blk _ (List.Mem.tail _ (List.Mem.tail _ (List.Mem.head _))))
      go_wp2_with fail
      refine (ref6_Right_ok Ha.out _).mono ?_; rintro e w1 ⟨rfl, hb⟩
      replace hK := hK.on hb
      clear ca0 ca1 ca2 ca3 ca4 ca5 la hb
      obtain ⟨cb0, cb1, cb2, cb3, cb4, cb5⟩ := vobj_six (hK.blk _ (List.Mem.tail _ (List.Mem.head _)))
      have lb := lt_of_block (hK.blk _ (List.Mem.tail _ (List.Mem.head _)))
      go_wp2_with fail
      refine (ref6_Right_bad Hb.out _).mono ?_; rintro e w2 ⟨rfl, hb⟩
      replace hK := hK.on hb
      clear cb0 cb1 cb2 cb3 cb4 cb5 lb hb
      obtain ⟨cR0, cR1, cR2, cR3, cR4, cR5⟩ := vobj_six (hK.blk _ (List.Mem.head _))
      simp only [v30] at cR0 cR1 cR2 cR3 cR4 cR5
      have lR := lt_of_block (hK.blk _ (List.Mem.head _))
      have fR0 := vobj_free (hK.blk _ (List.Mem.head _)) 0
      have fR1 := vobj_free (hK.blk _ (List.Mem.head _)) 1
      have fR2 := vobj_free (hK.blk _ (List.Mem.head _)) 2
      have fR3 := vobj_free (hK.blk _ (List.Mem.head _)) 3
      have fR4 := vobj_free (hK.blk _ (List.Mem.head _)) 4
      have fR5 := vobj_free (hK.blk _ (List.Mem.head _)) 5
      replace hK : Kv w ((((((w2.setCell ⟨w.heap.size + 1 + 1, 0, none⟩ (.int .i64 0)).setCell ⟨w.heap.size + 1 + 1, 1, none⟩ (.int .i64 0)).setCell ⟨w.heap.size + 1 + 1, 2, none⟩ (.int .i64 0)).setCell ⟨w.heap.size + 1 + 1, 3, none⟩ (.int .i64 0)).setCell ⟨w.heap.size + 1 + 1, 4, none⟩ (.int .i64 0)).setCell ⟨w.heap.size + 1 + 1, 5, none⟩ (.int .i64 0)) [(w.heap.size + 1 + 1, vobj (vl v30)), (w.heap.size + 1, vobj (vl b)), (w.heap.size, vobj (vl a))] := hK.seta (a := v30) (cs := [(w.heap.size + 1 + 1, vobj (vl v30)), (w.heap.size + 1, vobj (vl b)), (w.heap.size, vobj (vl a))]) (List.Mem.head _) gR v30 (List.forall_mem_cons.2 ⟨.inl rfl, (List.forall_mem_cons.2 ⟨.inr ⟨(List.Mem.tail _ (List.Mem.head _)), (Ne.symm nR_b)⟩, (List.forall_mem_cons.2 ⟨.inr ⟨(List.Mem.tail _ (List.Mem.tail _ (List.Mem.head _))), (Ne.symm nR_a)⟩, (List.forall_mem_nil _)⟩)⟩)⟩)
      have HKK := Lib.hid hK
      clear hK
      go_wp2_with fail
      have hK := HKK.out
      have gs := vobj_six (hK.blk _ (List.Mem.head _))
      simp only [v30] at gs
      obtain ⟨r0, r1, r2, r3, r4, r5⟩ := gs
      exact bodyPost_ret (v := .tuple #[.agg #[.int .i64 0, .int .i64 0, .int .i64 0, .int .i64 0, .int .i64 0, .int .i64 0], .int .i64 20]) (by simp [results, Tryz.results22, go_sem, r0, r1, r2, r3, r4, r5]) rfl ⟨by rw [← HE.out] <;> rfl, hK.bel⟩
  · have HE := Lib.hid (show (v30, (20 : Int)) = q from (vCross_bad (fun g => ha g.1)).symm.trans HQ.out)
    have Ha := Lib.hid ha
    clear ha HQ
    have hK : Kv w (((w.alloc (.cells #[.int .i64 a.1.1, .int .i64 a.1.2, .int .i64 a.2.1.1, .int .i64 a.2.1.2, .int .i64 a.2.2.1, .int .i64 a.2.2.2] 25)).alloc (.cells #[.int .i64 b.1.1, .int .i64 b.1.2, .int .i64 b.2.1.1, .int .i64 b.2.1.2, .int .i64 b.2.2.1, .int .i64 b.2.2.2] 25)).alloc (.cells #[.int .i64 0, .int .i64 0, .int .i64 0, .int .i64 0, .int .i64 0, .int .i64 0] 25)) [(w.heap.size + 1 + 1, vobj (vl v30)), (w.heap.size + 1, vobj (vl b)), (w.heap.size, vobj (vl a))] := ((((Kv.start w).al (vobj (vl a)) (n := w.heap.size) (by simp)).al (vobj (vl b)) (n := w.heap.size + 1) (by simp)).al (vobj (vl v30)) (n := w.heap.size + 1 + 1) (by simp))
    have gR : w.heap.size ≤ w.heap.size + 1 + 1 := by omega
    have nR_a : w.heap.size + 1 + 1 ≠ w.heap.size := by omega
    have nR_b : w.heap.size + 1 + 1 ≠ w.heap.size + 1 := by omega
    go_enter Tryz.func22, Tryz.ntmps22
    obtain ⟨ca0, ca1, ca2, ca3, ca4, ca5⟩ := vobj_six (hK.blk _ (List.Mem.tail _ (List.Mem.tail _ (List.Mem.head _))))
    have la := lt_of_block (hK.blk _ (List.Mem.tail _ (List.Mem.tail _ (List.Mem.head _))))
    go_wp2_with fail
    refine (ref6_Right_bad Ha.out _).mono ?_; rintro e w1 ⟨rfl, hb⟩
    replace hK := hK.on hb
    clear ca0 ca1 ca2 ca3 ca4 ca5 la hb
    obtain ⟨cR0, cR1, cR2, cR3, cR4, cR5⟩ := vobj_six (hK.blk _ (List.Mem.head _))
    simp only [v30] at cR0 cR1 cR2 cR3 cR4 cR5
    have lR := lt_of_block (hK.blk _ (List.Mem.head _))
    have fR0 := vobj_free (hK.blk _ (List.Mem.head _)) 0
    have fR1 := vobj_free (hK.blk _ (List.Mem.head _)) 1
    have fR2 := vobj_free (hK.blk _ (List.Mem.head _)) 2
    have fR3 := vobj_free (hK.blk _ (List.Mem.head _)) 3
    have fR4 := vobj_free (hK.blk _ (List.Mem.head _)) 4
    have fR5 := vobj_free (hK.blk _ (List.Mem.head _)) 5
    replace hK : Kv w ((((((w1.setCell ⟨w.heap.size + 1 + 1, 0, none⟩ (.int .i64 0)).setCell ⟨w.heap.size + 1 + 1, 1, none⟩ (.int .i64 0)).setCell ⟨w.heap.size + 1 + 1, 2, none⟩ (.int .i64 0)).setCell ⟨w.heap.size + 1 + 1, 3, none⟩ (.int .i64 0)).setCell ⟨w.heap.size + 1 + 1, 4, none⟩ (.int .i64 0)).setCell ⟨w.heap.size + 1 + 1, 5, none⟩ (.int .i64 0)) [(w.heap.size + 1 + 1, vobj (vl v30)), (w.heap.size + 1, vobj (vl b)), (w.heap.size, vobj (vl a))] := hK.seta (a := v30) (cs := [(w.heap.size + 1 + 1, vobj (vl v30)), (w.heap.size + 1, vobj (vl b)), (w.heap.size, vobj (vl a))]) (List.Mem.head _) gR v30 (List.forall_mem_cons.2 ⟨.inl rfl, (List.forall_mem_cons.2 ⟨.inr ⟨(List.Mem.tail _ (List.Mem.head _)), (Ne.symm nR_b)⟩, (List.forall_mem_cons.2 ⟨.inr ⟨(List.Mem.tail _ (List.Mem.tail _ (List.Mem.head _))), (Ne.symm nR_a)⟩, (List.forall_mem_nil _)⟩)⟩)⟩)
    have HKK := Lib.hid hK
    clear hK
    go_wp2_with fail
    have hK := HKK.out
    have gs := vobj_six (hK.blk _ (List.Mem.head _))
    simp only [v30] at gs
    obtain ⟨r0, r1, r2, r3, r4, r5⟩ := gs
    exact bodyPost_ret (v := .tuple #[.agg #[.int .i64 0, .int .i64 0, .int .i64 0, .int .i64 0, .int .i64 0, .int .i64 0], .int .i64 20]) (by simp [results, Tryz.results22, go_sem, r0, r1, r2, r3, r4, r5]) rfl ⟨by rw [← HE.out] <;> rfl, hK.bel⟩
end Go.Proofs.YtmnccbhlllnlbaaGreat
