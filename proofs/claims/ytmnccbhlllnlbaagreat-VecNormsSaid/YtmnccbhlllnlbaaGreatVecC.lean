/- Package vec: contracts of each, for each function that it is called with; told, alike, turned. Printed by wip/genVC.py. -/
import Derived.Deep.DeepCutAuto
import Derived.Deep.CutBlock
import Derived.Test.YtmnccbhlllnlbaaGreatVecB
namespace Mnc
open Go
theorem flat_setv (L : List (Int × Int)) (k : Nat) (x y : Int × Int) (h : L[k]? = some x) : ((flat L).set (k * 2) (.int .i64 y.1)).set (k * 2 + 1) (.int .i64 y.2) = flat (L.set k y) := by
  induction L generalizing k with
  | nil => simp at h
  | cons a r ih =>
    cases k with
    | zero => rfl
    | succ k =>
      have e1 : (k + 1) * 2 + 1 = k * 2 + 1 + 1 + 1 := by omega
      have e2 : (k + 1) * 2 = k * 2 + 1 + 1 := by omega
      rw [flat_cons, e1, e2, List.set_cons_succ, List.set_cons_succ, List.set_cons_succ, List.set_cons_succ, ih k (by simpa using h), List.set_cons_succ, flat_cons]
end Mnc
namespace Go.Proofs.YtmnccbhlllnlbaaGreat
open Go.RowKit Mnc
attribute [local go_sem] RunS_value RunS_skip RunS_enter evS_tmp evS_const evS_global evS_func

def vobj (l : List (Int × Int)) : Obj := .cells (flat l).toArray 25 (0, 0)
section
variable {w W : World} {S B k : Nat} {e : Int} {bs : List (Nat × Obj)} {l : List (Int × Int)} {c : Int × Int}
theorem vobj_cell (h : W.heap[B]? = some (vobj l)) (hc : l[k]? = some c) : W.cell? ⟨B, k * 2, none⟩ = some (.int .i64 c.1) ∧ W.cell? ⟨B, k * 2 + 1, none⟩ = some (.int .i64 c.2) := by
  obtain ⟨f1, f2⟩ := flat_at l k c hc
  rw [Nat.mul_comm 2 k] at f1 f2
  unfold vobj at h
  rw [cell_of_row W B _ _ _ _ h, cell_of_row W B _ _ _ _ h]
  exact ⟨by simpa using f1, by simpa using f2⟩
theorem vobj_free (h : W.heap[B]? = some (vobj l)) (i : Nat) : W.frozen? ⟨B, i, none⟩ = false := by
  unfold vobj at h
  simp [World.frozen?, h]
theorem vobj_six {a : V3} (h : W.heap[B]? = some (vobj (vl a))) : W.cell? ⟨B, 0, none⟩ = some (.int .i64 a.1.1) ∧ W.cell? ⟨B, 1, none⟩ = some (.int .i64 a.1.2) ∧ W.cell? ⟨B, 2, none⟩ = some (.int .i64 a.2.1.1) ∧ W.cell? ⟨B, 3, none⟩ = some (.int .i64 a.2.1.2) ∧ W.cell? ⟨B, 4, none⟩ = some (.int .i64 a.2.2.1) ∧ W.cell? ⟨B, 5, none⟩ = some (.int .i64 a.2.2.2) :=
  ⟨(vobj_cell (k := 0) h rfl).1, (vobj_cell (k := 0) h rfl).2, (vobj_cell (k := 1) h rfl).1, (vobj_cell (k := 1) h rfl).2, (vobj_cell (k := 2) h rfl).1, (vobj_cell (k := 2) h rfl).2⟩
/-- A component of a vector's box is written. -/
theorem Vk.setl (h : Vk w W S e ((B, vobj l) :: bs)) (hB : w.heap.size ≤ B) (hb : ∀ p ∈ bs, p.1 ≠ B) (hc : l[k]? = some c) (z : Int × Int) :
    Vk w ((W.setCell ⟨B, k * 2, none⟩ (.int .i64 z.1)).setCell ⟨B, k * 2 + 1, none⟩ (.int .i64 z.2)) S e ((B, vobj (l.set k z)) :: bs) := by
  obtain ⟨hne, h0⟩ := h.blk _ (List.mem_cons_self ..)
  have hs : B ≠ S := hne
  have oth : ∀ j, j ≠ B → ((W.setCell ⟨B, k * 2, none⟩ (.int .i64 z.1)).setCell ⟨B, k * 2 + 1, none⟩ (.int .i64 z.2)).heap[j]? = W.heap[j]? := fun j hj => by
    rw [heap_setCell_other _ _ _ _ (by simpa using hj), heap_setCell_other _ _ _ _ (by simpa using hj)]
  have hSB : S ≤ B := Nat.le_of_lt (Nat.lt_of_lt_of_le h.mv.lt hB)
  refine ⟨⟨h.mv.lt, (h.mv.bel.setCell hSB _).setCell hSB _, fun j hj hj2 => (oth j (by omega)).trans (h.mv.oth j hj hj2), (oth S (Ne.symm hs)).trans h.mv.st⟩, fun p hp => ?_⟩
  rcases List.mem_cons.1 hp with rfl | hp
  · refine ⟨hne, ?_⟩
    simp only
    unfold vobj at h0
    rw [heap_setCell_same _ _ _ _ _ _ (heap_setCell_same _ _ _ _ _ _ h0)]
    unfold vobj
    rw [← flat_setv l k c z hc]
    simp
  · have := h.blk p (List.mem_cons_of_mem _ hp)
    exact ⟨this.1, (oth _ (hb p hp)).trans this.2⟩
/-- A vector's box is written whole. -/
theorem Vk.set6 {a : V3} (h : Vk w W S e ((B, vobj (vl a)) :: bs)) (hB : w.heap.size ≤ B) (hb : ∀ p ∈ bs, p.1 ≠ B) (z : V3) :
    Vk w ((((((W.setCell ⟨B, 0, none⟩ (.int .i64 z.1.1)).setCell ⟨B, 1, none⟩ (.int .i64 z.1.2)).setCell ⟨B, 2, none⟩ (.int .i64 z.2.1.1)).setCell ⟨B, 3, none⟩ (.int .i64 z.2.1.2)).setCell ⟨B, 4, none⟩ (.int .i64 z.2.2.1)).setCell ⟨B, 5, none⟩ (.int .i64 z.2.2.2)) S e ((B, vobj (vl z)) :: bs) :=
  ((h.setl (k := 0) hB hb rfl z.1).setl (k := 1) hB hb rfl z.2.1).setl (k := 2) hB hb rfl z.2.2
end

structure Ea_add (W0 : World) (S P B3 B4 B6 B7 k : Nat) (E : Int) (O : List (Int × Int)) (a b : V3) (x y : Int × Int) (r : (Int × Int) × Int) (L : Nat → Bool) (s : Nat → Value) (w : World) : Prop where
  st : L 8 = false → Vk W0 w S E [(B7, vobj O), (B6, vobj (vl v30)), (B4, vobj (vl b)), (B3, vobj (vl a))]
  st8 : L 8 = true → L 10 = false → Vk W0 w S (fst2 E r.2) [(B7, vobj O), (B6, vobj (vl v30)), (B4, vobj (vl b)), (B3, vobj (vl a))]
  st10 : L 10 = true → Vk W0 w S (fst2 E r.2) [(B7, vobj (O.set k r.1)), (B6, vobj (vl v30)), (B4, vobj (vl b)), (B3, vobj (vl a))]
  d4 : L 8 = true → L 4 = true
  d7 : L 8 = true → L 7 = true
  d10 : L 10 = true → L 8 = true
  e0 : L 0 = true → s 12 = .int .i64 (k : Int)
  e1 : L 1 = true → s 13 = .func (.func 38) #[.pointer (some ⟨S, 0, none⟩)] #[]
  e2 : L 2 = true → s 14 = .int .i64 (k : Int)
  e3 : L 3 = true → s 15 = .pointer (some ⟨B3, k * 2, none⟩)
  e4 : L 4 = true → s 16 = .agg #[.int .i64 x.1, .int .i64 x.2]
  e5 : L 5 = true → s 17 = .int .i64 (k : Int)
  e6 : L 6 = true → s 18 = .pointer (some ⟨B4, k * 2, none⟩)
  e7 : L 7 = true → s 19 = .agg #[.int .i64 y.1, .int .i64 y.2]
  e8 : L 8 = true → s 20 = .agg #[.int .i64 r.1.1, .int .i64 r.1.2]
  e9 : L 9 = true → s 21 = .pointer (some ⟨B7, k * 2, none⟩)

set_option maxRecDepth 100000 in
set_option maxHeartbeats 2000000 in
theorem each_add (S : Nat) (e : Int) (a b : V3) (w : World) (h : w.heap[S]? = some (stp e)) :
    Calls Tryz.prog 37 #[.agg #[.int .i64 a.1.1, .int .i64 a.1.2, .int .i64 a.2.1.1, .int .i64 a.2.1.2, .int .i64 a.2.2.1, .int .i64 a.2.2.2], .agg #[.int .i64 b.1.1, .int .i64 b.1.2, .int .i64 b.2.1.1, .int .i64 b.2.1.2, .int .i64 b.2.2.1, .int .i64 b.2.2.2], .func (.func 38) #[.pointer (some ⟨S, 0, none⟩)] #[]] w fun r w' => r = .returned (each3 sAdd a b).val ∧ Mv w w' S (err3 sAdd e a b) := by
  have h0 := Vk.start h
  have hS : Vk w ((((w.alloc (.cells #[.int .i64 a.1.1, .int .i64 a.1.2, .int .i64 a.2.1.1, .int .i64 a.2.1.2, .int .i64 a.2.2.1, .int .i64 a.2.2.2] 25 (0, 0))).alloc (.cells #[.int .i64 b.1.1, .int .i64 b.1.2, .int .i64 b.2.1.1, .int .i64 b.2.1.2, .int .i64 b.2.2.1, .int .i64 b.2.2.2] 25 (0, 0))).alloc (.cells #[.int .i64 0, .int .i64 0, .int .i64 0, .int .i64 0, .int .i64 0, .int .i64 0] 25 (0, 0))).alloc (.cells #[.int .i64 0, .int .i64 0, .int .i64 0, .int .i64 0, .int .i64 0, .int .i64 0] 25 (0, 0))) S e [(w.heap.size + 1 + 1 + 1, vobj (outL sAdd a b 0)), (w.heap.size + 1 + 1, vobj (vl v30)), (w.heap.size + 1, vobj (vl b)), (w.heap.size, vobj (vl a))] :=
    (((h0.al (vobj (vl a))).alN (vobj (vl b)) (n := w.heap.size + 1) (by simp)).alN (vobj (vl v30)) (n := w.heap.size + 1 + 1) (by simp)).alN (vobj (vl v30)) (n := w.heap.size + 1 + 1 + 1) (by simp)
  have HS := Lib.hid hS
  have HT := Lib.hid (fun (W : World) (E : Int) (x y : Int × Int) (h : W.heap[S]? = some (stp E)) => vec_add S E x y W h)
  have HB7 : Hid (w.heap.size ≤ w.heap.size + 1 + 1 + 1) := Lib.hid (by omega)
  have HN7 : Hid (∀ p ∈ [(w.heap.size + 1 + 1, vobj (vl v30)), (w.heap.size + 1, vobj (vl b)), (w.heap.size, vobj (vl a))], p.1 ≠ w.heap.size + 1 + 1 + 1) := Lib.hid (by
    simp; omega)
  clear h h0 hS
  go_enter Tryz.func37, Tryz.ntmps37
  go_wp2_with fail
  go_loopw [9] (fun i wr => ∃ k : Nat, k ≤ 3 ∧ i = .int .i64 k ∧ Hid (Vk w wr S (errL sAdd e a b k) [(w.heap.size + 1 + 1 + 1, vobj (outL sAdd a b k)), (w.heap.size + 1 + 1, vobj (vl v30)), (w.heap.size + 1, vobj (vl b)), (w.heap.size, vobj (vl a))])) (fun i _ => 3 - (intOf i).toNat)
  case atStart => exact ⟨0, by omega, rfl, HS⟩
  case round =>
    clear HS
    obtain ⟨k, hk, rfl, HA⟩ := hrel
    rcases Nat.lt_or_ge k 3 with hk' | hk'
    · obtain ⟨x, hx⟩ := vl_at a hk'
      obtain ⟨y, hy⟩ := vl_at b hk'
      obtain ⟨z, hz⟩ := outL_at (f := sAdd) (a := a) (b := b) hk'
      obtain ⟨n1, n2⟩ := out_next (f := sAdd) (e := e) hk' hx hy
      have HX := Lib.hid hx
      have HY := Lib.hid hy
      have HZ := Lib.hid hz
      have HN1 := Lib.hid n1
      have HN2 := Lib.hid n2
      clear hx hy hz n1 n2
      replace HT := Lib.hid (fun W h => HT.out W (errL sAdd e a b k) x y h)
      generalize errL sAdd e a b k = E at *
      generalize outL sAdd a b k = O at *
      generalize sAdd x y = r at *
      have hk0 : (0 : Int) ≤ (k : Int) := by omega
      have hk1 : (k : Int) < 3 := by omega
      go_upto_block 1 with (fail)
      go_cut [8] (fun i wx => i = .int .i64 (k : Int) ∧ Hid (Vk w wx S (fst2 E r.2) [(w.heap.size + 1 + 1 + 1, vobj (O.set k r.1)), (w.heap.size + 1 + 1, vobj (vl v30)), (w.heap.size + 1, vobj (vl b)), (w.heap.size, vobj (vl a))]))
      case first =>
        go_upto_region 5 with (fail)
        refine wp_region_inv (Ea_add w S 0 w.heap.size (w.heap.size + 1) (w.heap.size + 1 + 1) (w.heap.size + 1 + 1 + 1) k E O a b x y r) (by kernel_rfl) (by kernel_rfl) ?_ ?_ ?_
        · exact ⟨fun _ => HA.out.on (Below.refl _ _).drew, fun h => absurd h Bool.false_ne_true, fun h => absurd h Bool.false_ne_true, fun h => absurd h Bool.false_ne_true, fun h => absurd h Bool.false_ne_true, fun h => absurd h Bool.false_ne_true, fun h => absurd h Bool.false_ne_true, fun h => absurd h Bool.false_ne_true, fun h => absurd h Bool.false_ne_true, fun h => absurd h Bool.false_ne_true, fun h => absurd h Bool.false_ne_true, fun h => absurd h Bool.false_ne_true, fun h => absurd h Bool.false_ne_true, fun h => absurd h Bool.false_ne_true, fun h => absurd h Bool.false_ne_true, fun h => absurd h Bool.false_ne_true⟩
        · refine AllS.consN 1 (some 12) rfl rfl ?_ (AllS.consN 2 (some 13) rfl rfl ?_ (AllS.consN 3 (some 14) rfl rfl ?_ (AllS.consN 4 (some 15) rfl rfl ?_ (AllS.consN 5 (some 16) rfl rfl ?_ (AllS.consN 6 (some 17) rfl rfl ?_ (AllS.consN 7 (some 18) rfl rfl ?_ (AllS.consN 8 (some 19) rfl rfl ?_ (AllS.consN 9 (some 20) rfl rfl ?_ (AllS.consN 10 (some 21) rfl rfl ?_ (AllS.consN 11 none rfl rfl ?_ AllS.nil))))))))))
          · intro L s w2 h hk hd hn
            have s8 : s 8 = _ := hk 8 (by kernel_rfl)
            refine stepS rfl fun K hK => ?_
            go_simp
            exact hK _ _ { h with e0 := fun _ => rfl }
          · intro L s w2 h hk hd hn
            have s2 : s 2 = _ := hk 2 (by kernel_rfl)
            refine stepS rfl fun K hK => ?_
            go_simp
            exact hK _ _ { h with e1 := fun _ => rfl }
          · intro L s w2 h hk hd hn
            have s8 : s 8 = _ := hk 8 (by kernel_rfl)
            refine stepS rfl fun K hK => ?_
            go_simp
            exact hK _ _ { h with e2 := fun _ => rfl }
          · intro L s w2 h hk hd hn
            have s3 : s 3 = _ := hk 3 (by kernel_rfl)
            have s14 := h.e2 hd.1
            refine stepS rfl fun K hK => ?_
            go_simp
            exact hK _ _ { h with e3 := fun _ => rfl }
          · intro L s w2 h hk hd hn
            have s15 := h.e3 hd.1
            have h8 : L 8 = false := (Bool.eq_false_or_eq_true (L 8)).elim (fun e => absurd (h.d4 e) (by rw [hn]; exact Bool.false_ne_true)) id
            obtain ⟨c0, c1⟩ := vobj_cell ((h.st h8).blk _ (List.mem_cons_of_mem _ (List.mem_cons_of_mem _ (List.mem_cons_of_mem _ (List.mem_cons_self ..))))).2 HX.out
            refine stepS rfl fun K hK => ?_
            go_simp
            exact hK _ _ { h with e4 := fun _ => rfl, d4 := fun _ => rfl }
          · intro L s w2 h hk hd hn
            have s8 : s 8 = _ := hk 8 (by kernel_rfl)
            refine stepS rfl fun K hK => ?_
            go_simp
            exact hK _ _ { h with e5 := fun _ => rfl }
          · intro L s w2 h hk hd hn
            have s4 : s 4 = _ := hk 4 (by kernel_rfl)
            have s17 := h.e5 hd.1
            refine stepS rfl fun K hK => ?_
            go_simp
            exact hK _ _ { h with e6 := fun _ => rfl }
          · intro L s w2 h hk hd hn
            have s18 := h.e6 hd.1
            have h8 : L 8 = false := (Bool.eq_false_or_eq_true (L 8)).elim (fun e => absurd (h.d7 e) (by rw [hn]; exact Bool.false_ne_true)) id
            obtain ⟨c0, c1⟩ := vobj_cell ((h.st h8).blk _ (List.mem_cons_of_mem _ (List.mem_cons_of_mem _ (List.mem_cons_self ..)))).2 HY.out
            refine stepS rfl fun K hK => ?_
            go_simp
            exact hK _ _ { h with e7 := fun _ => rfl, d7 := fun _ => rfl }
          · intro L s w2 h hk hd hn
            have s13 := h.e1 hd.1
            have s16 := h.e4 hd.2.1
            have s19 := h.e7 hd.2.2.1
            refine stepS rfl fun K hK => ?_
            go_simp
            refine (HT.out _ (h.st hn).mv.st).mono ?_
            rintro e w3 ⟨rfl, hm⟩
            exact ⟨_, rfl, hK _ _ { h with st := fun a => absurd a.symm Bool.false_ne_true, st8 := fun _ _ => (h.st hn).next hm, st10 := fun a => absurd (h.d10 a) (by rw [hn]; exact Bool.false_ne_true), e8 := fun _ => rfl, d4 := fun _ => hd.2.1, d7 := fun _ => hd.2.2.1, d10 := fun _ => rfl }⟩
          · intro L s w2 h hk hd hn
            have s7 : s 7 = _ := hk 7 (by kernel_rfl)
            have s12 := h.e0 hd.1
            refine stepS rfl fun K hK => ?_
            go_simp
            exact hK _ _ { h with e9 := fun _ => rfl }
          · intro L s w2 h hk hd hn
            have s21 := h.e9 hd.1
            have s20 := h.e8 hd.2.1
            have hv := h.st8 hd.2.1 hn
            have b := (hv.blk _ (List.mem_cons_self ..)).2
            obtain ⟨c0, c1⟩ := vobj_cell b HZ.out
            have f0 := vobj_free b (k * 2)
            have f1 := vobj_free b (k * 2 + 1)
            have lb := lt_of_block b
            refine stepS rfl fun K hK => ?_
            go_simp
            exact hK _ _ { h with st := fun a => absurd ((show L 8 = true from hd.2.1).symm.trans a) (fun c => Bool.noConfusion c), st8 := fun _ a => absurd a.symm Bool.false_ne_true, st10 := fun _ => hv.setl HB7.out HN7.out HZ.out _, d10 := fun _ => hd.2.1 }
        · intro L s w2 h hk hl
          rename_i J K' hR hM
          refine hM _ _ (Met.intro (hR _ _ ?_))
          repeat apply Exists.intro
          refine ⟨⟨hk 8 (by kernel_rfl), Lib.hid (h.st10 (hl 10 (by decide)))⟩, ?_⟩
          refine congrArg (fun l => (⟨List.toArray l, []⟩ : Act)) ?_
          show [s 0, s 1, s 2, s 3, s 4, s 5, s 6, s 7, s 8, s 9, s 10, s 11, s 12, s 13, s 14, s 15, s 16, s 17, s 18, s 19, s 20, s 21, s 22, s 23] = _
          exact lc (hk 0 (by kernel_rfl)) (lc (hk 1 (by kernel_rfl)) (lc (hk 2 (by kernel_rfl)) (lc (hk 3 (by kernel_rfl)) (lc (hk 4 (by kernel_rfl)) (lc (hk 5 (by kernel_rfl)) (lc (hk 6 (by kernel_rfl)) (lc (hk 7 (by kernel_rfl)) (lc rfl (lc (hk 9 (by kernel_rfl)) (lc (hk 10 (by kernel_rfl)) (lc (hk 11 (by kernel_rfl)) (lc rfl (lc rfl (lc rfl (lc rfl (lc rfl (lc rfl (lc rfl (lc rfl (lc rfl (lc rfl (lc (hk 22 (by kernel_rfl)) (lc (hk 23 (by kernel_rfl)) rfl)))))))))))))))))))))))

      case rest =>
        obtain ⟨rfl, HB⟩ := hcut
        clear HA HT HX HY HZ
        go_wp2_with fail
        go_roundw
        case rel => exact ⟨k + 1, by omega, by go_num, Lib.hid (by rw [HN1.out, HN2.out]; exact HB.out)⟩
        case measure => simp [intOf]; omega
    · obtain rfl : k = 3 := by omega
      have hV : Vk w wr S (err3 sAdd e a b) [(w.heap.size + 1 + 1 + 1, vobj (vl (each3 sAdd a b))), (w.heap.size + 1 + 1, vobj (vl v30)), (w.heap.size + 1, vobj (vl b)), (w.heap.size, vobj (vl a))] := HA.out
      clear HA HT
      obtain ⟨r, hr⟩ : ∃ r, each3 sAdd a b = r := ⟨_, rfl⟩
      rw [hr] at hV
      have HRR := Lib.hid hr
      clear hr
      have b7 := (hV.blk _ (List.mem_cons_self ..)).2
      have b6 := (hV.blk _ (List.mem_cons_of_mem _ (List.mem_cons_self ..))).2
      obtain ⟨c0, c1, c2, c3, c4, c5⟩ := vobj_six b7
      obtain ⟨d0, d1, d2, d3, d4, d5⟩ := vobj_six b6
      have f0 := vobj_free b6 0
      have f1 := vobj_free b6 1
      have f2 := vobj_free b6 2
      have f3 := vobj_free b6 3
      have f4 := vobj_free b6 4
      have f5 := vobj_free b6 5
      have l6 := lt_of_block b6
      have HE := Lib.hid ((hV.sub (cs := [(w.heap.size + 1 + 1, vobj (vl v30))]) (by simp)).set6 (by omega) (by simp) r)
      obtain ⟨g0, g1, g2, g3, g4, g5⟩ := vobj_six (HE.out.blk _ (List.mem_cons_self ..)).2
      clear b7 b6 hV HB7 HN7
      go_wp2_with fail
      exact bodyPost_ret (v := r.val) (by simp [results, Tryz.results37, go_sem, V3.val, g0, g1, g2, g3, g4, g5]) rfl ⟨by rw [HRR.out], HE.out.mv⟩

structure Ea_sub (W0 : World) (S P B3 B4 B6 B7 k : Nat) (E : Int) (O : List (Int × Int)) (a b : V3) (x y : Int × Int) (r : (Int × Int) × Int) (L : Nat → Bool) (s : Nat → Value) (w : World) : Prop where
  st : L 8 = false → Vk W0 w S E [(B7, vobj O), (B6, vobj (vl v30)), (B4, vobj (vl b)), (B3, vobj (vl a))]
  st8 : L 8 = true → L 10 = false → Vk W0 w S (fst2 E r.2) [(B7, vobj O), (B6, vobj (vl v30)), (B4, vobj (vl b)), (B3, vobj (vl a))]
  st10 : L 10 = true → Vk W0 w S (fst2 E r.2) [(B7, vobj (O.set k r.1)), (B6, vobj (vl v30)), (B4, vobj (vl b)), (B3, vobj (vl a))]
  d4 : L 8 = true → L 4 = true
  d7 : L 8 = true → L 7 = true
  d10 : L 10 = true → L 8 = true
  e0 : L 0 = true → s 12 = .int .i64 (k : Int)
  e1 : L 1 = true → s 13 = .func (.func 42) #[.pointer (some ⟨S, 0, none⟩)] #[]
  e2 : L 2 = true → s 14 = .int .i64 (k : Int)
  e3 : L 3 = true → s 15 = .pointer (some ⟨B3, k * 2, none⟩)
  e4 : L 4 = true → s 16 = .agg #[.int .i64 x.1, .int .i64 x.2]
  e5 : L 5 = true → s 17 = .int .i64 (k : Int)
  e6 : L 6 = true → s 18 = .pointer (some ⟨B4, k * 2, none⟩)
  e7 : L 7 = true → s 19 = .agg #[.int .i64 y.1, .int .i64 y.2]
  e8 : L 8 = true → s 20 = .agg #[.int .i64 r.1.1, .int .i64 r.1.2]
  e9 : L 9 = true → s 21 = .pointer (some ⟨B7, k * 2, none⟩)

set_option maxRecDepth 100000 in
set_option maxHeartbeats 2000000 in
theorem each_sub (S : Nat) (e : Int) (a b : V3) (w : World) (h : w.heap[S]? = some (stp e)) :
    Calls Tryz.prog 37 #[.agg #[.int .i64 a.1.1, .int .i64 a.1.2, .int .i64 a.2.1.1, .int .i64 a.2.1.2, .int .i64 a.2.2.1, .int .i64 a.2.2.2], .agg #[.int .i64 b.1.1, .int .i64 b.1.2, .int .i64 b.2.1.1, .int .i64 b.2.1.2, .int .i64 b.2.2.1, .int .i64 b.2.2.2], .func (.func 42) #[.pointer (some ⟨S, 0, none⟩)] #[]] w fun r w' => r = .returned (each3 sSub a b).val ∧ Mv w w' S (err3 sSub e a b) := by
  have h0 := Vk.start h
  have hS : Vk w ((((w.alloc (.cells #[.int .i64 a.1.1, .int .i64 a.1.2, .int .i64 a.2.1.1, .int .i64 a.2.1.2, .int .i64 a.2.2.1, .int .i64 a.2.2.2] 25 (0, 0))).alloc (.cells #[.int .i64 b.1.1, .int .i64 b.1.2, .int .i64 b.2.1.1, .int .i64 b.2.1.2, .int .i64 b.2.2.1, .int .i64 b.2.2.2] 25 (0, 0))).alloc (.cells #[.int .i64 0, .int .i64 0, .int .i64 0, .int .i64 0, .int .i64 0, .int .i64 0] 25 (0, 0))).alloc (.cells #[.int .i64 0, .int .i64 0, .int .i64 0, .int .i64 0, .int .i64 0, .int .i64 0] 25 (0, 0))) S e [(w.heap.size + 1 + 1 + 1, vobj (outL sSub a b 0)), (w.heap.size + 1 + 1, vobj (vl v30)), (w.heap.size + 1, vobj (vl b)), (w.heap.size, vobj (vl a))] :=
    (((h0.al (vobj (vl a))).alN (vobj (vl b)) (n := w.heap.size + 1) (by simp)).alN (vobj (vl v30)) (n := w.heap.size + 1 + 1) (by simp)).alN (vobj (vl v30)) (n := w.heap.size + 1 + 1 + 1) (by simp)
  have HS := Lib.hid hS
  have HT := Lib.hid (fun (W : World) (E : Int) (x y : Int × Int) (h : W.heap[S]? = some (stp E)) => vec_sub S E x y W h)
  have HB7 : Hid (w.heap.size ≤ w.heap.size + 1 + 1 + 1) := Lib.hid (by omega)
  have HN7 : Hid (∀ p ∈ [(w.heap.size + 1 + 1, vobj (vl v30)), (w.heap.size + 1, vobj (vl b)), (w.heap.size, vobj (vl a))], p.1 ≠ w.heap.size + 1 + 1 + 1) := Lib.hid (by
    simp; omega)
  clear h h0 hS
  go_enter Tryz.func37, Tryz.ntmps37
  go_wp2_with fail
  go_loopw [9] (fun i wr => ∃ k : Nat, k ≤ 3 ∧ i = .int .i64 k ∧ Hid (Vk w wr S (errL sSub e a b k) [(w.heap.size + 1 + 1 + 1, vobj (outL sSub a b k)), (w.heap.size + 1 + 1, vobj (vl v30)), (w.heap.size + 1, vobj (vl b)), (w.heap.size, vobj (vl a))])) (fun i _ => 3 - (intOf i).toNat)
  case atStart => exact ⟨0, by omega, rfl, HS⟩
  case round =>
    clear HS
    obtain ⟨k, hk, rfl, HA⟩ := hrel
    rcases Nat.lt_or_ge k 3 with hk' | hk'
    · obtain ⟨x, hx⟩ := vl_at a hk'
      obtain ⟨y, hy⟩ := vl_at b hk'
      obtain ⟨z, hz⟩ := outL_at (f := sSub) (a := a) (b := b) hk'
      obtain ⟨n1, n2⟩ := out_next (f := sSub) (e := e) hk' hx hy
      have HX := Lib.hid hx
      have HY := Lib.hid hy
      have HZ := Lib.hid hz
      have HN1 := Lib.hid n1
      have HN2 := Lib.hid n2
      clear hx hy hz n1 n2
      replace HT := Lib.hid (fun W h => HT.out W (errL sSub e a b k) x y h)
      generalize errL sSub e a b k = E at *
      generalize outL sSub a b k = O at *
      generalize sSub x y = r at *
      have hk0 : (0 : Int) ≤ (k : Int) := by omega
      have hk1 : (k : Int) < 3 := by omega
      go_upto_block 1 with (fail)
      go_cut [8] (fun i wx => i = .int .i64 (k : Int) ∧ Hid (Vk w wx S (fst2 E r.2) [(w.heap.size + 1 + 1 + 1, vobj (O.set k r.1)), (w.heap.size + 1 + 1, vobj (vl v30)), (w.heap.size + 1, vobj (vl b)), (w.heap.size, vobj (vl a))]))
      case first =>
        go_upto_region 5 with (fail)
        refine wp_region_inv (Ea_sub w S 0 w.heap.size (w.heap.size + 1) (w.heap.size + 1 + 1) (w.heap.size + 1 + 1 + 1) k E O a b x y r) (by kernel_rfl) (by kernel_rfl) ?_ ?_ ?_
        · exact ⟨fun _ => HA.out.on (Below.refl _ _).drew, fun h => absurd h Bool.false_ne_true, fun h => absurd h Bool.false_ne_true, fun h => absurd h Bool.false_ne_true, fun h => absurd h Bool.false_ne_true, fun h => absurd h Bool.false_ne_true, fun h => absurd h Bool.false_ne_true, fun h => absurd h Bool.false_ne_true, fun h => absurd h Bool.false_ne_true, fun h => absurd h Bool.false_ne_true, fun h => absurd h Bool.false_ne_true, fun h => absurd h Bool.false_ne_true, fun h => absurd h Bool.false_ne_true, fun h => absurd h Bool.false_ne_true, fun h => absurd h Bool.false_ne_true, fun h => absurd h Bool.false_ne_true⟩
        · refine AllS.consN 1 (some 12) rfl rfl ?_ (AllS.consN 2 (some 13) rfl rfl ?_ (AllS.consN 3 (some 14) rfl rfl ?_ (AllS.consN 4 (some 15) rfl rfl ?_ (AllS.consN 5 (some 16) rfl rfl ?_ (AllS.consN 6 (some 17) rfl rfl ?_ (AllS.consN 7 (some 18) rfl rfl ?_ (AllS.consN 8 (some 19) rfl rfl ?_ (AllS.consN 9 (some 20) rfl rfl ?_ (AllS.consN 10 (some 21) rfl rfl ?_ (AllS.consN 11 none rfl rfl ?_ AllS.nil))))))))))
          · intro L s w2 h hk hd hn
            have s8 : s 8 = _ := hk 8 (by kernel_rfl)
            refine stepS rfl fun K hK => ?_
            go_simp
            exact hK _ _ { h with e0 := fun _ => rfl }
          · intro L s w2 h hk hd hn
            have s2 : s 2 = _ := hk 2 (by kernel_rfl)
            refine stepS rfl fun K hK => ?_
            go_simp
            exact hK _ _ { h with e1 := fun _ => rfl }
          · intro L s w2 h hk hd hn
            have s8 : s 8 = _ := hk 8 (by kernel_rfl)
            refine stepS rfl fun K hK => ?_
            go_simp
            exact hK _ _ { h with e2 := fun _ => rfl }
          · intro L s w2 h hk hd hn
            have s3 : s 3 = _ := hk 3 (by kernel_rfl)
            have s14 := h.e2 hd.1
            refine stepS rfl fun K hK => ?_
            go_simp
            exact hK _ _ { h with e3 := fun _ => rfl }
          · intro L s w2 h hk hd hn
            have s15 := h.e3 hd.1
            have h8 : L 8 = false := (Bool.eq_false_or_eq_true (L 8)).elim (fun e => absurd (h.d4 e) (by rw [hn]; exact Bool.false_ne_true)) id
            obtain ⟨c0, c1⟩ := vobj_cell ((h.st h8).blk _ (List.mem_cons_of_mem _ (List.mem_cons_of_mem _ (List.mem_cons_of_mem _ (List.mem_cons_self ..))))).2 HX.out
            refine stepS rfl fun K hK => ?_
            go_simp
            exact hK _ _ { h with e4 := fun _ => rfl, d4 := fun _ => rfl }
          · intro L s w2 h hk hd hn
            have s8 : s 8 = _ := hk 8 (by kernel_rfl)
            refine stepS rfl fun K hK => ?_
            go_simp
            exact hK _ _ { h with e5 := fun _ => rfl }
          · intro L s w2 h hk hd hn
            have s4 : s 4 = _ := hk 4 (by kernel_rfl)
            have s17 := h.e5 hd.1
            refine stepS rfl fun K hK => ?_
            go_simp
            exact hK _ _ { h with e6 := fun _ => rfl }
          · intro L s w2 h hk hd hn
            have s18 := h.e6 hd.1
            have h8 : L 8 = false := (Bool.eq_false_or_eq_true (L 8)).elim (fun e => absurd (h.d7 e) (by rw [hn]; exact Bool.false_ne_true)) id
            obtain ⟨c0, c1⟩ := vobj_cell ((h.st h8).blk _ (List.mem_cons_of_mem _ (List.mem_cons_of_mem _ (List.mem_cons_self ..)))).2 HY.out
            refine stepS rfl fun K hK => ?_
            go_simp
            exact hK _ _ { h with e7 := fun _ => rfl, d7 := fun _ => rfl }
          · intro L s w2 h hk hd hn
            have s13 := h.e1 hd.1
            have s16 := h.e4 hd.2.1
            have s19 := h.e7 hd.2.2.1
            refine stepS rfl fun K hK => ?_
            go_simp
            refine (HT.out _ (h.st hn).mv.st).mono ?_
            rintro e w3 ⟨rfl, hm⟩
            exact ⟨_, rfl, hK _ _ { h with st := fun a => absurd a.symm Bool.false_ne_true, st8 := fun _ _ => (h.st hn).next hm, st10 := fun a => absurd (h.d10 a) (by rw [hn]; exact Bool.false_ne_true), e8 := fun _ => rfl, d4 := fun _ => hd.2.1, d7 := fun _ => hd.2.2.1, d10 := fun _ => rfl }⟩
          · intro L s w2 h hk hd hn
            have s7 : s 7 = _ := hk 7 (by kernel_rfl)
            have s12 := h.e0 hd.1
            refine stepS rfl fun K hK => ?_
            go_simp
            exact hK _ _ { h with e9 := fun _ => rfl }
          · intro L s w2 h hk hd hn
            have s21 := h.e9 hd.1
            have s20 := h.e8 hd.2.1
            have hv := h.st8 hd.2.1 hn
            have b := (hv.blk _ (List.mem_cons_self ..)).2
            obtain ⟨c0, c1⟩ := vobj_cell b HZ.out
            have f0 := vobj_free b (k * 2)
            have f1 := vobj_free b (k * 2 + 1)
            have lb := lt_of_block b
            refine stepS rfl fun K hK => ?_
            go_simp
            exact hK _ _ { h with st := fun a => absurd ((show L 8 = true from hd.2.1).symm.trans a) (fun c => Bool.noConfusion c), st8 := fun _ a => absurd a.symm Bool.false_ne_true, st10 := fun _ => hv.setl HB7.out HN7.out HZ.out _, d10 := fun _ => hd.2.1 }
        · intro L s w2 h hk hl
          rename_i J K' hR hM
          refine hM _ _ (Met.intro (hR _ _ ?_))
          repeat apply Exists.intro
          refine ⟨⟨hk 8 (by kernel_rfl), Lib.hid (h.st10 (hl 10 (by decide)))⟩, ?_⟩
          refine congrArg (fun l => (⟨List.toArray l, []⟩ : Act)) ?_
          show [s 0, s 1, s 2, s 3, s 4, s 5, s 6, s 7, s 8, s 9, s 10, s 11, s 12, s 13, s 14, s 15, s 16, s 17, s 18, s 19, s 20, s 21, s 22, s 23] = _
          exact lc (hk 0 (by kernel_rfl)) (lc (hk 1 (by kernel_rfl)) (lc (hk 2 (by kernel_rfl)) (lc (hk 3 (by kernel_rfl)) (lc (hk 4 (by kernel_rfl)) (lc (hk 5 (by kernel_rfl)) (lc (hk 6 (by kernel_rfl)) (lc (hk 7 (by kernel_rfl)) (lc rfl (lc (hk 9 (by kernel_rfl)) (lc (hk 10 (by kernel_rfl)) (lc (hk 11 (by kernel_rfl)) (lc rfl (lc rfl (lc rfl (lc rfl (lc rfl (lc rfl (lc rfl (lc rfl (lc rfl (lc rfl (lc (hk 22 (by kernel_rfl)) (lc (hk 23 (by kernel_rfl)) rfl)))))))))))))))))))))))

      case rest =>
        obtain ⟨rfl, HB⟩ := hcut
        clear HA HT HX HY HZ
        go_wp2_with fail
        go_roundw
        case rel => exact ⟨k + 1, by omega, by go_num, Lib.hid (by rw [HN1.out, HN2.out]; exact HB.out)⟩
        case measure => simp [intOf]; omega
    · obtain rfl : k = 3 := by omega
      have hV : Vk w wr S (err3 sSub e a b) [(w.heap.size + 1 + 1 + 1, vobj (vl (each3 sSub a b))), (w.heap.size + 1 + 1, vobj (vl v30)), (w.heap.size + 1, vobj (vl b)), (w.heap.size, vobj (vl a))] := HA.out
      clear HA HT
      obtain ⟨r, hr⟩ : ∃ r, each3 sSub a b = r := ⟨_, rfl⟩
      rw [hr] at hV
      have HRR := Lib.hid hr
      clear hr
      have b7 := (hV.blk _ (List.mem_cons_self ..)).2
      have b6 := (hV.blk _ (List.mem_cons_of_mem _ (List.mem_cons_self ..))).2
      obtain ⟨c0, c1, c2, c3, c4, c5⟩ := vobj_six b7
      obtain ⟨d0, d1, d2, d3, d4, d5⟩ := vobj_six b6
      have f0 := vobj_free b6 0
      have f1 := vobj_free b6 1
      have f2 := vobj_free b6 2
      have f3 := vobj_free b6 3
      have f4 := vobj_free b6 4
      have f5 := vobj_free b6 5
      have l6 := lt_of_block b6
      have HE := Lib.hid ((hV.sub (cs := [(w.heap.size + 1 + 1, vobj (vl v30))]) (by simp)).set6 (by omega) (by simp) r)
      obtain ⟨g0, g1, g2, g3, g4, g5⟩ := vobj_six (HE.out.blk _ (List.mem_cons_self ..)).2
      clear b7 b6 hV HB7 HN7
      go_wp2_with fail
      exact bodyPost_ret (v := r.val) (by simp [results, Tryz.results37, go_sem, V3.val, g0, g1, g2, g3, g4, g5]) rfl ⟨by rw [HRR.out], HE.out.mv⟩

structure Ea_mul (W0 : World) (S P B3 B4 B6 B7 k : Nat) (E : Int) (O : List (Int × Int)) (a b : V3) (x y : Int × Int) (r : (Int × Int) × Int) (L : Nat → Bool) (s : Nat → Value) (w : World) : Prop where
  st : L 8 = false → Vk W0 w S E [(B7, vobj O), (B6, vobj (vl v30)), (B4, vobj (vl b)), (B3, vobj (vl a))]
  st8 : L 8 = true → L 10 = false → Vk W0 w S (fst2 E r.2) [(B7, vobj O), (B6, vobj (vl v30)), (B4, vobj (vl b)), (B3, vobj (vl a))]
  st10 : L 10 = true → Vk W0 w S (fst2 E r.2) [(B7, vobj (O.set k r.1)), (B6, vobj (vl v30)), (B4, vobj (vl b)), (B3, vobj (vl a))]
  d4 : L 8 = true → L 4 = true
  d7 : L 8 = true → L 7 = true
  d10 : L 10 = true → L 8 = true
  e0 : L 0 = true → s 12 = .int .i64 (k : Int)
  e1 : L 1 = true → s 13 = .func (.func 47) #[.pointer (some ⟨S, 0, none⟩)] #[]
  e2 : L 2 = true → s 14 = .int .i64 (k : Int)
  e3 : L 3 = true → s 15 = .pointer (some ⟨B3, k * 2, none⟩)
  e4 : L 4 = true → s 16 = .agg #[.int .i64 x.1, .int .i64 x.2]
  e5 : L 5 = true → s 17 = .int .i64 (k : Int)
  e6 : L 6 = true → s 18 = .pointer (some ⟨B4, k * 2, none⟩)
  e7 : L 7 = true → s 19 = .agg #[.int .i64 y.1, .int .i64 y.2]
  e8 : L 8 = true → s 20 = .agg #[.int .i64 r.1.1, .int .i64 r.1.2]
  e9 : L 9 = true → s 21 = .pointer (some ⟨B7, k * 2, none⟩)

set_option maxRecDepth 100000 in
set_option maxHeartbeats 2000000 in
theorem each_mul (S : Nat) (e : Int) (a b : V3) (w : World) (h : w.heap[S]? = some (stp e)) :
    Calls Tryz.prog 37 #[.agg #[.int .i64 a.1.1, .int .i64 a.1.2, .int .i64 a.2.1.1, .int .i64 a.2.1.2, .int .i64 a.2.2.1, .int .i64 a.2.2.2], .agg #[.int .i64 b.1.1, .int .i64 b.1.2, .int .i64 b.2.1.1, .int .i64 b.2.1.2, .int .i64 b.2.2.1, .int .i64 b.2.2.2], .func (.func 47) #[.pointer (some ⟨S, 0, none⟩)] #[]] w fun r w' => r = .returned (each3 sMul a b).val ∧ Mv w w' S (err3 sMul e a b) := by
  have h0 := Vk.start h
  have hS : Vk w ((((w.alloc (.cells #[.int .i64 a.1.1, .int .i64 a.1.2, .int .i64 a.2.1.1, .int .i64 a.2.1.2, .int .i64 a.2.2.1, .int .i64 a.2.2.2] 25 (0, 0))).alloc (.cells #[.int .i64 b.1.1, .int .i64 b.1.2, .int .i64 b.2.1.1, .int .i64 b.2.1.2, .int .i64 b.2.2.1, .int .i64 b.2.2.2] 25 (0, 0))).alloc (.cells #[.int .i64 0, .int .i64 0, .int .i64 0, .int .i64 0, .int .i64 0, .int .i64 0] 25 (0, 0))).alloc (.cells #[.int .i64 0, .int .i64 0, .int .i64 0, .int .i64 0, .int .i64 0, .int .i64 0] 25 (0, 0))) S e [(w.heap.size + 1 + 1 + 1, vobj (outL sMul a b 0)), (w.heap.size + 1 + 1, vobj (vl v30)), (w.heap.size + 1, vobj (vl b)), (w.heap.size, vobj (vl a))] :=
    (((h0.al (vobj (vl a))).alN (vobj (vl b)) (n := w.heap.size + 1) (by simp)).alN (vobj (vl v30)) (n := w.heap.size + 1 + 1) (by simp)).alN (vobj (vl v30)) (n := w.heap.size + 1 + 1 + 1) (by simp)
  have HS := Lib.hid hS
  have HT := Lib.hid (fun (W : World) (E : Int) (x y : Int × Int) (h : W.heap[S]? = some (stp E)) => vec_mul S E x y W h)
  have HB7 : Hid (w.heap.size ≤ w.heap.size + 1 + 1 + 1) := Lib.hid (by omega)
  have HN7 : Hid (∀ p ∈ [(w.heap.size + 1 + 1, vobj (vl v30)), (w.heap.size + 1, vobj (vl b)), (w.heap.size, vobj (vl a))], p.1 ≠ w.heap.size + 1 + 1 + 1) := Lib.hid (by
    simp; omega)
  clear h h0 hS
  go_enter Tryz.func37, Tryz.ntmps37
  go_wp2_with fail
  go_loopw [9] (fun i wr => ∃ k : Nat, k ≤ 3 ∧ i = .int .i64 k ∧ Hid (Vk w wr S (errL sMul e a b k) [(w.heap.size + 1 + 1 + 1, vobj (outL sMul a b k)), (w.heap.size + 1 + 1, vobj (vl v30)), (w.heap.size + 1, vobj (vl b)), (w.heap.size, vobj (vl a))])) (fun i _ => 3 - (intOf i).toNat)
  case atStart => exact ⟨0, by omega, rfl, HS⟩
  case round =>
    clear HS
    obtain ⟨k, hk, rfl, HA⟩ := hrel
    rcases Nat.lt_or_ge k 3 with hk' | hk'
    · obtain ⟨x, hx⟩ := vl_at a hk'
      obtain ⟨y, hy⟩ := vl_at b hk'
      obtain ⟨z, hz⟩ := outL_at (f := sMul) (a := a) (b := b) hk'
      obtain ⟨n1, n2⟩ := out_next (f := sMul) (e := e) hk' hx hy
      have HX := Lib.hid hx
      have HY := Lib.hid hy
      have HZ := Lib.hid hz
      have HN1 := Lib.hid n1
      have HN2 := Lib.hid n2
      clear hx hy hz n1 n2
      replace HT := Lib.hid (fun W h => HT.out W (errL sMul e a b k) x y h)
      generalize errL sMul e a b k = E at *
      generalize outL sMul a b k = O at *
      generalize sMul x y = r at *
      have hk0 : (0 : Int) ≤ (k : Int) := by omega
      have hk1 : (k : Int) < 3 := by omega
      go_upto_block 1 with (fail)
      go_cut [8] (fun i wx => i = .int .i64 (k : Int) ∧ Hid (Vk w wx S (fst2 E r.2) [(w.heap.size + 1 + 1 + 1, vobj (O.set k r.1)), (w.heap.size + 1 + 1, vobj (vl v30)), (w.heap.size + 1, vobj (vl b)), (w.heap.size, vobj (vl a))]))
      case first =>
        go_upto_region 5 with (fail)
        refine wp_region_inv (Ea_mul w S 0 w.heap.size (w.heap.size + 1) (w.heap.size + 1 + 1) (w.heap.size + 1 + 1 + 1) k E O a b x y r) (by kernel_rfl) (by kernel_rfl) ?_ ?_ ?_
        · exact ⟨fun _ => HA.out.on (Below.refl _ _).drew, fun h => absurd h Bool.false_ne_true, fun h => absurd h Bool.false_ne_true, fun h => absurd h Bool.false_ne_true, fun h => absurd h Bool.false_ne_true, fun h => absurd h Bool.false_ne_true, fun h => absurd h Bool.false_ne_true, fun h => absurd h Bool.false_ne_true, fun h => absurd h Bool.false_ne_true, fun h => absurd h Bool.false_ne_true, fun h => absurd h Bool.false_ne_true, fun h => absurd h Bool.false_ne_true, fun h => absurd h Bool.false_ne_true, fun h => absurd h Bool.false_ne_true, fun h => absurd h Bool.false_ne_true, fun h => absurd h Bool.false_ne_true⟩
        · refine AllS.consN 1 (some 12) rfl rfl ?_ (AllS.consN 2 (some 13) rfl rfl ?_ (AllS.consN 3 (some 14) rfl rfl ?_ (AllS.consN 4 (some 15) rfl rfl ?_ (AllS.consN 5 (some 16) rfl rfl ?_ (AllS.consN 6 (some 17) rfl rfl ?_ (AllS.consN 7 (some 18) rfl rfl ?_ (AllS.consN 8 (some 19) rfl rfl ?_ (AllS.consN 9 (some 20) rfl rfl ?_ (AllS.consN 10 (some 21) rfl rfl ?_ (AllS.consN 11 none rfl rfl ?_ AllS.nil))))))))))
          · intro L s w2 h hk hd hn
            have s8 : s 8 = _ := hk 8 (by kernel_rfl)
            refine stepS rfl fun K hK => ?_
            go_simp
            exact hK _ _ { h with e0 := fun _ => rfl }
          · intro L s w2 h hk hd hn
            have s2 : s 2 = _ := hk 2 (by kernel_rfl)
            refine stepS rfl fun K hK => ?_
            go_simp
            exact hK _ _ { h with e1 := fun _ => rfl }
          · intro L s w2 h hk hd hn
            have s8 : s 8 = _ := hk 8 (by kernel_rfl)
            refine stepS rfl fun K hK => ?_
            go_simp
            exact hK _ _ { h with e2 := fun _ => rfl }
          · intro L s w2 h hk hd hn
            have s3 : s 3 = _ := hk 3 (by kernel_rfl)
            have s14 := h.e2 hd.1
            refine stepS rfl fun K hK => ?_
            go_simp
            exact hK _ _ { h with e3 := fun _ => rfl }
          · intro L s w2 h hk hd hn
            have s15 := h.e3 hd.1
            have h8 : L 8 = false := (Bool.eq_false_or_eq_true (L 8)).elim (fun e => absurd (h.d4 e) (by rw [hn]; exact Bool.false_ne_true)) id
            obtain ⟨c0, c1⟩ := vobj_cell ((h.st h8).blk _ (List.mem_cons_of_mem _ (List.mem_cons_of_mem _ (List.mem_cons_of_mem _ (List.mem_cons_self ..))))).2 HX.out
            refine stepS rfl fun K hK => ?_
            go_simp
            exact hK _ _ { h with e4 := fun _ => rfl, d4 := fun _ => rfl }
          · intro L s w2 h hk hd hn
            have s8 : s 8 = _ := hk 8 (by kernel_rfl)
            refine stepS rfl fun K hK => ?_
            go_simp
            exact hK _ _ { h with e5 := fun _ => rfl }
          · intro L s w2 h hk hd hn
            have s4 : s 4 = _ := hk 4 (by kernel_rfl)
            have s17 := h.e5 hd.1
            refine stepS rfl fun K hK => ?_
            go_simp
            exact hK _ _ { h with e6 := fun _ => rfl }
          · intro L s w2 h hk hd hn
            have s18 := h.e6 hd.1
            have h8 : L 8 = false := (Bool.eq_false_or_eq_true (L 8)).elim (fun e => absurd (h.d7 e) (by rw [hn]; exact Bool.false_ne_true)) id
            obtain ⟨c0, c1⟩ := vobj_cell ((h.st h8).blk _ (List.mem_cons_of_mem _ (List.mem_cons_of_mem _ (List.mem_cons_self ..)))).2 HY.out
            refine stepS rfl fun K hK => ?_
            go_simp
            exact hK _ _ { h with e7 := fun _ => rfl, d7 := fun _ => rfl }
          · intro L s w2 h hk hd hn
            have s13 := h.e1 hd.1
            have s16 := h.e4 hd.2.1
            have s19 := h.e7 hd.2.2.1
            refine stepS rfl fun K hK => ?_
            go_simp
            refine (HT.out _ (h.st hn).mv.st).mono ?_
            rintro e w3 ⟨rfl, hm⟩
            exact ⟨_, rfl, hK _ _ { h with st := fun a => absurd a.symm Bool.false_ne_true, st8 := fun _ _ => (h.st hn).next hm, st10 := fun a => absurd (h.d10 a) (by rw [hn]; exact Bool.false_ne_true), e8 := fun _ => rfl, d4 := fun _ => hd.2.1, d7 := fun _ => hd.2.2.1, d10 := fun _ => rfl }⟩
          · intro L s w2 h hk hd hn
            have s7 : s 7 = _ := hk 7 (by kernel_rfl)
            have s12 := h.e0 hd.1
            refine stepS rfl fun K hK => ?_
            go_simp
            exact hK _ _ { h with e9 := fun _ => rfl }
          · intro L s w2 h hk hd hn
            have s21 := h.e9 hd.1
            have s20 := h.e8 hd.2.1
            have hv := h.st8 hd.2.1 hn
            have b := (hv.blk _ (List.mem_cons_self ..)).2
            obtain ⟨c0, c1⟩ := vobj_cell b HZ.out
            have f0 := vobj_free b (k * 2)
            have f1 := vobj_free b (k * 2 + 1)
            have lb := lt_of_block b
            refine stepS rfl fun K hK => ?_
            go_simp
            exact hK _ _ { h with st := fun a => absurd ((show L 8 = true from hd.2.1).symm.trans a) (fun c => Bool.noConfusion c), st8 := fun _ a => absurd a.symm Bool.false_ne_true, st10 := fun _ => hv.setl HB7.out HN7.out HZ.out _, d10 := fun _ => hd.2.1 }
        · intro L s w2 h hk hl
          rename_i J K' hR hM
          refine hM _ _ (Met.intro (hR _ _ ?_))
          repeat apply Exists.intro
          refine ⟨⟨hk 8 (by kernel_rfl), Lib.hid (h.st10 (hl 10 (by decide)))⟩, ?_⟩
          refine congrArg (fun l => (⟨List.toArray l, []⟩ : Act)) ?_
          show [s 0, s 1, s 2, s 3, s 4, s 5, s 6, s 7, s 8, s 9, s 10, s 11, s 12, s 13, s 14, s 15, s 16, s 17, s 18, s 19, s 20, s 21, s 22, s 23] = _
          exact lc (hk 0 (by kernel_rfl)) (lc (hk 1 (by kernel_rfl)) (lc (hk 2 (by kernel_rfl)) (lc (hk 3 (by kernel_rfl)) (lc (hk 4 (by kernel_rfl)) (lc (hk 5 (by kernel_rfl)) (lc (hk 6 (by kernel_rfl)) (lc (hk 7 (by kernel_rfl)) (lc rfl (lc (hk 9 (by kernel_rfl)) (lc (hk 10 (by kernel_rfl)) (lc (hk 11 (by kernel_rfl)) (lc rfl (lc rfl (lc rfl (lc rfl (lc rfl (lc rfl (lc rfl (lc rfl (lc rfl (lc rfl (lc (hk 22 (by kernel_rfl)) (lc (hk 23 (by kernel_rfl)) rfl)))))))))))))))))))))))

      case rest =>
        obtain ⟨rfl, HB⟩ := hcut
        clear HA HT HX HY HZ
        go_wp2_with fail
        go_roundw
        case rel => exact ⟨k + 1, by omega, by go_num, Lib.hid (by rw [HN1.out, HN2.out]; exact HB.out)⟩
        case measure => simp [intOf]; omega
    · obtain rfl : k = 3 := by omega
      have hV : Vk w wr S (err3 sMul e a b) [(w.heap.size + 1 + 1 + 1, vobj (vl (each3 sMul a b))), (w.heap.size + 1 + 1, vobj (vl v30)), (w.heap.size + 1, vobj (vl b)), (w.heap.size, vobj (vl a))] := HA.out
      clear HA HT
      obtain ⟨r, hr⟩ : ∃ r, each3 sMul a b = r := ⟨_, rfl⟩
      rw [hr] at hV
      have HRR := Lib.hid hr
      clear hr
      have b7 := (hV.blk _ (List.mem_cons_self ..)).2
      have b6 := (hV.blk _ (List.mem_cons_of_mem _ (List.mem_cons_self ..))).2
      obtain ⟨c0, c1, c2, c3, c4, c5⟩ := vobj_six b7
      obtain ⟨d0, d1, d2, d3, d4, d5⟩ := vobj_six b6
      have f0 := vobj_free b6 0
      have f1 := vobj_free b6 1
      have f2 := vobj_free b6 2
      have f3 := vobj_free b6 3
      have f4 := vobj_free b6 4
      have f5 := vobj_free b6 5
      have l6 := lt_of_block b6
      have HE := Lib.hid ((hV.sub (cs := [(w.heap.size + 1 + 1, vobj (vl v30))]) (by simp)).set6 (by omega) (by simp) r)
      obtain ⟨g0, g1, g2, g3, g4, g5⟩ := vobj_six (HE.out.blk _ (List.mem_cons_self ..)).2
      clear b7 b6 hV HB7 HN7
      go_wp2_with fail
      exact bodyPost_ret (v := r.val) (by simp [results, Tryz.results37, go_sem, V3.val, g0, g1, g2, g3, g4, g5]) rfl ⟨by rw [HRR.out], HE.out.mv⟩

structure Ea_div (W0 : World) (S P B3 B4 B6 B7 k : Nat) (E : Int) (O : List (Int × Int)) (a b : V3) (x y : Int × Int) (r : (Int × Int) × Int) (L : Nat → Bool) (s : Nat → Value) (w : World) : Prop where
  st : L 8 = false → Vk W0 w S E [(B7, vobj O), (B6, vobj (vl v30)), (B4, vobj (vl b)), (B3, vobj (vl a))]
  st8 : L 8 = true → L 10 = false → Vk W0 w S (fst2 E r.2) [(B7, vobj O), (B6, vobj (vl v30)), (B4, vobj (vl b)), (B3, vobj (vl a))]
  st10 : L 10 = true → Vk W0 w S (fst2 E r.2) [(B7, vobj (O.set k r.1)), (B6, vobj (vl v30)), (B4, vobj (vl b)), (B3, vobj (vl a))]
  d4 : L 8 = true → L 4 = true
  d7 : L 8 = true → L 7 = true
  d10 : L 10 = true → L 8 = true
  e0 : L 0 = true → s 12 = .int .i64 (k : Int)
  e1 : L 1 = true → s 13 = .func (.func 58) #[.pointer (some ⟨S, 0, none⟩)] #[]
  e2 : L 2 = true → s 14 = .int .i64 (k : Int)
  e3 : L 3 = true → s 15 = .pointer (some ⟨B3, k * 2, none⟩)
  e4 : L 4 = true → s 16 = .agg #[.int .i64 x.1, .int .i64 x.2]
  e5 : L 5 = true → s 17 = .int .i64 (k : Int)
  e6 : L 6 = true → s 18 = .pointer (some ⟨B4, k * 2, none⟩)
  e7 : L 7 = true → s 19 = .agg #[.int .i64 y.1, .int .i64 y.2]
  e8 : L 8 = true → s 20 = .agg #[.int .i64 r.1.1, .int .i64 r.1.2]
  e9 : L 9 = true → s 21 = .pointer (some ⟨B7, k * 2, none⟩)

set_option maxRecDepth 100000 in
set_option maxHeartbeats 2000000 in
theorem each_div (S : Nat) (e : Int) (a b : V3) (w : World) (h : w.heap[S]? = some (stp e)) :
    Calls Tryz.prog 37 #[.agg #[.int .i64 a.1.1, .int .i64 a.1.2, .int .i64 a.2.1.1, .int .i64 a.2.1.2, .int .i64 a.2.2.1, .int .i64 a.2.2.2], .agg #[.int .i64 b.1.1, .int .i64 b.1.2, .int .i64 b.2.1.1, .int .i64 b.2.1.2, .int .i64 b.2.2.1, .int .i64 b.2.2.2], .func (.func 58) #[.pointer (some ⟨S, 0, none⟩)] #[]] w fun r w' => r = .returned (each3 sDiv a b).val ∧ Mv w w' S (err3 sDiv e a b) := by
  have h0 := Vk.start h
  have hS : Vk w ((((w.alloc (.cells #[.int .i64 a.1.1, .int .i64 a.1.2, .int .i64 a.2.1.1, .int .i64 a.2.1.2, .int .i64 a.2.2.1, .int .i64 a.2.2.2] 25 (0, 0))).alloc (.cells #[.int .i64 b.1.1, .int .i64 b.1.2, .int .i64 b.2.1.1, .int .i64 b.2.1.2, .int .i64 b.2.2.1, .int .i64 b.2.2.2] 25 (0, 0))).alloc (.cells #[.int .i64 0, .int .i64 0, .int .i64 0, .int .i64 0, .int .i64 0, .int .i64 0] 25 (0, 0))).alloc (.cells #[.int .i64 0, .int .i64 0, .int .i64 0, .int .i64 0, .int .i64 0, .int .i64 0] 25 (0, 0))) S e [(w.heap.size + 1 + 1 + 1, vobj (outL sDiv a b 0)), (w.heap.size + 1 + 1, vobj (vl v30)), (w.heap.size + 1, vobj (vl b)), (w.heap.size, vobj (vl a))] :=
    (((h0.al (vobj (vl a))).alN (vobj (vl b)) (n := w.heap.size + 1) (by simp)).alN (vobj (vl v30)) (n := w.heap.size + 1 + 1) (by simp)).alN (vobj (vl v30)) (n := w.heap.size + 1 + 1 + 1) (by simp)
  have HS := Lib.hid hS
  have HT := Lib.hid (fun (W : World) (E : Int) (x y : Int × Int) (h : W.heap[S]? = some (stp E)) => vec_div S E x y W h)
  have HB7 : Hid (w.heap.size ≤ w.heap.size + 1 + 1 + 1) := Lib.hid (by omega)
  have HN7 : Hid (∀ p ∈ [(w.heap.size + 1 + 1, vobj (vl v30)), (w.heap.size + 1, vobj (vl b)), (w.heap.size, vobj (vl a))], p.1 ≠ w.heap.size + 1 + 1 + 1) := Lib.hid (by
    simp; omega)
  clear h h0 hS
  go_enter Tryz.func37, Tryz.ntmps37
  go_wp2_with fail
  go_loopw [9] (fun i wr => ∃ k : Nat, k ≤ 3 ∧ i = .int .i64 k ∧ Hid (Vk w wr S (errL sDiv e a b k) [(w.heap.size + 1 + 1 + 1, vobj (outL sDiv a b k)), (w.heap.size + 1 + 1, vobj (vl v30)), (w.heap.size + 1, vobj (vl b)), (w.heap.size, vobj (vl a))])) (fun i _ => 3 - (intOf i).toNat)
  case atStart => exact ⟨0, by omega, rfl, HS⟩
  case round =>
    clear HS
    obtain ⟨k, hk, rfl, HA⟩ := hrel
    rcases Nat.lt_or_ge k 3 with hk' | hk'
    · obtain ⟨x, hx⟩ := vl_at a hk'
      obtain ⟨y, hy⟩ := vl_at b hk'
      obtain ⟨z, hz⟩ := outL_at (f := sDiv) (a := a) (b := b) hk'
      obtain ⟨n1, n2⟩ := out_next (f := sDiv) (e := e) hk' hx hy
      have HX := Lib.hid hx
      have HY := Lib.hid hy
      have HZ := Lib.hid hz
      have HN1 := Lib.hid n1
      have HN2 := Lib.hid n2
      clear hx hy hz n1 n2
      replace HT := Lib.hid (fun W h => HT.out W (errL sDiv e a b k) x y h)
      generalize errL sDiv e a b k = E at *
      generalize outL sDiv a b k = O at *
      generalize sDiv x y = r at *
      have hk0 : (0 : Int) ≤ (k : Int) := by omega
      have hk1 : (k : Int) < 3 := by omega
      go_upto_block 1 with (fail)
      go_cut [8] (fun i wx => i = .int .i64 (k : Int) ∧ Hid (Vk w wx S (fst2 E r.2) [(w.heap.size + 1 + 1 + 1, vobj (O.set k r.1)), (w.heap.size + 1 + 1, vobj (vl v30)), (w.heap.size + 1, vobj (vl b)), (w.heap.size, vobj (vl a))]))
      case first =>
        go_upto_region 5 with (fail)
        refine wp_region_inv (Ea_div w S 0 w.heap.size (w.heap.size + 1) (w.heap.size + 1 + 1) (w.heap.size + 1 + 1 + 1) k E O a b x y r) (by kernel_rfl) (by kernel_rfl) ?_ ?_ ?_
        · exact ⟨fun _ => HA.out.on (Below.refl _ _).drew, fun h => absurd h Bool.false_ne_true, fun h => absurd h Bool.false_ne_true, fun h => absurd h Bool.false_ne_true, fun h => absurd h Bool.false_ne_true, fun h => absurd h Bool.false_ne_true, fun h => absurd h Bool.false_ne_true, fun h => absurd h Bool.false_ne_true, fun h => absurd h Bool.false_ne_true, fun h => absurd h Bool.false_ne_true, fun h => absurd h Bool.false_ne_true, fun h => absurd h Bool.false_ne_true, fun h => absurd h Bool.false_ne_true, fun h => absurd h Bool.false_ne_true, fun h => absurd h Bool.false_ne_true, fun h => absurd h Bool.false_ne_true⟩
        · refine AllS.consN 1 (some 12) rfl rfl ?_ (AllS.consN 2 (some 13) rfl rfl ?_ (AllS.consN 3 (some 14) rfl rfl ?_ (AllS.consN 4 (some 15) rfl rfl ?_ (AllS.consN 5 (some 16) rfl rfl ?_ (AllS.consN 6 (some 17) rfl rfl ?_ (AllS.consN 7 (some 18) rfl rfl ?_ (AllS.consN 8 (some 19) rfl rfl ?_ (AllS.consN 9 (some 20) rfl rfl ?_ (AllS.consN 10 (some 21) rfl rfl ?_ (AllS.consN 11 none rfl rfl ?_ AllS.nil))))))))))
          · intro L s w2 h hk hd hn
            have s8 : s 8 = _ := hk 8 (by kernel_rfl)
            refine stepS rfl fun K hK => ?_
            go_simp
            exact hK _ _ { h with e0 := fun _ => rfl }
          · intro L s w2 h hk hd hn
            have s2 : s 2 = _ := hk 2 (by kernel_rfl)
            refine stepS rfl fun K hK => ?_
            go_simp
            exact hK _ _ { h with e1 := fun _ => rfl }
          · intro L s w2 h hk hd hn
            have s8 : s 8 = _ := hk 8 (by kernel_rfl)
            refine stepS rfl fun K hK => ?_
            go_simp
            exact hK _ _ { h with e2 := fun _ => rfl }
          · intro L s w2 h hk hd hn
            have s3 : s 3 = _ := hk 3 (by kernel_rfl)
            have s14 := h.e2 hd.1
            refine stepS rfl fun K hK => ?_
            go_simp
            exact hK _ _ { h with e3 := fun _ => rfl }
          · intro L s w2 h hk hd hn
            have s15 := h.e3 hd.1
            have h8 : L 8 = false := (Bool.eq_false_or_eq_true (L 8)).elim (fun e => absurd (h.d4 e) (by rw [hn]; exact Bool.false_ne_true)) id
            obtain ⟨c0, c1⟩ := vobj_cell ((h.st h8).blk _ (List.mem_cons_of_mem _ (List.mem_cons_of_mem _ (List.mem_cons_of_mem _ (List.mem_cons_self ..))))).2 HX.out
            refine stepS rfl fun K hK => ?_
            go_simp
            exact hK _ _ { h with e4 := fun _ => rfl, d4 := fun _ => rfl }
          · intro L s w2 h hk hd hn
            have s8 : s 8 = _ := hk 8 (by kernel_rfl)
            refine stepS rfl fun K hK => ?_
            go_simp
            exact hK _ _ { h with e5 := fun _ => rfl }
          · intro L s w2 h hk hd hn
            have s4 : s 4 = _ := hk 4 (by kernel_rfl)
            have s17 := h.e5 hd.1
            refine stepS rfl fun K hK => ?_
            go_simp
            exact hK _ _ { h with e6 := fun _ => rfl }
          · intro L s w2 h hk hd hn
            have s18 := h.e6 hd.1
            have h8 : L 8 = false := (Bool.eq_false_or_eq_true (L 8)).elim (fun e => absurd (h.d7 e) (by rw [hn]; exact Bool.false_ne_true)) id
            obtain ⟨c0, c1⟩ := vobj_cell ((h.st h8).blk _ (List.mem_cons_of_mem _ (List.mem_cons_of_mem _ (List.mem_cons_self ..)))).2 HY.out
            refine stepS rfl fun K hK => ?_
            go_simp
            exact hK _ _ { h with e7 := fun _ => rfl, d7 := fun _ => rfl }
          · intro L s w2 h hk hd hn
            have s13 := h.e1 hd.1
            have s16 := h.e4 hd.2.1
            have s19 := h.e7 hd.2.2.1
            refine stepS rfl fun K hK => ?_
            go_simp
            refine (HT.out _ (h.st hn).mv.st).mono ?_
            rintro e w3 ⟨rfl, hm⟩
            exact ⟨_, rfl, hK _ _ { h with st := fun a => absurd a.symm Bool.false_ne_true, st8 := fun _ _ => (h.st hn).next hm, st10 := fun a => absurd (h.d10 a) (by rw [hn]; exact Bool.false_ne_true), e8 := fun _ => rfl, d4 := fun _ => hd.2.1, d7 := fun _ => hd.2.2.1, d10 := fun _ => rfl }⟩
          · intro L s w2 h hk hd hn
            have s7 : s 7 = _ := hk 7 (by kernel_rfl)
            have s12 := h.e0 hd.1
            refine stepS rfl fun K hK => ?_
            go_simp
            exact hK _ _ { h with e9 := fun _ => rfl }
          · intro L s w2 h hk hd hn
            have s21 := h.e9 hd.1
            have s20 := h.e8 hd.2.1
            have hv := h.st8 hd.2.1 hn
            have b := (hv.blk _ (List.mem_cons_self ..)).2
            obtain ⟨c0, c1⟩ := vobj_cell b HZ.out
            have f0 := vobj_free b (k * 2)
            have f1 := vobj_free b (k * 2 + 1)
            have lb := lt_of_block b
            refine stepS rfl fun K hK => ?_
            go_simp
            exact hK _ _ { h with st := fun a => absurd ((show L 8 = true from hd.2.1).symm.trans a) (fun c => Bool.noConfusion c), st8 := fun _ a => absurd a.symm Bool.false_ne_true, st10 := fun _ => hv.setl HB7.out HN7.out HZ.out _, d10 := fun _ => hd.2.1 }
        · intro L s w2 h hk hl
          rename_i J K' hR hM
          refine hM _ _ (Met.intro (hR _ _ ?_))
          repeat apply Exists.intro
          refine ⟨⟨hk 8 (by kernel_rfl), Lib.hid (h.st10 (hl 10 (by decide)))⟩, ?_⟩
          refine congrArg (fun l => (⟨List.toArray l, []⟩ : Act)) ?_
          show [s 0, s 1, s 2, s 3, s 4, s 5, s 6, s 7, s 8, s 9, s 10, s 11, s 12, s 13, s 14, s 15, s 16, s 17, s 18, s 19, s 20, s 21, s 22, s 23] = _
          exact lc (hk 0 (by kernel_rfl)) (lc (hk 1 (by kernel_rfl)) (lc (hk 2 (by kernel_rfl)) (lc (hk 3 (by kernel_rfl)) (lc (hk 4 (by kernel_rfl)) (lc (hk 5 (by kernel_rfl)) (lc (hk 6 (by kernel_rfl)) (lc (hk 7 (by kernel_rfl)) (lc rfl (lc (hk 9 (by kernel_rfl)) (lc (hk 10 (by kernel_rfl)) (lc (hk 11 (by kernel_rfl)) (lc rfl (lc rfl (lc rfl (lc rfl (lc rfl (lc rfl (lc rfl (lc rfl (lc rfl (lc rfl (lc (hk 22 (by kernel_rfl)) (lc (hk 23 (by kernel_rfl)) rfl)))))))))))))))))))))))

      case rest =>
        obtain ⟨rfl, HB⟩ := hcut
        clear HA HT HX HY HZ
        go_wp2_with fail
        go_roundw
        case rel => exact ⟨k + 1, by omega, by go_num, Lib.hid (by rw [HN1.out, HN2.out]; exact HB.out)⟩
        case measure => simp [intOf]; omega
    · obtain rfl : k = 3 := by omega
      have hV : Vk w wr S (err3 sDiv e a b) [(w.heap.size + 1 + 1 + 1, vobj (vl (each3 sDiv a b))), (w.heap.size + 1 + 1, vobj (vl v30)), (w.heap.size + 1, vobj (vl b)), (w.heap.size, vobj (vl a))] := HA.out
      clear HA HT
      obtain ⟨r, hr⟩ : ∃ r, each3 sDiv a b = r := ⟨_, rfl⟩
      rw [hr] at hV
      have HRR := Lib.hid hr
      clear hr
      have b7 := (hV.blk _ (List.mem_cons_self ..)).2
      have b6 := (hV.blk _ (List.mem_cons_of_mem _ (List.mem_cons_self ..))).2
      obtain ⟨c0, c1, c2, c3, c4, c5⟩ := vobj_six b7
      obtain ⟨d0, d1, d2, d3, d4, d5⟩ := vobj_six b6
      have f0 := vobj_free b6 0
      have f1 := vobj_free b6 1
      have f2 := vobj_free b6 2
      have f3 := vobj_free b6 3
      have f4 := vobj_free b6 4
      have f5 := vobj_free b6 5
      have l6 := lt_of_block b6
      have HE := Lib.hid ((hV.sub (cs := [(w.heap.size + 1 + 1, vobj (vl v30))]) (by simp)).set6 (by omega) (by simp) r)
      obtain ⟨g0, g1, g2, g3, g4, g5⟩ := vobj_six (HE.out.blk _ (List.mem_cons_self ..)).2
      clear b7 b6 hV HB7 HN7
      go_wp2_with fail
      exact bodyPost_ret (v := r.val) (by simp [results, Tryz.results37, go_sem, V3.val, g0, g1, g2, g3, g4, g5]) rfl ⟨by rw [HRR.out], HE.out.mv⟩

structure Ea_neg (W0 : World) (S P B3 B4 B6 B7 k : Nat) (E : Int) (O : List (Int × Int)) (a b : V3) (x y : Int × Int) (r : (Int × Int) × Int) (L : Nat → Bool) (s : Nat → Value) (w : World) : Prop where
  st : L 8 = false → Vk W0 w S E [(B7, vobj O), (B6, vobj (vl v30)), (B4, vobj (vl b)), (B3, vobj (vl a))]
  st8 : L 8 = true → L 10 = false → Vk W0 w S (fst2 E r.2) [(B7, vobj O), (B6, vobj (vl v30)), (B4, vobj (vl b)), (B3, vobj (vl a))]
  st10 : L 10 = true → Vk W0 w S (fst2 E r.2) [(B7, vobj (O.set k r.1)), (B6, vobj (vl v30)), (B4, vobj (vl b)), (B3, vobj (vl a))]
  d4 : L 8 = true → L 4 = true
  d7 : L 8 = true → L 7 = true
  d10 : L 10 = true → L 8 = true
  e0 : L 0 = true → s 12 = .int .i64 (k : Int)
  e1 : L 1 = true → s 13 = .func (.func 44) #[.pointer (some ⟨S, 0, none⟩)] #[]
  e2 : L 2 = true → s 14 = .int .i64 (k : Int)
  e3 : L 3 = true → s 15 = .pointer (some ⟨B3, k * 2, none⟩)
  e4 : L 4 = true → s 16 = .agg #[.int .i64 x.1, .int .i64 x.2]
  e5 : L 5 = true → s 17 = .int .i64 (k : Int)
  e6 : L 6 = true → s 18 = .pointer (some ⟨B4, k * 2, none⟩)
  e7 : L 7 = true → s 19 = .agg #[.int .i64 y.1, .int .i64 y.2]
  e8 : L 8 = true → s 20 = .agg #[.int .i64 r.1.1, .int .i64 r.1.2]
  e9 : L 9 = true → s 21 = .pointer (some ⟨B7, k * 2, none⟩)

set_option maxRecDepth 100000 in
set_option maxHeartbeats 2000000 in
theorem each_neg (S : Nat) (e : Int) (a b : V3) (w : World) (h : w.heap[S]? = some (stp e)) :
    Calls Tryz.prog 37 #[.agg #[.int .i64 a.1.1, .int .i64 a.1.2, .int .i64 a.2.1.1, .int .i64 a.2.1.2, .int .i64 a.2.2.1, .int .i64 a.2.2.2], .agg #[.int .i64 b.1.1, .int .i64 b.1.2, .int .i64 b.2.1.1, .int .i64 b.2.1.2, .int .i64 b.2.2.1, .int .i64 b.2.2.2], .func (.func 44) #[.pointer (some ⟨S, 0, none⟩)] #[]] w fun r w' => r = .returned (each3 negF a b).val ∧ Mv w w' S (err3 negF e a b) := by
  have h0 := Vk.start h
  have hS : Vk w ((((w.alloc (.cells #[.int .i64 a.1.1, .int .i64 a.1.2, .int .i64 a.2.1.1, .int .i64 a.2.1.2, .int .i64 a.2.2.1, .int .i64 a.2.2.2] 25 (0, 0))).alloc (.cells #[.int .i64 b.1.1, .int .i64 b.1.2, .int .i64 b.2.1.1, .int .i64 b.2.1.2, .int .i64 b.2.2.1, .int .i64 b.2.2.2] 25 (0, 0))).alloc (.cells #[.int .i64 0, .int .i64 0, .int .i64 0, .int .i64 0, .int .i64 0, .int .i64 0] 25 (0, 0))).alloc (.cells #[.int .i64 0, .int .i64 0, .int .i64 0, .int .i64 0, .int .i64 0, .int .i64 0] 25 (0, 0))) S e [(w.heap.size + 1 + 1 + 1, vobj (outL negF a b 0)), (w.heap.size + 1 + 1, vobj (vl v30)), (w.heap.size + 1, vobj (vl b)), (w.heap.size, vobj (vl a))] :=
    (((h0.al (vobj (vl a))).alN (vobj (vl b)) (n := w.heap.size + 1) (by simp)).alN (vobj (vl v30)) (n := w.heap.size + 1 + 1) (by simp)).alN (vobj (vl v30)) (n := w.heap.size + 1 + 1 + 1) (by simp)
  have HS := Lib.hid hS
  have HT := Lib.hid (fun (W : World) (E : Int) (x y : Int × Int) (h : W.heap[S]? = some (stp E)) => vec_neg S E x y W h)
  have HB7 : Hid (w.heap.size ≤ w.heap.size + 1 + 1 + 1) := Lib.hid (by omega)
  have HN7 : Hid (∀ p ∈ [(w.heap.size + 1 + 1, vobj (vl v30)), (w.heap.size + 1, vobj (vl b)), (w.heap.size, vobj (vl a))], p.1 ≠ w.heap.size + 1 + 1 + 1) := Lib.hid (by
    simp; omega)
  clear h h0 hS
  go_enter Tryz.func37, Tryz.ntmps37
  go_wp2_with fail
  go_loopw [9] (fun i wr => ∃ k : Nat, k ≤ 3 ∧ i = .int .i64 k ∧ Hid (Vk w wr S (errL negF e a b k) [(w.heap.size + 1 + 1 + 1, vobj (outL negF a b k)), (w.heap.size + 1 + 1, vobj (vl v30)), (w.heap.size + 1, vobj (vl b)), (w.heap.size, vobj (vl a))])) (fun i _ => 3 - (intOf i).toNat)
  case atStart => exact ⟨0, by omega, rfl, HS⟩
  case round =>
    clear HS
    obtain ⟨k, hk, rfl, HA⟩ := hrel
    rcases Nat.lt_or_ge k 3 with hk' | hk'
    · obtain ⟨x, hx⟩ := vl_at a hk'
      obtain ⟨y, hy⟩ := vl_at b hk'
      obtain ⟨z, hz⟩ := outL_at (f := negF) (a := a) (b := b) hk'
      obtain ⟨n1, n2⟩ := out_next (f := negF) (e := e) hk' hx hy
      have HX := Lib.hid hx
      have HY := Lib.hid hy
      have HZ := Lib.hid hz
      have HN1 := Lib.hid n1
      have HN2 := Lib.hid n2
      clear hx hy hz n1 n2
      replace HT := Lib.hid (fun W h => HT.out W (errL negF e a b k) x y h)
      generalize errL negF e a b k = E at *
      generalize outL negF a b k = O at *
      generalize negF x y = r at *
      have hk0 : (0 : Int) ≤ (k : Int) := by omega
      have hk1 : (k : Int) < 3 := by omega
      go_upto_block 1 with (fail)
      go_cut [8] (fun i wx => i = .int .i64 (k : Int) ∧ Hid (Vk w wx S (fst2 E r.2) [(w.heap.size + 1 + 1 + 1, vobj (O.set k r.1)), (w.heap.size + 1 + 1, vobj (vl v30)), (w.heap.size + 1, vobj (vl b)), (w.heap.size, vobj (vl a))]))
      case first =>
        go_upto_region 5 with (fail)
        refine wp_region_inv (Ea_neg w S 0 w.heap.size (w.heap.size + 1) (w.heap.size + 1 + 1) (w.heap.size + 1 + 1 + 1) k E O a b x y r) (by kernel_rfl) (by kernel_rfl) ?_ ?_ ?_
        · exact ⟨fun _ => HA.out.on (Below.refl _ _).drew, fun h => absurd h Bool.false_ne_true, fun h => absurd h Bool.false_ne_true, fun h => absurd h Bool.false_ne_true, fun h => absurd h Bool.false_ne_true, fun h => absurd h Bool.false_ne_true, fun h => absurd h Bool.false_ne_true, fun h => absurd h Bool.false_ne_true, fun h => absurd h Bool.false_ne_true, fun h => absurd h Bool.false_ne_true, fun h => absurd h Bool.false_ne_true, fun h => absurd h Bool.false_ne_true, fun h => absurd h Bool.false_ne_true, fun h => absurd h Bool.false_ne_true, fun h => absurd h Bool.false_ne_true, fun h => absurd h Bool.false_ne_true⟩
        · refine AllS.consN 1 (some 12) rfl rfl ?_ (AllS.consN 2 (some 13) rfl rfl ?_ (AllS.consN 3 (some 14) rfl rfl ?_ (AllS.consN 4 (some 15) rfl rfl ?_ (AllS.consN 5 (some 16) rfl rfl ?_ (AllS.consN 6 (some 17) rfl rfl ?_ (AllS.consN 7 (some 18) rfl rfl ?_ (AllS.consN 8 (some 19) rfl rfl ?_ (AllS.consN 9 (some 20) rfl rfl ?_ (AllS.consN 10 (some 21) rfl rfl ?_ (AllS.consN 11 none rfl rfl ?_ AllS.nil))))))))))
          · intro L s w2 h hk hd hn
            have s8 : s 8 = _ := hk 8 (by kernel_rfl)
            refine stepS rfl fun K hK => ?_
            go_simp
            exact hK _ _ { h with e0 := fun _ => rfl }
          · intro L s w2 h hk hd hn
            have s2 : s 2 = _ := hk 2 (by kernel_rfl)
            refine stepS rfl fun K hK => ?_
            go_simp
            exact hK _ _ { h with e1 := fun _ => rfl }
          · intro L s w2 h hk hd hn
            have s8 : s 8 = _ := hk 8 (by kernel_rfl)
            refine stepS rfl fun K hK => ?_
            go_simp
            exact hK _ _ { h with e2 := fun _ => rfl }
          · intro L s w2 h hk hd hn
            have s3 : s 3 = _ := hk 3 (by kernel_rfl)
            have s14 := h.e2 hd.1
            refine stepS rfl fun K hK => ?_
            go_simp
            exact hK _ _ { h with e3 := fun _ => rfl }
          · intro L s w2 h hk hd hn
            have s15 := h.e3 hd.1
            have h8 : L 8 = false := (Bool.eq_false_or_eq_true (L 8)).elim (fun e => absurd (h.d4 e) (by rw [hn]; exact Bool.false_ne_true)) id
            obtain ⟨c0, c1⟩ := vobj_cell ((h.st h8).blk _ (List.mem_cons_of_mem _ (List.mem_cons_of_mem _ (List.mem_cons_of_mem _ (List.mem_cons_self ..))))).2 HX.out
            refine stepS rfl fun K hK => ?_
            go_simp
            exact hK _ _ { h with e4 := fun _ => rfl, d4 := fun _ => rfl }
          · intro L s w2 h hk hd hn
            have s8 : s 8 = _ := hk 8 (by kernel_rfl)
            refine stepS rfl fun K hK => ?_
            go_simp
            exact hK _ _ { h with e5 := fun _ => rfl }
          · intro L s w2 h hk hd hn
            have s4 : s 4 = _ := hk 4 (by kernel_rfl)
            have s17 := h.e5 hd.1
            refine stepS rfl fun K hK => ?_
            go_simp
            exact hK _ _ { h with e6 := fun _ => rfl }
          · intro L s w2 h hk hd hn
            have s18 := h.e6 hd.1
            have h8 : L 8 = false := (Bool.eq_false_or_eq_true (L 8)).elim (fun e => absurd (h.d7 e) (by rw [hn]; exact Bool.false_ne_true)) id
            obtain ⟨c0, c1⟩ := vobj_cell ((h.st h8).blk _ (List.mem_cons_of_mem _ (List.mem_cons_of_mem _ (List.mem_cons_self ..)))).2 HY.out
            refine stepS rfl fun K hK => ?_
            go_simp
            exact hK _ _ { h with e7 := fun _ => rfl, d7 := fun _ => rfl }
          · intro L s w2 h hk hd hn
            have s13 := h.e1 hd.1
            have s16 := h.e4 hd.2.1
            have s19 := h.e7 hd.2.2.1
            refine stepS rfl fun K hK => ?_
            go_simp
            refine (HT.out _ (h.st hn).mv.st).mono ?_
            rintro e w3 ⟨rfl, hm⟩
            exact ⟨_, rfl, hK _ _ { h with st := fun a => absurd a.symm Bool.false_ne_true, st8 := fun _ _ => (h.st hn).next hm, st10 := fun a => absurd (h.d10 a) (by rw [hn]; exact Bool.false_ne_true), e8 := fun _ => rfl, d4 := fun _ => hd.2.1, d7 := fun _ => hd.2.2.1, d10 := fun _ => rfl }⟩
          · intro L s w2 h hk hd hn
            have s7 : s 7 = _ := hk 7 (by kernel_rfl)
            have s12 := h.e0 hd.1
            refine stepS rfl fun K hK => ?_
            go_simp
            exact hK _ _ { h with e9 := fun _ => rfl }
          · intro L s w2 h hk hd hn
            have s21 := h.e9 hd.1
            have s20 := h.e8 hd.2.1
            have hv := h.st8 hd.2.1 hn
            have b := (hv.blk _ (List.mem_cons_self ..)).2
            obtain ⟨c0, c1⟩ := vobj_cell b HZ.out
            have f0 := vobj_free b (k * 2)
            have f1 := vobj_free b (k * 2 + 1)
            have lb := lt_of_block b
            refine stepS rfl fun K hK => ?_
            go_simp
            exact hK _ _ { h with st := fun a => absurd ((show L 8 = true from hd.2.1).symm.trans a) (fun c => Bool.noConfusion c), st8 := fun _ a => absurd a.symm Bool.false_ne_true, st10 := fun _ => hv.setl HB7.out HN7.out HZ.out _, d10 := fun _ => hd.2.1 }
        · intro L s w2 h hk hl
          rename_i J K' hR hM
          refine hM _ _ (Met.intro (hR _ _ ?_))
          repeat apply Exists.intro
          refine ⟨⟨hk 8 (by kernel_rfl), Lib.hid (h.st10 (hl 10 (by decide)))⟩, ?_⟩
          refine congrArg (fun l => (⟨List.toArray l, []⟩ : Act)) ?_
          show [s 0, s 1, s 2, s 3, s 4, s 5, s 6, s 7, s 8, s 9, s 10, s 11, s 12, s 13, s 14, s 15, s 16, s 17, s 18, s 19, s 20, s 21, s 22, s 23] = _
          exact lc (hk 0 (by kernel_rfl)) (lc (hk 1 (by kernel_rfl)) (lc (hk 2 (by kernel_rfl)) (lc (hk 3 (by kernel_rfl)) (lc (hk 4 (by kernel_rfl)) (lc (hk 5 (by kernel_rfl)) (lc (hk 6 (by kernel_rfl)) (lc (hk 7 (by kernel_rfl)) (lc rfl (lc (hk 9 (by kernel_rfl)) (lc (hk 10 (by kernel_rfl)) (lc (hk 11 (by kernel_rfl)) (lc rfl (lc rfl (lc rfl (lc rfl (lc rfl (lc rfl (lc rfl (lc rfl (lc rfl (lc rfl (lc (hk 22 (by kernel_rfl)) (lc (hk 23 (by kernel_rfl)) rfl)))))))))))))))))))))))

      case rest =>
        obtain ⟨rfl, HB⟩ := hcut
        clear HA HT HX HY HZ
        go_wp2_with fail
        go_roundw
        case rel => exact ⟨k + 1, by omega, by go_num, Lib.hid (by rw [HN1.out, HN2.out]; exact HB.out)⟩
        case measure => simp [intOf]; omega
    · obtain rfl : k = 3 := by omega
      have hV : Vk w wr S (err3 negF e a b) [(w.heap.size + 1 + 1 + 1, vobj (vl (each3 negF a b))), (w.heap.size + 1 + 1, vobj (vl v30)), (w.heap.size + 1, vobj (vl b)), (w.heap.size, vobj (vl a))] := HA.out
      clear HA HT
      obtain ⟨r, hr⟩ : ∃ r, each3 negF a b = r := ⟨_, rfl⟩
      rw [hr] at hV
      have HRR := Lib.hid hr
      clear hr
      have b7 := (hV.blk _ (List.mem_cons_self ..)).2
      have b6 := (hV.blk _ (List.mem_cons_of_mem _ (List.mem_cons_self ..))).2
      obtain ⟨c0, c1, c2, c3, c4, c5⟩ := vobj_six b7
      obtain ⟨d0, d1, d2, d3, d4, d5⟩ := vobj_six b6
      have f0 := vobj_free b6 0
      have f1 := vobj_free b6 1
      have f2 := vobj_free b6 2
      have f3 := vobj_free b6 3
      have f4 := vobj_free b6 4
      have f5 := vobj_free b6 5
      have l6 := lt_of_block b6
      have HE := Lib.hid ((hV.sub (cs := [(w.heap.size + 1 + 1, vobj (vl v30))]) (by simp)).set6 (by omega) (by simp) r)
      obtain ⟨g0, g1, g2, g3, g4, g5⟩ := vobj_six (HE.out.blk _ (List.mem_cons_self ..)).2
      clear b7 b6 hV HB7 HN7
      go_wp2_with fail
      exact bodyPost_ret (v := r.val) (by simp [results, Tryz.results37, go_sem, V3.val, g0, g1, g2, g3, g4, g5]) rfl ⟨by rw [HRR.out], HE.out.mv⟩

structure Ea_norm1 (W0 : World) (S P B3 B4 B6 B7 k : Nat) (E : Int) (O : List (Int × Int)) (a b : V3) (x y : Int × Int) (r : (Int × Int) × Int) (L : Nat → Bool) (s : Nat → Value) (w : World) : Prop where
  st : L 8 = false → Vk W0 w S E [(B7, vobj O), (B6, vobj (vl v30)), (B4, vobj (vl b)), (B3, vobj (vl a)), (P, .cells #[.pointer (some ⟨S, 0, none⟩)] 59 (0, 0))]
  st8 : L 8 = true → L 10 = false → Vk W0 w S (fst2 E r.2) [(B7, vobj O), (B6, vobj (vl v30)), (B4, vobj (vl b)), (B3, vobj (vl a)), (P, .cells #[.pointer (some ⟨S, 0, none⟩)] 59 (0, 0))]
  st10 : L 10 = true → Vk W0 w S (fst2 E r.2) [(B7, vobj (O.set k r.1)), (B6, vobj (vl v30)), (B4, vobj (vl b)), (B3, vobj (vl a)), (P, .cells #[.pointer (some ⟨S, 0, none⟩)] 59 (0, 0))]
  d4 : L 8 = true → L 4 = true
  d7 : L 8 = true → L 7 = true
  d10 : L 10 = true → L 8 = true
  e0 : L 0 = true → s 12 = .int .i64 (k : Int)
  e1 : L 1 = true → s 13 = .func (.func 76) #[] #[.pointer (some ⟨P, 0, none⟩)]
  e2 : L 2 = true → s 14 = .int .i64 (k : Int)
  e3 : L 3 = true → s 15 = .pointer (some ⟨B3, k * 2, none⟩)
  e4 : L 4 = true → s 16 = .agg #[.int .i64 x.1, .int .i64 x.2]
  e5 : L 5 = true → s 17 = .int .i64 (k : Int)
  e6 : L 6 = true → s 18 = .pointer (some ⟨B4, k * 2, none⟩)
  e7 : L 7 = true → s 19 = .agg #[.int .i64 y.1, .int .i64 y.2]
  e8 : L 8 = true → s 20 = .agg #[.int .i64 r.1.1, .int .i64 r.1.2]
  e9 : L 9 = true → s 21 = .pointer (some ⟨B7, k * 2, none⟩)

set_option maxRecDepth 100000 in
set_option maxHeartbeats 2000000 in
theorem each_norm1 (S P : Nat) (e : Int) (a b : V3) (w : World) (h : w.heap[S]? = some (stp e)) (hP : w.heap[P]? = some (.cells #[.pointer (some ⟨S, 0, none⟩)] 59 (0, 0))) :
    Calls Tryz.prog 37 #[.agg #[.int .i64 a.1.1, .int .i64 a.1.2, .int .i64 a.2.1.1, .int .i64 a.2.1.2, .int .i64 a.2.2.1, .int .i64 a.2.2.2], .agg #[.int .i64 b.1.1, .int .i64 b.1.2, .int .i64 b.2.1.1, .int .i64 b.2.1.2, .int .i64 b.2.2.1, .int .i64 b.2.2.2], .func (.func 76) #[] #[.pointer (some ⟨P, 0, none⟩)]] w fun r w' => r = .returned (each3 sqrF a b).val ∧ Mv w w' S (err3 sqrF e a b) := by
  have hPS : P ≠ S := by
    intro c
    subst c
    rw [h] at hP
    simp [stp] at hP
  have h0 : Vk w w S e [(P, .cells #[.pointer (some ⟨S, 0, none⟩)] 59 (0, 0))] := ⟨Mv.start h, fun p hp => by
    rw [List.mem_singleton] at hp
    subst hp
    exact ⟨hPS, hP⟩⟩
  have lP := lt_of_block hP
  clear hP
  have hS : Vk w ((((w.alloc (.cells #[.int .i64 a.1.1, .int .i64 a.1.2, .int .i64 a.2.1.1, .int .i64 a.2.1.2, .int .i64 a.2.2.1, .int .i64 a.2.2.2] 25 (0, 0))).alloc (.cells #[.int .i64 b.1.1, .int .i64 b.1.2, .int .i64 b.2.1.1, .int .i64 b.2.1.2, .int .i64 b.2.2.1, .int .i64 b.2.2.2] 25 (0, 0))).alloc (.cells #[.int .i64 0, .int .i64 0, .int .i64 0, .int .i64 0, .int .i64 0, .int .i64 0] 25 (0, 0))).alloc (.cells #[.int .i64 0, .int .i64 0, .int .i64 0, .int .i64 0, .int .i64 0, .int .i64 0] 25 (0, 0))) S e [(w.heap.size + 1 + 1 + 1, vobj (outL sqrF a b 0)), (w.heap.size + 1 + 1, vobj (vl v30)), (w.heap.size + 1, vobj (vl b)), (w.heap.size, vobj (vl a)), (P, .cells #[.pointer (some ⟨S, 0, none⟩)] 59 (0, 0))] :=
    (((h0.al (vobj (vl a))).alN (vobj (vl b)) (n := w.heap.size + 1) (by simp)).alN (vobj (vl v30)) (n := w.heap.size + 1 + 1) (by simp)).alN (vobj (vl v30)) (n := w.heap.size + 1 + 1 + 1) (by simp)
  have HS := Lib.hid hS
  have HT := Lib.hid (fun (W : World) (E : Int) (x y : Int × Int) (h : W.heap[S]? = some (stp E)) (hP : W.heap[P]? = some (.cells #[.pointer (some ⟨S, 0, none⟩)] 59 (0, 0))) => vec_norm1 S P E x y W h hP)
  have HB7 : Hid (w.heap.size ≤ w.heap.size + 1 + 1 + 1) := Lib.hid (by omega)
  have HN7 : Hid (∀ p ∈ [(w.heap.size + 1 + 1, vobj (vl v30)), (w.heap.size + 1, vobj (vl b)), (w.heap.size, vobj (vl a)), (P, .cells #[.pointer (some ⟨S, 0, none⟩)] 59 (0, 0))], p.1 ≠ w.heap.size + 1 + 1 + 1) := Lib.hid (by
    simp; omega)
  clear h h0 hS hPS
  go_enter Tryz.func37, Tryz.ntmps37
  go_wp2_with fail
  go_loopw [9] (fun i wr => ∃ k : Nat, k ≤ 3 ∧ i = .int .i64 k ∧ Hid (Vk w wr S (errL sqrF e a b k) [(w.heap.size + 1 + 1 + 1, vobj (outL sqrF a b k)), (w.heap.size + 1 + 1, vobj (vl v30)), (w.heap.size + 1, vobj (vl b)), (w.heap.size, vobj (vl a)), (P, .cells #[.pointer (some ⟨S, 0, none⟩)] 59 (0, 0))])) (fun i _ => 3 - (intOf i).toNat)
  case atStart => exact ⟨0, by omega, rfl, HS⟩
  case round =>
    clear HS
    obtain ⟨k, hk, rfl, HA⟩ := hrel
    rcases Nat.lt_or_ge k 3 with hk' | hk'
    · obtain ⟨x, hx⟩ := vl_at a hk'
      obtain ⟨y, hy⟩ := vl_at b hk'
      obtain ⟨z, hz⟩ := outL_at (f := sqrF) (a := a) (b := b) hk'
      obtain ⟨n1, n2⟩ := out_next (f := sqrF) (e := e) hk' hx hy
      have HX := Lib.hid hx
      have HY := Lib.hid hy
      have HZ := Lib.hid hz
      have HN1 := Lib.hid n1
      have HN2 := Lib.hid n2
      clear hx hy hz n1 n2
      replace HT := Lib.hid (fun W h hP => HT.out W (errL sqrF e a b k) x y h hP)
      generalize errL sqrF e a b k = E at *
      generalize outL sqrF a b k = O at *
      generalize sqrF x y = r at *
      have hk0 : (0 : Int) ≤ (k : Int) := by omega
      have hk1 : (k : Int) < 3 := by omega
      go_upto_block 1 with (fail)
      go_cut [8] (fun i wx => i = .int .i64 (k : Int) ∧ Hid (Vk w wx S (fst2 E r.2) [(w.heap.size + 1 + 1 + 1, vobj (O.set k r.1)), (w.heap.size + 1 + 1, vobj (vl v30)), (w.heap.size + 1, vobj (vl b)), (w.heap.size, vobj (vl a)), (P, .cells #[.pointer (some ⟨S, 0, none⟩)] 59 (0, 0))]))
      case first =>
        go_upto_region 5 with (fail)
        refine wp_region_inv (Ea_norm1 w S P w.heap.size (w.heap.size + 1) (w.heap.size + 1 + 1) (w.heap.size + 1 + 1 + 1) k E O a b x y r) (by kernel_rfl) (by kernel_rfl) ?_ ?_ ?_
        · exact ⟨fun _ => HA.out.on (Below.refl _ _).drew, fun h => absurd h Bool.false_ne_true, fun h => absurd h Bool.false_ne_true, fun h => absurd h Bool.false_ne_true, fun h => absurd h Bool.false_ne_true, fun h => absurd h Bool.false_ne_true, fun h => absurd h Bool.false_ne_true, fun h => absurd h Bool.false_ne_true, fun h => absurd h Bool.false_ne_true, fun h => absurd h Bool.false_ne_true, fun h => absurd h Bool.false_ne_true, fun h => absurd h Bool.false_ne_true, fun h => absurd h Bool.false_ne_true, fun h => absurd h Bool.false_ne_true, fun h => absurd h Bool.false_ne_true, fun h => absurd h Bool.false_ne_true⟩
        · refine AllS.consN 1 (some 12) rfl rfl ?_ (AllS.consN 2 (some 13) rfl rfl ?_ (AllS.consN 3 (some 14) rfl rfl ?_ (AllS.consN 4 (some 15) rfl rfl ?_ (AllS.consN 5 (some 16) rfl rfl ?_ (AllS.consN 6 (some 17) rfl rfl ?_ (AllS.consN 7 (some 18) rfl rfl ?_ (AllS.consN 8 (some 19) rfl rfl ?_ (AllS.consN 9 (some 20) rfl rfl ?_ (AllS.consN 10 (some 21) rfl rfl ?_ (AllS.consN 11 none rfl rfl ?_ AllS.nil))))))))))
          · intro L s w2 h hk hd hn
            have s8 : s 8 = _ := hk 8 (by kernel_rfl)
            refine stepS rfl fun K hK => ?_
            go_simp
            exact hK _ _ { h with e0 := fun _ => rfl }
          · intro L s w2 h hk hd hn
            have s2 : s 2 = _ := hk 2 (by kernel_rfl)
            refine stepS rfl fun K hK => ?_
            go_simp
            exact hK _ _ { h with e1 := fun _ => rfl }
          · intro L s w2 h hk hd hn
            have s8 : s 8 = _ := hk 8 (by kernel_rfl)
            refine stepS rfl fun K hK => ?_
            go_simp
            exact hK _ _ { h with e2 := fun _ => rfl }
          · intro L s w2 h hk hd hn
            have s3 : s 3 = _ := hk 3 (by kernel_rfl)
            have s14 := h.e2 hd.1
            refine stepS rfl fun K hK => ?_
            go_simp
            exact hK _ _ { h with e3 := fun _ => rfl }
          · intro L s w2 h hk hd hn
            have s15 := h.e3 hd.1
            have h8 : L 8 = false := (Bool.eq_false_or_eq_true (L 8)).elim (fun e => absurd (h.d4 e) (by rw [hn]; exact Bool.false_ne_true)) id
            obtain ⟨c0, c1⟩ := vobj_cell ((h.st h8).blk _ (List.mem_cons_of_mem _ (List.mem_cons_of_mem _ (List.mem_cons_of_mem _ (List.mem_cons_self ..))))).2 HX.out
            refine stepS rfl fun K hK => ?_
            go_simp
            exact hK _ _ { h with e4 := fun _ => rfl, d4 := fun _ => rfl }
          · intro L s w2 h hk hd hn
            have s8 : s 8 = _ := hk 8 (by kernel_rfl)
            refine stepS rfl fun K hK => ?_
            go_simp
            exact hK _ _ { h with e5 := fun _ => rfl }
          · intro L s w2 h hk hd hn
            have s4 : s 4 = _ := hk 4 (by kernel_rfl)
            have s17 := h.e5 hd.1
            refine stepS rfl fun K hK => ?_
            go_simp
            exact hK _ _ { h with e6 := fun _ => rfl }
          · intro L s w2 h hk hd hn
            have s18 := h.e6 hd.1
            have h8 : L 8 = false := (Bool.eq_false_or_eq_true (L 8)).elim (fun e => absurd (h.d7 e) (by rw [hn]; exact Bool.false_ne_true)) id
            obtain ⟨c0, c1⟩ := vobj_cell ((h.st h8).blk _ (List.mem_cons_of_mem _ (List.mem_cons_of_mem _ (List.mem_cons_self ..)))).2 HY.out
            refine stepS rfl fun K hK => ?_
            go_simp
            exact hK _ _ { h with e7 := fun _ => rfl, d7 := fun _ => rfl }
          · intro L s w2 h hk hd hn
            have s13 := h.e1 hd.1
            have s16 := h.e4 hd.2.1
            have s19 := h.e7 hd.2.2.1
            refine stepS rfl fun K hK => ?_
            go_simp
            refine (HT.out _ (h.st hn).mv.st ((h.st hn).blk _ (List.mem_cons_of_mem _ (List.mem_cons_of_mem _ (List.mem_cons_of_mem _ (List.mem_cons_of_mem _ (List.mem_cons_self ..)))))).2).mono ?_
            rintro e w3 ⟨rfl, hm⟩
            exact ⟨_, rfl, hK _ _ { h with st := fun a => absurd a.symm Bool.false_ne_true, st8 := fun _ _ => (h.st hn).next hm, st10 := fun a => absurd (h.d10 a) (by rw [hn]; exact Bool.false_ne_true), e8 := fun _ => rfl, d4 := fun _ => hd.2.1, d7 := fun _ => hd.2.2.1, d10 := fun _ => rfl }⟩
          · intro L s w2 h hk hd hn
            have s7 : s 7 = _ := hk 7 (by kernel_rfl)
            have s12 := h.e0 hd.1
            refine stepS rfl fun K hK => ?_
            go_simp
            exact hK _ _ { h with e9 := fun _ => rfl }
          · intro L s w2 h hk hd hn
            have s21 := h.e9 hd.1
            have s20 := h.e8 hd.2.1
            have hv := h.st8 hd.2.1 hn
            have b := (hv.blk _ (List.mem_cons_self ..)).2
            obtain ⟨c0, c1⟩ := vobj_cell b HZ.out
            have f0 := vobj_free b (k * 2)
            have f1 := vobj_free b (k * 2 + 1)
            have lb := lt_of_block b
            refine stepS rfl fun K hK => ?_
            go_simp
            exact hK _ _ { h with st := fun a => absurd ((show L 8 = true from hd.2.1).symm.trans a) (fun c => Bool.noConfusion c), st8 := fun _ a => absurd a.symm Bool.false_ne_true, st10 := fun _ => hv.setl HB7.out HN7.out HZ.out _, d10 := fun _ => hd.2.1 }
        · intro L s w2 h hk hl
          rename_i J K' hR hM
          refine hM _ _ (Met.intro (hR _ _ ?_))
          repeat apply Exists.intro
          refine ⟨⟨hk 8 (by kernel_rfl), Lib.hid (h.st10 (hl 10 (by decide)))⟩, ?_⟩
          refine congrArg (fun l => (⟨List.toArray l, []⟩ : Act)) ?_
          show [s 0, s 1, s 2, s 3, s 4, s 5, s 6, s 7, s 8, s 9, s 10, s 11, s 12, s 13, s 14, s 15, s 16, s 17, s 18, s 19, s 20, s 21, s 22, s 23] = _
          exact lc (hk 0 (by kernel_rfl)) (lc (hk 1 (by kernel_rfl)) (lc (hk 2 (by kernel_rfl)) (lc (hk 3 (by kernel_rfl)) (lc (hk 4 (by kernel_rfl)) (lc (hk 5 (by kernel_rfl)) (lc (hk 6 (by kernel_rfl)) (lc (hk 7 (by kernel_rfl)) (lc rfl (lc (hk 9 (by kernel_rfl)) (lc (hk 10 (by kernel_rfl)) (lc (hk 11 (by kernel_rfl)) (lc rfl (lc rfl (lc rfl (lc rfl (lc rfl (lc rfl (lc rfl (lc rfl (lc rfl (lc rfl (lc (hk 22 (by kernel_rfl)) (lc (hk 23 (by kernel_rfl)) rfl)))))))))))))))))))))))

      case rest =>
        obtain ⟨rfl, HB⟩ := hcut
        clear HA HT HX HY HZ
        go_wp2_with fail
        go_roundw
        case rel => exact ⟨k + 1, by omega, by go_num, Lib.hid (by rw [HN1.out, HN2.out]; exact HB.out)⟩
        case measure => simp [intOf]; omega
    · obtain rfl : k = 3 := by omega
      have hV : Vk w wr S (err3 sqrF e a b) [(w.heap.size + 1 + 1 + 1, vobj (vl (each3 sqrF a b))), (w.heap.size + 1 + 1, vobj (vl v30)), (w.heap.size + 1, vobj (vl b)), (w.heap.size, vobj (vl a)), (P, .cells #[.pointer (some ⟨S, 0, none⟩)] 59 (0, 0))] := HA.out
      clear HA HT
      obtain ⟨r, hr⟩ : ∃ r, each3 sqrF a b = r := ⟨_, rfl⟩
      rw [hr] at hV
      have HRR := Lib.hid hr
      clear hr
      have b7 := (hV.blk _ (List.mem_cons_self ..)).2
      have b6 := (hV.blk _ (List.mem_cons_of_mem _ (List.mem_cons_self ..))).2
      obtain ⟨c0, c1, c2, c3, c4, c5⟩ := vobj_six b7
      obtain ⟨d0, d1, d2, d3, d4, d5⟩ := vobj_six b6
      have f0 := vobj_free b6 0
      have f1 := vobj_free b6 1
      have f2 := vobj_free b6 2
      have f3 := vobj_free b6 3
      have f4 := vobj_free b6 4
      have f5 := vobj_free b6 5
      have l6 := lt_of_block b6
      have HE := Lib.hid ((hV.sub (cs := [(w.heap.size + 1 + 1, vobj (vl v30))]) (by simp)).set6 (by omega) (by simp) r)
      obtain ⟨g0, g1, g2, g3, g4, g5⟩ := vobj_six (HE.out.blk _ (List.mem_cons_self ..)).2
      clear b7 b6 hV HB7 HN7
      go_wp2_with fail
      exact bodyPost_ret (v := r.val) (by simp [results, Tryz.results37, go_sem, V3.val, g0, g1, g2, g3, g4, g5]) rfl ⟨by rw [HRR.out], HE.out.mv⟩
end Go.Proofs.YtmnccbhlllnlbaaGreat
