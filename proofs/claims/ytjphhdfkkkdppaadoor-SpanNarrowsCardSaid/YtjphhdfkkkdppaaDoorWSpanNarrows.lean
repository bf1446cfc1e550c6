/- The walk of monoclelaw02.SpanNarrows. Printed by a generator. -/
import Derived.Deep.DeepCutAuto
import Derived.Test.YtjphhdfkkkdppaaDoorLawU
namespace Go.Proofs.YtjphhdfkkkdppaaDoor
open Go.RowKit Mnc
attribute [local go_sem] RunS_value RunS_skip RunS_enter evS_tmp evS_const evS_global evS_func

structure NrA (W : World) (P : Nat) (p : (Int × Int) × (Int × Int)) (L : Nat → Bool) (s : Nat → Value) (w : World) : Prop where
  bel : Below W.heap.size W w
  e0 : L 0 = true → s 40 = .pointer (some ⟨P, 0, none⟩)
  e1 : L 1 = true → s 41 = .agg #[.int .i64 p.1.1, .int .i64 p.1.2]
  e2 : L 2 = true → s 42 = .pointer (some ⟨P, 2, none⟩)
  e3 : L 3 = true → s 43 = .agg #[.int .i64 p.2.1, .int .i64 p.2.2]
  e4 : L 4 = true → Bx w W.heap.size (s 11) (L 6 = true) p.1
  e5 : L 5 = true → Bx w W.heap.size (s 12) (L 7 = true) p.2
  ne : L 4 = true → L 5 = true → s 11 ≠ s 12
  d6 : L 6 = true → L 4 = true
  d7 : L 7 = true → L 5 = true
structure NrP (W : World) (A B K : Nat) (p : (Int × Int) × (Int × Int)) (v : Int × Int) (L : Nat → Bool) (s : Nat → Value) (w : World) : Prop where
  bel : Below W.heap.size W w
  e0 : L 0 = true → s 44 = .agg #[.int .i64 p.1.1, .int .i64 p.1.2]
  e1 : L 1 = true → s 45 = .pointer (some ⟨K, 0, none⟩)
  e2 : L 2 = true → s 46 = .int .u64 v.1
  e3 : L 3 = true → s 47 = .int .i64 (atV p.1 v.1)
  e4 : L 4 = true → s 48 = .agg #[.int .i64 p.2.1, .int .i64 p.2.2]
  e5 : L 5 = true → s 49 = .pointer (some ⟨K, 1, none⟩)
  e6 : L 6 = true → s 50 = .int .u64 v.2
  e7 : L 7 = true → s 51 = .int .i64 (atV p.2 v.2)
  e8 : L 8 = true → s 13 = .int .i64 (atV p.1 v.1)
  e9 : L 9 = true → s 14 = .int .i64 (atV p.2 v.2)
structure NrQ (W : World) (A B K : Nat) (p : (Int × Int) × (Int × Int)) (v : Int × Int) (L : Nat → Bool) (s : Nat → Value) (w : World) : Prop where
  bel : Below W.heap.size W w
  e0 : L 0 = true → s 52 = .agg #[.int .i64 p.1.1, .int .i64 p.1.2]
  e1 : L 1 = true → s 53 = .pointer (some ⟨K, 0, none⟩)
  e2 : L 2 = true → s 54 = .int .u64 v.1
  e3 : L 3 = true → s 55 = .int .i64 (atV p.1 v.1)
  e4 : L 4 = true → s 56 = .agg #[.int .i64 p.2.1, .int .i64 p.2.2]
  e5 : L 5 = true → s 57 = .pointer (some ⟨K, 1, none⟩)
  e6 : L 6 = true → s 58 = .int .u64 v.2
  e7 : L 7 = true → s 59 = .int .i64 (atV p.2 v.2)
  e8 : L 8 = true → s 15 = .int .i64 (atV p.1 v.1)
  e9 : L 9 = true → s 16 = .int .i64 (atV p.2 v.2)
structure NrC (W : World) (X Y U V : Int) (L : Nat → Bool) (s : Nat → Value) (w : World) : Prop where
  bel : Below W.heap.size W w
  e0 : L 0 = true → s 60 = .int .i64 X
  e1 : L 1 = true → s 61 = .int .i64 U
  e2 : L 2 = true → s 62 = .int .i64 (min X U)
  e3 : L 3 = true → s 63 = .int .i64 X
  e4 : L 4 = true → s 64 = .int .i64 U
  e5 : L 5 = true → s 65 = .int .i64 (max X U)
  e6 : L 6 = true → s 66 = .agg #[.int .i64 (min X U), .int .i64 (max X U)]
  e7 : L 7 = true → s 67 = .int .i64 Y
  e8 : L 8 = true → s 68 = .int .i64 V
  e9 : L 9 = true → s 69 = .int .i64 (min Y V)
  e10 : L 10 = true → s 70 = .int .i64 Y
  e11 : L 11 = true → s 71 = .int .i64 V
  e12 : L 12 = true → s 72 = .int .i64 (max Y V)
  e13 : L 13 = true → s 73 = .agg #[.int .i64 (min Y V), .int .i64 (max Y V)]
  e14 : L 14 = true → Bx w W.heap.size (s 17) (L 16 = true) (min X U, max X U)
  e15 : L 15 = true → Bx w W.heap.size (s 18) (L 17 = true) (min Y V, max Y V)
  ne : L 14 = true → L 15 = true → s 17 ≠ s 18
  d16 : L 16 = true → L 14 = true
  d17 : L 17 = true → L 15 = true

set_option maxRecDepth 100000 in
set_option maxHeartbeats 8000000 in
theorem law2_SpanNarrows (T : Tw) (hT : T.ok) (pp : Int × Int) (hpp : (0 ≤ pp.1 ∧ pp.1 < 18446744073709551616) ∧ (0 ≤ pp.2 ∧ pp.2 < 18446744073709551616)) (pq : Int × Int) (hpq : (0 ≤ pq.1 ∧ pq.1 < 18446744073709551616) ∧ (0 ≤ pq.2 ∧ pq.2 < 18446744073709551616)) (n : Int) (hn : -9223372036854775808 ≤ n ∧ n ≤ 9223372036854775807) (w : World) (hP : Pows w) :
    Calls Tryd.prog 7 #[T.val, .agg #[.int .u64 pp.1, .int .u64 pp.2], .agg #[.int .u64 pq.1, .int .u64 pq.2], .int .i64 n] w fun e w' => e = .returned (.bool true) ∧ Below w.heap.size w w' := by
  have HP := Lib.hid (hP.below (below_alloc (below_alloc (below_alloc (Below.refl _ _) T.obj) (.cells #[.int .u64 pp.1, .int .u64 pp.2] 50 (0, 0))) (.cells #[.int .u64 pq.1, .int .u64 pq.2] 50 (0, 0))))
  have HT := Lib.hid hT
  have Hpp := Lib.hid hpp
  have Hpq := Lib.hid hpq
  have Hn := Lib.hid hn
  clear hP hT hpp hpq hn
  have hS := (((Kn.start w).al T.obj).alN (.cells #[.int .u64 pp.1, .int .u64 pp.2] 50 (0, 0)) (n := w.heap.size + 1) (by simp)).alN (.cells #[.int .u64 pq.1, .int .u64 pq.2] 50 (0, 0)) (n := w.heap.size + 1 + 1) (by simp)
  unfold Tw.val
  go_enter Tryd.func7, Tryd.ntmps7
  go_wp2_with fail
  refine (hS.call (law2_works _ HP.out)).mono ?_; rintro e w1 ⟨rfl, hS⟩
  obtain ⟨k0, k1, k2, k3, k4, k5, k6, k7, k8, k9⟩ := tw_all (hS.blk (w.heap.size, T.obj) (by simp))
  go_wp2_with fail
  refine (hS.pairs T HT.out).mono ?_; rintro e w2 ⟨g, rfl, hS⟩
  generalize w.heap.size + 1 + 1 = QK at *
  generalize w.heap.size + 1 = PK at *
  have HS := Lib.hid (hS.sub (cs := [(g, prObj (prsOf T)), (QK, .cells #[.int .u64 pq.1, .int .u64 pq.2] 50 (0, 0)), (PK, .cells #[.int .u64 pp.1, .int .u64 pp.2] 50 (0, 0))]) (by simp))
  have HL := Lib.hid (show (prsOf T).length = 5 from rfl)
  have HOK := Lib.hid (prs_ok HT.out)
  clear hS k0 k1 k2 k3 k4 k5 k6 k7 k8 k9 HP
  generalize prsOf T = prs at *
  go_wp2_with fail
  go_loopw [36] (fun i wr => ∃ k : Nat, k ≤ 3 ∧ i = .int .i64 k ∧ Hid (Kn w wr [(g, prObj prs), (QK, .cells #[.int .u64 pq.1, .int .u64 pq.2] 50 (0, 0)), (PK, .cells #[.int .u64 pp.1, .int .u64 pp.2] 50 (0, 0))])) (fun i _ => 3 - (intOf i).toNat)
  case atStart => exact ⟨0, by omega, rfl, HS⟩
  case round =>
    clear HS
    obtain ⟨k, hk, rfl, HA⟩ := hrel
    rcases Nat.lt_or_ge k 3 with hk' | hk'
    · obtain ⟨p, hp⟩ : ∃ p, prs[k + 1]? = some p := ⟨_, List.getElem?_eq_getElem (by rw [HL.out]; omega)⟩
      obtain ⟨c0, c1, c2, c3⟩ := pr_cells4 (HA.out.blk (g, prObj prs) (by simp)) hp
      obtain ⟨ha, hb⟩ := HOK.out k p hk' hp
      have HAok := Lib.hid ha
      have HBok := Lib.hid hb
      have hS := HA.out
      clear hp ha hb
      have HK := Lib.hid (hS.al (.cells #[.int .i64 p.1.1, .int .i64 p.1.2, .int .i64 p.2.1, .int .i64 p.2.2] 29 (0, 0)))
      clear hS
      go_upto_region 6 with (fail)
      clear c0 c1 c2 c3
      have HPB := Lib.hid (HK.out.blk (wr.heap.size, .cells #[.int .i64 p.1.1, .int .i64 p.1.2, .int .i64 p.2.1, .int .i64 p.2.2] 29 (0, 0)) (List.Mem.head _))
      obtain ⟨W9, hW9⟩ : ∃ W9, W9 = wr.alloc (.cells #[.int .i64 p.1.1, .int .i64 p.1.2, .int .i64 p.2.1, .int .i64 p.2.2] 29 (0, 0)) := ⟨_, rfl⟩
      obtain ⟨P9, hP9⟩ : ∃ P9, P9 = wr.heap.size := ⟨_, rfl⟩
      rw [← hW9] at HK HPB ⊢
      rw [← hP9] at HK HPB ⊢
      clear hW9 hP9
      go_cut [11, 12] (fun a b wx => ∃ A B : Nat, a = .pointer (some ⟨A, 0, none⟩) ∧ b = .pointer (some ⟨B, 0, none⟩) ∧ Hid (Kn w wx [(B, .cells #[.int .i64 p.2.1, .int .i64 p.2.2] 23 (0, 0)), (A, .cells #[.int .i64 p.1.1, .int .i64 p.1.2] 23 (0, 0)), (P9, .cells #[.int .i64 p.1.1, .int .i64 p.1.2, .int .i64 p.2.1, .int .i64 p.2.2] 29 (0, 0)), (g, prObj prs), (QK, .cells #[.int .u64 pq.1, .int .u64 pq.2] 50 (0, 0)), (PK, .cells #[.int .u64 pp.1, .int .u64 pp.2] 50 (0, 0))]))
      case first =>
        refine wp_region_inv (NrA W9 P9 p) (by kernel_rfl) (by kernel_rfl) ?_ ?_ ?_
        · exact ⟨(Below.refl _ _).drew, fun h => absurd h Bool.false_ne_true, fun h => absurd h Bool.false_ne_true, fun h => absurd h Bool.false_ne_true, fun h => absurd h Bool.false_ne_true, fun h => absurd h Bool.false_ne_true, fun h => absurd h Bool.false_ne_true, fun h => absurd h Bool.false_ne_true, fun h => absurd h Bool.false_ne_true, fun h => absurd h Bool.false_ne_true⟩
        · refine AllS.cons ?_ (AllS.cons ?_ (AllS.cons ?_ (AllS.cons ?_ (AllS.cons ?_ (AllS.cons ?_ (AllS.cons ?_ (AllS.cons ?_ AllS.nil)))))))
          · intro L s w2 h hk hd hn
            have s10 : s 10 = _ := hk 10 (by kernel_rfl)
            refine stepS rfl fun K hK => ?_
            go_simp
            exact hK _ _ { h with e0 := fun _ => rfl }
          · intro L s w2 h hk hd hn
            have s40 := h.e0 hd.1
            obtain ⟨c0, c1, c2, c3⟩ := cell_four ((h.bel.block _ (lt_of_block HPB.out)).trans HPB.out)
            refine stepS rfl fun K hK => ?_
            go_simp
            exact hK _ _ { h with e1 := fun _ => rfl }
          · intro L s w2 h hk hd hn
            have s10 : s 10 = _ := hk 10 (by kernel_rfl)
            refine stepS rfl fun K hK => ?_
            go_simp
            exact hK _ _ { h with e2 := fun _ => rfl }
          · intro L s w2 h hk hd hn
            have s42 := h.e2 hd.1
            obtain ⟨c0, c1, c2, c3⟩ := cell_four ((h.bel.block _ (lt_of_block HPB.out)).trans HPB.out)
            refine stepS rfl fun K hK => ?_
            go_simp
            exact hK _ _ { h with e3 := fun _ => rfl }
          · intro L s w2 h hk hd hn
            refine stepS rfl fun K hK => ?_
            go_simp
            exact hK _ _ { h with bel := below_alloc h.bel _, e4 := fun _ => Bx.new h.bel.size (fun g => by rw [h.d6 g] at hn; cases hn), e5 := fun d => (h.e5 d).al _, ne := fun _ d => fun g => (h.e5 d).lt g.symm, d6 := fun _ => rfl }
          · intro L s w2 h hk hd hn
            refine stepS rfl fun K hK => ?_
            go_simp
            exact hK _ _ { h with bel := below_alloc h.bel _, e5 := fun _ => Bx.new h.bel.size (fun g => by rw [h.d7 g] at hn; cases hn), e4 := fun d => (h.e4 d).al _, ne := fun d _ => (h.e4 d).lt, d7 := fun _ => rfl }
          · intro L s w2 h hk hd hn
            obtain ⟨g, s11, hg, u, hu, -⟩ := h.e4 hd.1
            have s41 := h.e1 hd.2.1
            have c0 := cell_two0 hu
            have c1 := cell_two1 hu
            have f0 := free_two (i := 0) hu
            have f1 := free_two (i := 1) hu
            have l := lt_of_block hu
            refine stepS rfl fun K hK => ?_
            go_simp
            exact hK _ _ { h with bel := below_set2 h.bel hg _ _, e4 := fun _ => ⟨g, s11, hg, _, bx_set2 hu, fun _ => rfl⟩, e5 := fun d => (h.e5 d).set (by rw [← s11]; exact (h.ne hd.1 d).symm), d6 := fun _ => hd.1 }
          · intro L s w2 h hk hd hn
            obtain ⟨g, s12, hg, u, hu, -⟩ := h.e5 hd.1
            have s43 := h.e3 hd.2.1
            have c0 := cell_two0 hu
            have c1 := cell_two1 hu
            have f0 := free_two (i := 0) hu
            have f1 := free_two (i := 1) hu
            have l := lt_of_block hu
            refine stepS rfl fun K hK => ?_
            go_simp
            exact hK _ _ { h with bel := below_set2 h.bel hg _ _, e5 := fun _ => ⟨g, s12, hg, _, bx_set2 hu, fun _ => rfl⟩, e4 := fun d => (h.e4 d).set (by rw [← s12]; exact h.ne d hd.1), d7 := fun _ => hd.1 }
        · intro L s w2 h hk hl
          obtain ⟨ga, sa, ha1, ua, ha2, za⟩ := h.e4 (hl 4 (by decide))
          obtain rfl := za (hl 6 (by decide))
          obtain ⟨gb, sb, hb1, ub, hb2, zb⟩ := h.e5 (hl 5 (by decide))
          obtain rfl := zb (hl 7 (by decide))
          rename_i J K' hR hM
          refine hM _ _ (Met.intro (hR _ _ ?_))
          repeat apply Exists.intro
          refine ⟨⟨ga, gb, sa, sb, Lib.hid ⟨(HK.out.on h.bel).bel, fun q hq => by
          rcases List.mem_cons.1 hq with rfl | hq
          · exact hb2
          rcases List.mem_cons.1 hq with rfl | hq
          · exact ha2
          exact (HK.out.on h.bel).blk q hq⟩⟩, ?_⟩
          refine congrArg (fun l => (⟨List.toArray l, []⟩ : Act)) ?_
          show [s 0, s 1, s 2, s 3, s 4, s 5, s 6, s 7, s 8, s 9, s 10, s 11, s 12, s 13, s 14, s 15, s 16, s 17, s 18, s 19, s 20, s 21, s 22, s 23, s 24, s 25, s 26, s 27, s 28, s 29, s 30, s 31, s 32, s 33, s 34, s 35, s 36, s 37, s 38, s 39, s 40, s 41, s 42, s 43, s 44, s 45, s 46, s 47, s 48, s 49, s 50, s 51, s 52, s 53, s 54, s 55, s 56, s 57, s 58, s 59, s 60, s 61, s 62, s 63, s 64, s 65, s 66, s 67, s 68, s 69, s 70, s 71, s 72, s 73, s 74, s 75, s 76, s 77, s 78, s 79, s 80, s 81, s 82, s 83, s 84, s 85, s 86, s 87, s 88, s 89, s 90, s 91, s 92, s 93, s 94, s 95, s 96, s 97, s 98, s 99, s 100, s 101, s 102, s 103, s 104, s 105, s 106, s 107, s 108, s 109, s 110, s 111, s 112, s 113, s 114, s 115, s 116, s 117, s 118, s 119, s 120, s 121, s 122, s 123, s 124, s 125, s 126, s 127, s 128, s 129, s 130, s 131, s 132, s 133, s 134, s 135, s 136, s 137] = _
          exact lc (hk 0 (by kernel_rfl)) (lc (hk 1 (by kernel_rfl)) (lc (hk 2 (by kernel_rfl)) (lc (hk 3 (by kernel_rfl)) (lc (hk 4 (by kernel_rfl)) (lc (hk 5 (by kernel_rfl)) (lc (hk 6 (by kernel_rfl)) (lc (hk 7 (by kernel_rfl)) (lc (hk 8 (by kernel_rfl)) (lc (hk 9 (by kernel_rfl)) (lc (hk 10 (by kernel_rfl)) (lc rfl (lc rfl (lc (hk 13 (by kernel_rfl)) (lc (hk 14 (by kernel_rfl)) (lc (hk 15 (by kernel_rfl)) (lc (hk 16 (by kernel_rfl)) (lc (hk 17 (by kernel_rfl)) (lc (hk 18 (by kernel_rfl)) (lc (hk 19 (by kernel_rfl)) (lc (hk 20 (by kernel_rfl)) (lc (hk 21 (by kernel_rfl)) (lc (hk 22 (by kernel_rfl)) (lc (hk 23 (by kernel_rfl)) (lc (hk 24 (by kernel_rfl)) (lc (hk 25 (by kernel_rfl)) (lc (hk 26 (by kernel_rfl)) (lc (hk 27 (by kernel_rfl)) (lc (hk 28 (by kernel_rfl)) (lc (hk 29 (by kernel_rfl)) (lc (hk 30 (by kernel_rfl)) (lc (hk 31 (by kernel_rfl)) (lc (hk 32 (by kernel_rfl)) (lc (hk 33 (by kernel_rfl)) (lc (hk 34 (by kernel_rfl)) (lc (hk 35 (by kernel_rfl)) (lc (hk 36 (by kernel_rfl)) (lc (hk 37 (by kernel_rfl)) (lc (hk 38 (by kernel_rfl)) (lc (hk 39 (by kernel_rfl)) (lc rfl (lc rfl (lc rfl (lc rfl (lc (hk 44 (by kernel_rfl)) (lc (hk 45 (by kernel_rfl)) (lc (hk 46 (by kernel_rfl)) (lc (hk 47 (by kernel_rfl)) (lc (hk 48 (by kernel_rfl)) (lc (hk 49 (by kernel_rfl)) (lc (hk 50 (by kernel_rfl)) (lc (hk 51 (by kernel_rfl)) (lc (hk 52 (by kernel_rfl)) (lc (hk 53 (by kernel_rfl)) (lc (hk 54 (by kernel_rfl)) (lc (hk 55 (by kernel_rfl)) (lc (hk 56 (by kernel_rfl)) (lc (hk 57 (by kernel_rfl)) (lc (hk 58 (by kernel_rfl)) (lc (hk 59 (by kernel_rfl)) (lc (hk 60 (by kernel_rfl)) (lc (hk 61 (by kernel_rfl)) (lc (hk 62 (by kernel_rfl)) (lc (hk 63 (by kernel_rfl)) (lc (hk 64 (by kernel_rfl)) (lc (hk 65 (by kernel_rfl)) (lc (hk 66 (by kernel_rfl)) (lc (hk 67 (by kernel_rfl)) (lc (hk 68 (by kernel_rfl)) (lc (hk 69 (by kernel_rfl)) (lc (hk 70 (by kernel_rfl)) (lc (hk 71 (by kernel_rfl)) (lc (hk 72 (by kernel_rfl)) (lc (hk 73 (by kernel_rfl)) (lc (hk 74 (by kernel_rfl)) (lc (hk 75 (by kernel_rfl)) (lc (hk 76 (by kernel_rfl)) (lc (hk 77 (by kernel_rfl)) (lc (hk 78 (by kernel_rfl)) (lc (hk 79 (by kernel_rfl)) (lc (hk 80 (by kernel_rfl)) (lc (hk 81 (by kernel_rfl)) (lc (hk 82 (by kernel_rfl)) (lc (hk 83 (by kernel_rfl)) (lc (hk 84 (by kernel_rfl)) (lc (hk 85 (by kernel_rfl)) (lc (hk 86 (by kernel_rfl)) (lc (hk 87 (by kernel_rfl)) (lc (hk 88 (by kernel_rfl)) (lc (hk 89 (by kernel_rfl)) (lc (hk 90 (by kernel_rfl)) (lc (hk 91 (by kernel_rfl)) (lc (hk 92 (by kernel_rfl)) (lc (hk 93 (by kernel_rfl)) (lc (hk 94 (by kernel_rfl)) (lc (hk 95 (by kernel_rfl)) (lc (hk 96 (by kernel_rfl)) (lc (hk 97 (by kernel_rfl)) (lc (hk 98 (by kernel_rfl)) (lc (hk 99 (by kernel_rfl)) (lc (hk 100 (by kernel_rfl)) (lc (hk 101 (by kernel_rfl)) (lc (hk 102 (by kernel_rfl)) (lc (hk 103 (by kernel_rfl)) (lc (hk 104 (by kernel_rfl)) (lc (hk 105 (by kernel_rfl)) (lc (hk 106 (by kernel_rfl)) (lc (hk 107 (by kernel_rfl)) (lc (hk 108 (by kernel_rfl)) (lc (hk 109 (by kernel_rfl)) (lc (hk 110 (by kernel_rfl)) (lc (hk 111 (by kernel_rfl)) (lc (hk 112 (by kernel_rfl)) (lc (hk 113 (by kernel_rfl)) (lc (hk 114 (by kernel_rfl)) (lc (hk 115 (by kernel_rfl)) (lc (hk 116 (by kernel_rfl)) (lc (hk 117 (by kernel_rfl)) (lc (hk 118 (by kernel_rfl)) (lc (hk 119 (by kernel_rfl)) (lc (hk 120 (by kernel_rfl)) (lc (hk 121 (by kernel_rfl)) (lc (hk 122 (by kernel_rfl)) (lc (hk 123 (by kernel_rfl)) (lc (hk 124 (by kernel_rfl)) (lc (hk 125 (by kernel_rfl)) (lc (hk 126 (by kernel_rfl)) (lc (hk 127 (by kernel_rfl)) (lc (hk 128 (by kernel_rfl)) (lc (hk 129 (by kernel_rfl)) (lc (hk 130 (by kernel_rfl)) (lc (hk 131 (by kernel_rfl)) (lc (hk 132 (by kernel_rfl)) (lc (hk 133 (by kernel_rfl)) (lc (hk 134 (by kernel_rfl)) (lc (hk 135 (by kernel_rfl)) (lc (hk 136 (by kernel_rfl)) (lc (hk 137 (by kernel_rfl)) rfl)))))))))))))))))))))))))))))))))))))))))))))))))))))))))))))))))))))))))))))))))))))))))))))))))))))))))))))))))))))))))))))))))))))))))

      case rest =>
        clear HK HPB
        obtain ⟨A, B, rfl, rfl, HC⟩ := hcut
        go_upto_region 7 with (fail)
        have HBb := Lib.hid (HC.out.blk (B, .cells #[.int .i64 p.2.1, .int .i64 p.2.2] 23 (0, 0)) (List.Mem.head _))
        have HBa := Lib.hid (HC.out.blk (A, .cells #[.int .i64 p.1.1, .int .i64 p.1.2] 23 (0, 0)) (List.Mem.tail _ (List.Mem.head _)))
        have HBk := Lib.hid (HC.out.blk (PK, .cells #[.int .u64 pp.1, .int .u64 pp.2] 50 (0, 0)) (List.Mem.tail _ (List.Mem.tail _ (List.Mem.tail _ (List.Mem.tail _ (List.Mem.tail _ (List.Mem.head _)))))))
        have Hpv := Hpp
        go_cut [13, 14] (fun a b wx => a = .int .i64 (atV p.1 pp.1) ∧ b = .int .i64 (atV p.2 pp.2) ∧ Hid (Kn w wx [(B, .cells #[.int .i64 p.2.1, .int .i64 p.2.2] 23 (0, 0)), (A, .cells #[.int .i64 p.1.1, .int .i64 p.1.2] 23 (0, 0)), (P9, .cells #[.int .i64 p.1.1, .int .i64 p.1.2, .int .i64 p.2.1, .int .i64 p.2.2] 29 (0, 0)), (g, prObj prs), (QK, .cells #[.int .u64 pq.1, .int .u64 pq.2] 50 (0, 0)), (PK, .cells #[.int .u64 pp.1, .int .u64 pp.2] 50 (0, 0))]))
        case first =>
          refine wp_region_inv (NrP wc A B PK p pp) (by kernel_rfl) (by kernel_rfl) ?_ ?_ ?_
          · exact ⟨(Below.refl _ _).drew, fun h => absurd h Bool.false_ne_true, fun h => absurd h Bool.false_ne_true, fun h => absurd h Bool.false_ne_true, fun h => absurd h Bool.false_ne_true, fun h => absurd h Bool.false_ne_true, fun h => absurd h Bool.false_ne_true, fun h => absurd h Bool.false_ne_true, fun h => absurd h Bool.false_ne_true, fun h => absurd h Bool.false_ne_true, fun h => absurd h Bool.false_ne_true⟩
          · refine AllS.cons ?_ (AllS.cons ?_ (AllS.cons ?_ (AllS.cons ?_ (AllS.cons ?_ (AllS.cons ?_ (AllS.cons ?_ (AllS.cons ?_ (AllS.cons ?_ (AllS.cons ?_ AllS.nil)))))))))
            · intro L s w2 h hk hd hn
              have s11 : s 11 = _ := hk 11 (by kernel_rfl)
              have b := (h.bel.block _ (lt_of_block HBa.out)).trans HBa.out
              have c0 := cell_two0 b
              have c1 := cell_two1 b
              refine stepS rfl fun K hK => ?_
              go_simp
              exact hK _ _ { h with e0 := fun _ => rfl }
            · intro L s w2 h hk hd hn
              have s5 : s 5 = _ := hk 5 (by kernel_rfl)
              refine stepS rfl fun K hK => ?_
              go_simp
              exact hK _ _ { h with e1 := fun _ => rfl }
            · intro L s w2 h hk hd hn
              have s45 := h.e1 hd.1
              have b := (h.bel.block _ (lt_of_block HBk.out)).trans HBk.out
              have c0 := cell_two0 b
              have c1 := cell_two1 b
              refine stepS rfl fun K hK => ?_
              go_simp
              exact hK _ _ { h with e2 := fun _ => rfl }
            · intro L s w2 h hk hd hn
              have s44 := h.e0 hd.1
              have s46 := h.e2 hd.2.1
              refine stepS rfl fun K hK => ?_
              go_simp
              refine (law2_at HAok.out pp.1 Hpv.out.1 _).mono ?_
              rintro e w3 ⟨rfl, hb⟩
              exact ⟨_, rfl, hK _ _ { h with bel := below_step h.bel hb, e3 := fun _ => rfl }⟩
            · intro L s w2 h hk hd hn
              have s12 : s 12 = _ := hk 12 (by kernel_rfl)
              have b := (h.bel.block _ (lt_of_block HBb.out)).trans HBb.out
              have c0 := cell_two0 b
              have c1 := cell_two1 b
              refine stepS rfl fun K hK => ?_
              go_simp
              exact hK _ _ { h with e4 := fun _ => rfl }
            · intro L s w2 h hk hd hn
              have s5 : s 5 = _ := hk 5 (by kernel_rfl)
              refine stepS rfl fun K hK => ?_
              go_simp
              exact hK _ _ { h with e5 := fun _ => rfl }
            · intro L s w2 h hk hd hn
              have s49 := h.e5 hd.1
              have b := (h.bel.block _ (lt_of_block HBk.out)).trans HBk.out
              have c0 := cell_two0 b
              have c1 := cell_two1 b
              refine stepS rfl fun K hK => ?_
              go_simp
              exact hK _ _ { h with e6 := fun _ => rfl }
            · intro L s w2 h hk hd hn
              have s48 := h.e4 hd.1
              have s50 := h.e6 hd.2.1
              refine stepS rfl fun K hK => ?_
              go_simp
              refine (law2_at HBok.out pp.2 Hpv.out.2 _).mono ?_
              rintro e w3 ⟨rfl, hb⟩
              exact ⟨_, rfl, hK _ _ { h with bel := below_step h.bel hb, e7 := fun _ => rfl }⟩
            · intro L s w2 h hk hd hn
              have s47 := h.e3 hd.1
              refine stepS rfl fun K hK => ?_
              go_simp
              exact hK _ _ { h with e8 := fun _ => rfl }
            · intro L s w2 h hk hd hn
              have s51 := h.e7 hd.1
              refine stepS rfl fun K hK => ?_
              go_simp
              exact hK _ _ { h with e9 := fun _ => rfl }
          · intro L s w2 h hk hl
            rename_i J K' hR hM
            refine hM _ _ (Met.intro (hR _ _ ?_))
            repeat apply Exists.intro
            refine ⟨⟨h.e8 (hl 8 (by decide)), h.e9 (hl 9 (by decide)), Lib.hid (HC.out.on h.bel)⟩, ?_⟩
            refine congrArg (fun l => (⟨List.toArray l, []⟩ : Act)) ?_
            show [s 0, s 1, s 2, s 3, s 4, s 5, s 6, s 7, s 8, s 9, s 10, s 11, s 12, s 13, s 14, s 15, s 16, s 17, s 18, s 19, s 20, s 21, s 22, s 23, s 24, s 25, s 26, s 27, s 28, s 29, s 30, s 31, s 32, s 33, s 34, s 35, s 36, s 37, s 38, s 39, s 40, s 41, s 42, s 43, s 44, s 45, s 46, s 47, s 48, s 49, s 50, s 51, s 52, s 53, s 54, s 55, s 56, s 57, s 58, s 59, s 60, s 61, s 62, s 63, s 64, s 65, s 66, s 67, s 68, s 69, s 70, s 71, s 72, s 73, s 74, s 75, s 76, s 77, s 78, s 79, s 80, s 81, s 82, s 83, s 84, s 85, s 86, s 87, s 88, s 89, s 90, s 91, s 92, s 93, s 94, s 95, s 96, s 97, s 98, s 99, s 100, s 101, s 102, s 103, s 104, s 105, s 106, s 107, s 108, s 109, s 110, s 111, s 112, s 113, s 114, s 115, s 116, s 117, s 118, s 119, s 120, s 121, s 122, s 123, s 124, s 125, s 126, s 127, s 128, s 129, s 130, s 131, s 132, s 133, s 134, s 135, s 136, s 137] = _
            exact lc (hk 0 (by kernel_rfl)) (lc (hk 1 (by kernel_rfl)) (lc (hk 2 (by kernel_rfl)) (lc (hk 3 (by kernel_rfl)) (lc (hk 4 (by kernel_rfl)) (lc (hk 5 (by kernel_rfl)) (lc (hk 6 (by kernel_rfl)) (lc (hk 7 (by kernel_rfl)) (lc (hk 8 (by kernel_rfl)) (lc (hk 9 (by kernel_rfl)) (lc (hk 10 (by kernel_rfl)) (lc (hk 11 (by kernel_rfl)) (lc (hk 12 (by kernel_rfl)) (lc rfl (lc rfl (lc (hk 15 (by kernel_rfl)) (lc (hk 16 (by kernel_rfl)) (lc (hk 17 (by kernel_rfl)) (lc (hk 18 (by kernel_rfl)) (lc (hk 19 (by kernel_rfl)) (lc (hk 20 (by kernel_rfl)) (lc (hk 21 (by kernel_rfl)) (lc (hk 22 (by kernel_rfl)) (lc (hk 23 (by kernel_rfl)) (lc (hk 24 (by kernel_rfl)) (lc (hk 25 (by kernel_rfl)) (lc (hk 26 (by kernel_rfl)) (lc (hk 27 (by kernel_rfl)) (lc (hk 28 (by kernel_rfl)) (lc (hk 29 (by kernel_rfl)) (lc (hk 30 (by kernel_rfl)) (lc (hk 31 (by kernel_rfl)) (lc (hk 32 (by kernel_rfl)) (lc (hk 33 (by kernel_rfl)) (lc (hk 34 (by kernel_rfl)) (lc (hk 35 (by kernel_rfl)) (lc (hk 36 (by kernel_rfl)) (lc (hk 37 (by kernel_rfl)) (lc (hk 38 (by kernel_rfl)) (lc (hk 39 (by kernel_rfl)) (lc (hk 40 (by kernel_rfl)) (lc (hk 41 (by kernel_rfl)) (lc (hk 42 (by kernel_rfl)) (lc (hk 43 (by kernel_rfl)) (lc rfl (lc rfl (lc rfl (lc rfl (lc rfl (lc rfl (lc rfl (lc rfl (lc (hk 52 (by kernel_rfl)) (lc (hk 53 (by kernel_rfl)) (lc (hk 54 (by kernel_rfl)) (lc (hk 55 (by kernel_rfl)) (lc (hk 56 (by kernel_rfl)) (lc (hk 57 (by kernel_rfl)) (lc (hk 58 (by kernel_rfl)) (lc (hk 59 (by kernel_rfl)) (lc (hk 60 (by kernel_rfl)) (lc (hk 61 (by kernel_rfl)) (lc (hk 62 (by kernel_rfl)) (lc (hk 63 (by kernel_rfl)) (lc (hk 64 (by kernel_rfl)) (lc (hk 65 (by kernel_rfl)) (lc (hk 66 (by kernel_rfl)) (lc (hk 67 (by kernel_rfl)) (lc (hk 68 (by kernel_rfl)) (lc (hk 69 (by kernel_rfl)) (lc (hk 70 (by kernel_rfl)) (lc (hk 71 (by kernel_rfl)) (lc (hk 72 (by kernel_rfl)) (lc (hk 73 (by kernel_rfl)) (lc (hk 74 (by kernel_rfl)) (lc (hk 75 (by kernel_rfl)) (lc (hk 76 (by kernel_rfl)) (lc (hk 77 (by kernel_rfl)) (lc (hk 78 (by kernel_rfl)) (lc (hk 79 (by kernel_rfl)) (lc (hk 80 (by kernel_rfl)) (lc (hk 81 (by kernel_rfl)) (lc (hk 82 (by kernel_rfl)) (lc (hk 83 (by kernel_rfl)) (lc (hk 84 (by kernel_rfl)) (lc (hk 85 (by kernel_rfl)) (lc (hk 86 (by kernel_rfl)) (lc (hk 87 (by kernel_rfl)) (lc (hk 88 (by kernel_rfl)) (lc (hk 89 (by kernel_rfl)) (lc (hk 90 (by kernel_rfl)) (lc (hk 91 (by kernel_rfl)) (lc (hk 92 (by kernel_rfl)) (lc (hk 93 (by kernel_rfl)) (lc (hk 94 (by kernel_rfl)) (lc (hk 95 (by kernel_rfl)) (lc (hk 96 (by kernel_rfl)) (lc (hk 97 (by kernel_rfl)) (lc (hk 98 (by kernel_rfl)) (lc (hk 99 (by kernel_rfl)) (lc (hk 100 (by kernel_rfl)) (lc (hk 101 (by kernel_rfl)) (lc (hk 102 (by kernel_rfl)) (lc (hk 103 (by kernel_rfl)) (lc (hk 104 (by kernel_rfl)) (lc (hk 105 (by kernel_rfl)) (lc (hk 106 (by kernel_rfl)) (lc (hk 107 (by kernel_rfl)) (lc (hk 108 (by kernel_rfl)) (lc (hk 109 (by kernel_rfl)) (lc (hk 110 (by kernel_rfl)) (lc (hk 111 (by kernel_rfl)) (lc (hk 112 (by kernel_rfl)) (lc (hk 113 (by kernel_rfl)) (lc (hk 114 (by kernel_rfl)) (lc (hk 115 (by kernel_rfl)) (lc (hk 116 (by kernel_rfl)) (lc (hk 117 (by kernel_rfl)) (lc (hk 118 (by kernel_rfl)) (lc (hk 119 (by kernel_rfl)) (lc (hk 120 (by kernel_rfl)) (lc (hk 121 (by kernel_rfl)) (lc (hk 122 (by kernel_rfl)) (lc (hk 123 (by kernel_rfl)) (lc (hk 124 (by kernel_rfl)) (lc (hk 125 (by kernel_rfl)) (lc (hk 126 (by kernel_rfl)) (lc (hk 127 (by kernel_rfl)) (lc (hk 128 (by kernel_rfl)) (lc (hk 129 (by kernel_rfl)) (lc (hk 130 (by kernel_rfl)) (lc (hk 131 (by kernel_rfl)) (lc (hk 132 (by kernel_rfl)) (lc (hk 133 (by kernel_rfl)) (lc (hk 134 (by kernel_rfl)) (lc (hk 135 (by kernel_rfl)) (lc (hk 136 (by kernel_rfl)) (lc (hk 137 (by kernel_rfl)) rfl)))))))))))))))))))))))))))))))))))))))))))))))))))))))))))))))))))))))))))))))))))))))))))))))))))))))))))))))))))))))))))))))))))))))))
        case rest =>
          clear HC HBa HBb HBk Hpv
          obtain ⟨rfl, rfl, HC⟩ := hcut
          obtain ⟨X, hX⟩ : ∃ X, X = atV p.1 pp.1 := ⟨_, rfl⟩
          obtain ⟨Y, hY⟩ : ∃ Y, Y = atV p.2 pp.2 := ⟨_, rfl⟩
          have HX := Lib.hid (atV_in HAok.out pp.1)
          have HY := Lib.hid (atV_in HBok.out pp.2)
          rw [← hX] at HX ⊢
          rw [← hY] at HY ⊢
          clear hX hY
          go_upto_region 8 with (fail)
          have HBb := Lib.hid (HC.out.blk (B, .cells #[.int .i64 p.2.1, .int .i64 p.2.2] 23 (0, 0)) (List.Mem.head _))
          have HBa := Lib.hid (HC.out.blk (A, .cells #[.int .i64 p.1.1, .int .i64 p.1.2] 23 (0, 0)) (List.Mem.tail _ (List.Mem.head _)))
          have HBk := Lib.hid (HC.out.blk (QK, .cells #[.int .u64 pq.1, .int .u64 pq.2] 50 (0, 0)) (List.Mem.tail _ (List.Mem.tail _ (List.Mem.tail _ (List.Mem.tail _ (List.Mem.head _))))))
          have Hpv := Hpq
          go_cut [15, 16] (fun a b wx => a = .int .i64 (atV p.1 pq.1) ∧ b = .int .i64 (atV p.2 pq.2) ∧ Hid (Kn w wx [(B, .cells #[.int .i64 p.2.1, .int .i64 p.2.2] 23 (0, 0)), (A, .cells #[.int .i64 p.1.1, .int .i64 p.1.2] 23 (0, 0)), (P9, .cells #[.int .i64 p.1.1, .int .i64 p.1.2, .int .i64 p.2.1, .int .i64 p.2.2] 29 (0, 0)), (g, prObj prs), (QK, .cells #[.int .u64 pq.1, .int .u64 pq.2] 50 (0, 0)), (PK, .cells #[.int .u64 pp.1, .int .u64 pp.2] 50 (0, 0))]))
          case first =>
            refine wp_region_inv (NrQ wc A B QK p pq) (by kernel_rfl) (by kernel_rfl) ?_ ?_ ?_
            · exact ⟨(Below.refl _ _).drew, fun h => absurd h Bool.false_ne_true, fun h => absurd h Bool.false_ne_true, fun h => absurd h Bool.false_ne_true, fun h => absurd h Bool.false_ne_true, fun h => absurd h Bool.false_ne_true, fun h => absurd h Bool.false_ne_true, fun h => absurd h Bool.false_ne_true, fun h => absurd h Bool.false_ne_true, fun h => absurd h Bool.false_ne_true, fun h => absurd h Bool.false_ne_true⟩
            · refine AllS.cons ?_ (AllS.cons ?_ (AllS.cons ?_ (AllS.cons ?_ (AllS.cons ?_ (AllS.cons ?_ (AllS.cons ?_ (AllS.cons ?_ (AllS.cons ?_ (AllS.cons ?_ AllS.nil)))))))))
              · intro L s w2 h hk hd hn
                have s11 : s 11 = _ := hk 11 (by kernel_rfl)
                have b := (h.bel.block _ (lt_of_block HBa.out)).trans HBa.out
                have c0 := cell_two0 b
                have c1 := cell_two1 b
                refine stepS rfl fun K hK => ?_
                go_simp
                exact hK _ _ { h with e0 := fun _ => rfl }
              · intro L s w2 h hk hd hn
                have s6 : s 6 = _ := hk 6 (by kernel_rfl)
                refine stepS rfl fun K hK => ?_
                go_simp
                exact hK _ _ { h with e1 := fun _ => rfl }
              · intro L s w2 h hk hd hn
                have s53 := h.e1 hd.1
                have b := (h.bel.block _ (lt_of_block HBk.out)).trans HBk.out
                have c0 := cell_two0 b
                have c1 := cell_two1 b
                refine stepS rfl fun K hK => ?_
                go_simp
                exact hK _ _ { h with e2 := fun _ => rfl }
              · intro L s w2 h hk hd hn
                have s52 := h.e0 hd.1
                have s54 := h.e2 hd.2.1
                refine stepS rfl fun K hK => ?_
                go_simp
                refine (law2_at HAok.out pq.1 Hpv.out.1 _).mono ?_
                rintro e w3 ⟨rfl, hb⟩
                exact ⟨_, rfl, hK _ _ { h with bel := below_step h.bel hb, e3 := fun _ => rfl }⟩
              · intro L s w2 h hk hd hn
                have s12 : s 12 = _ := hk 12 (by kernel_rfl)
                have b := (h.bel.block _ (lt_of_block HBb.out)).trans HBb.out
                have c0 := cell_two0 b
                have c1 := cell_two1 b
                refine stepS rfl fun K hK => ?_
                go_simp
                exact hK _ _ { h with e4 := fun _ => rfl }
              · intro L s w2 h hk hd hn
                have s6 : s 6 = _ := hk 6 (by kernel_rfl)
                refine stepS rfl fun K hK => ?_
                go_simp
                exact hK _ _ { h with e5 := fun _ => rfl }
              · intro L s w2 h hk hd hn
                have s57 := h.e5 hd.1
                have b := (h.bel.block _ (lt_of_block HBk.out)).trans HBk.out
                have c0 := cell_two0 b
                have c1 := cell_two1 b
                refine stepS rfl fun K hK => ?_
                go_simp
                exact hK _ _ { h with e6 := fun _ => rfl }
              · intro L s w2 h hk hd hn
                have s56 := h.e4 hd.1
                have s58 := h.e6 hd.2.1
                refine stepS rfl fun K hK => ?_
                go_simp
                refine (law2_at HBok.out pq.2 Hpv.out.2 _).mono ?_
                rintro e w3 ⟨rfl, hb⟩
                exact ⟨_, rfl, hK _ _ { h with bel := below_step h.bel hb, e7 := fun _ => rfl }⟩
              · intro L s w2 h hk hd hn
                have s55 := h.e3 hd.1
                refine stepS rfl fun K hK => ?_
                go_simp
                exact hK _ _ { h with e8 := fun _ => rfl }
              · intro L s w2 h hk hd hn
                have s59 := h.e7 hd.1
                refine stepS rfl fun K hK => ?_
                go_simp
                exact hK _ _ { h with e9 := fun _ => rfl }
            · intro L s w2 h hk hl
              rename_i J K' hR hM
              refine hM _ _ (Met.intro (hR _ _ ?_))
              repeat apply Exists.intro
              refine ⟨⟨h.e8 (hl 8 (by decide)), h.e9 (hl 9 (by decide)), Lib.hid (HC.out.on h.bel)⟩, ?_⟩
              refine congrArg (fun l => (⟨List.toArray l, []⟩ : Act)) ?_
              show [s 0, s 1, s 2, s 3, s 4, s 5, s 6, s 7, s 8, s 9, s 10, s 11, s 12, s 13, s 14, s 15, s 16, s 17, s 18, s 19, s 20, s 21, s 22, s 23, s 24, s 25, s 26, s 27, s 28, s 29, s 30, s 31, s 32, s 33, s 34, s 35, s 36, s 37, s 38, s 39, s 40, s 41, s 42, s 43, s 44, s 45, s 46, s 47, s 48, s 49, s 50, s 51, s 52, s 53, s 54, s 55, s 56, s 57, s 58, s 59, s 60, s 61, s 62, s 63, s 64, s 65, s 66, s 67, s 68, s 69, s 70, s 71, s 72, s 73, s 74, s 75, s 76, s 77, s 78, s 79, s 80, s 81, s 82, s 83, s 84, s 85, s 86, s 87, s 88, s 89, s 90, s 91, s 92, s 93, s 94, s 95, s 96, s 97, s 98, s 99, s 100, s 101, s 102, s 103, s 104, s 105, s 106, s 107, s 108, s 109, s 110, s 111, s 112, s 113, s 114, s 115, s 116, s 117, s 118, s 119, s 120, s 121, s 122, s 123, s 124, s 125, s 126, s 127, s 128, s 129, s 130, s 131, s 132, s 133, s 134, s 135, s 136, s 137] = _
              exact lc (hk 0 (by kernel_rfl)) (lc (hk 1 (by kernel_rfl)) (lc (hk 2 (by kernel_rfl)) (lc (hk 3 (by kernel_rfl)) (lc (hk 4 (by kernel_rfl)) (lc (hk 5 (by kernel_rfl)) (lc (hk 6 (by kernel_rfl)) (lc (hk 7 (by kernel_rfl)) (lc (hk 8 (by kernel_rfl)) (lc (hk 9 (by kernel_rfl)) (lc (hk 10 (by kernel_rfl)) (lc (hk 11 (by kernel_rfl)) (lc (hk 12 (by kernel_rfl)) (lc (hk 13 (by kernel_rfl)) (lc (hk 14 (by kernel_rfl)) (lc rfl (lc rfl (lc (hk 17 (by kernel_rfl)) (lc (hk 18 (by kernel_rfl)) (lc (hk 19 (by kernel_rfl)) (lc (hk 20 (by kernel_rfl)) (lc (hk 21 (by kernel_rfl)) (lc (hk 22 (by kernel_rfl)) (lc (hk 23 (by kernel_rfl)) (lc (hk 24 (by kernel_rfl)) (lc (hk 25 (by kernel_rfl)) (lc (hk 26 (by kernel_rfl)) (lc (hk 27 (by kernel_rfl)) (lc (hk 28 (by kernel_rfl)) (lc (hk 29 (by kernel_rfl)) (lc (hk 30 (by kernel_rfl)) (lc (hk 31 (by kernel_rfl)) (lc (hk 32 (by kernel_rfl)) (lc (hk 33 (by kernel_rfl)) (lc (hk 34 (by kernel_rfl)) (lc (hk 35 (by kernel_rfl)) (lc (hk 36 (by kernel_rfl)) (lc (hk 37 (by kernel_rfl)) (lc (hk 38 (by kernel_rfl)) (lc (hk 39 (by kernel_rfl)) (lc (hk 40 (by kernel_rfl)) (lc (hk 41 (by kernel_rfl)) (lc (hk 42 (by kernel_rfl)) (lc (hk 43 (by kernel_rfl)) (lc (hk 44 (by kernel_rfl)) (lc (hk 45 (by kernel_rfl)) (lc (hk 46 (by kernel_rfl)) (lc (hk 47 (by kernel_rfl)) (lc (hk 48 (by kernel_rfl)) (lc (hk 49 (by kernel_rfl)) (lc (hk 50 (by kernel_rfl)) (lc (hk 51 (by kernel_rfl)) (lc rfl (lc rfl (lc rfl (lc rfl (lc rfl (lc rfl (lc rfl (lc rfl (lc (hk 60 (by kernel_rfl)) (lc (hk 61 (by kernel_rfl)) (lc (hk 62 (by kernel_rfl)) (lc (hk 63 (by kernel_rfl)) (lc (hk 64 (by kernel_rfl)) (lc (hk 65 (by kernel_rfl)) (lc (hk 66 (by kernel_rfl)) (lc (hk 67 (by kernel_rfl)) (lc (hk 68 (by kernel_rfl)) (lc (hk 69 (by kernel_rfl)) (lc (hk 70 (by kernel_rfl)) (lc (hk 71 (by kernel_rfl)) (lc (hk 72 (by kernel_rfl)) (lc (hk 73 (by kernel_rfl)) (lc (hk 74 (by kernel_rfl)) (lc (hk 75 (by kernel_rfl)) (lc (hk 76 (by kernel_rfl)) (lc (hk 77 (by kernel_rfl)) (lc (hk 78 (by kernel_rfl)) (lc (hk 79 (by kernel_rfl)) (lc (hk 80 (by kernel_rfl)) (lc (hk 81 (by kernel_rfl)) (lc (hk 82 (by kernel_rfl)) (lc (hk 83 (by kernel_rfl)) (lc (hk 84 (by kernel_rfl)) (lc (hk 85 (by kernel_rfl)) (lc (hk 86 (by kernel_rfl)) (lc (hk 87 (by kernel_rfl)) (lc (hk 88 (by kernel_rfl)) (lc (hk 89 (by kernel_rfl)) (lc (hk 90 (by kernel_rfl)) (lc (hk 91 (by kernel_rfl)) (lc (hk 92 (by kernel_rfl)) (lc (hk 93 (by kernel_rfl)) (lc (hk 94 (by kernel_rfl)) (lc (hk 95 (by kernel_rfl)) (lc (hk 96 (by kernel_rfl)) (lc (hk 97 (by kernel_rfl)) (lc (hk 98 (by kernel_rfl)) (lc (hk 99 (by kernel_rfl)) (lc (hk 100 (by kernel_rfl)) (lc (hk 101 (by kernel_rfl)) (lc (hk 102 (by kernel_rfl)) (lc (hk 103 (by kernel_rfl)) (lc (hk 104 (by kernel_rfl)) (lc (hk 105 (by kernel_rfl)) (lc (hk 106 (by kernel_rfl)) (lc (hk 107 (by kernel_rfl)) (lc (hk 108 (by kernel_rfl)) (lc (hk 109 (by kernel_rfl)) (lc (hk 110 (by kernel_rfl)) (lc (hk 111 (by kernel_rfl)) (lc (hk 112 (by kernel_rfl)) (lc (hk 113 (by kernel_rfl)) (lc (hk 114 (by kernel_rfl)) (lc (hk 115 (by kernel_rfl)) (lc (hk 116 (by kernel_rfl)) (lc (hk 117 (by kernel_rfl)) (lc (hk 118 (by kernel_rfl)) (lc (hk 119 (by kernel_rfl)) (lc (hk 120 (by kernel_rfl)) (lc (hk 121 (by kernel_rfl)) (lc (hk 122 (by kernel_rfl)) (lc (hk 123 (by kernel_rfl)) (lc (hk 124 (by kernel_rfl)) (lc (hk 125 (by kernel_rfl)) (lc (hk 126 (by kernel_rfl)) (lc (hk 127 (by kernel_rfl)) (lc (hk 128 (by kernel_rfl)) (lc (hk 129 (by kernel_rfl)) (lc (hk 130 (by kernel_rfl)) (lc (hk 131 (by kernel_rfl)) (lc (hk 132 (by kernel_rfl)) (lc (hk 133 (by kernel_rfl)) (lc (hk 134 (by kernel_rfl)) (lc (hk 135 (by kernel_rfl)) (lc (hk 136 (by kernel_rfl)) (lc (hk 137 (by kernel_rfl)) rfl)))))))))))))))))))))))))))))))))))))))))))))))))))))))))))))))))))))))))))))))))))))))))))))))))))))))))))))))))))))))))))))))))))))))))
          case rest =>
            clear HC HBa HBb HBk Hpv
            obtain ⟨rfl, rfl, HC⟩ := hcut
            obtain ⟨U, hU⟩ : ∃ U, U = atV p.1 pq.1 := ⟨_, rfl⟩
            obtain ⟨V, hV⟩ : ∃ V, V = atV p.2 pq.2 := ⟨_, rfl⟩
            have HU := Lib.hid (atV_in HAok.out pq.1)
            have HV := Lib.hid (atV_in HBok.out pq.2)
            rw [← hU] at HU ⊢
            rw [← hV] at HV ⊢
            clear hU hV
            have hC := show okS (min X U, max X U) ∧ sIn (min X U, max X U) p.1 by have := HX.out; have := HU.out; have := HAok.out; unfold okS sIn at *; simp only; omega
            have hD := show okS (min Y V, max Y V) ∧ sIn (min Y V, max Y V) p.2 by have := HY.out; have := HV.out; have := HBok.out; unfold okS sIn at *; simp only; omega
            have HCok := Lib.hid hC
            have HDok := Lib.hid hD
            clear hC hD HX HY HU HV
            have HS6 := Lib.hid ((HC.out.al (.cells #[.int .i64 (min X U), .int .i64 (max X U)] 23 (0, 0))).alN (.cells #[.int .i64 (min Y V), .int .i64 (max Y V)] 23 (0, 0)) (n := wc.heap.size + 1) (by simp))
            go_wp2_with fail
            generalize min X U = c1 at *
            generalize max X U = c2 at *
            generalize min Y V = d1 at *
            generalize max Y V = d2 at *
            generalize wc.heap.size + 1 = D at *
            generalize wc.heap.size = C at *
            clear HC
            go_loopw [75] (fun i wx => ∃ j : Nat, j ≤ 7 ∧ i = .int .i64 j ∧ Hid (Kn w wx [(D, .cells #[.int .i64 d1, .int .i64 d2] 23 (0, 0)), (C, .cells #[.int .i64 c1, .int .i64 c2] 23 (0, 0)), (B, .cells #[.int .i64 p.2.1, .int .i64 p.2.2] 23 (0, 0)), (A, .cells #[.int .i64 p.1.1, .int .i64 p.1.2] 23 (0, 0)), (P9, .cells #[.int .i64 p.1.1, .int .i64 p.1.2, .int .i64 p.2.1, .int .i64 p.2.2] 29 (0, 0)), (g, prObj prs), (QK, .cells #[.int .u64 pq.1, .int .u64 pq.2] 50 (0, 0)), (PK, .cells #[.int .u64 pp.1, .int .u64 pp.2] 50 (0, 0))])) (fun i _ => 7 - (intOf i).toNat)
            case atStart => exact ⟨0, by omega, rfl, HS6⟩
            case round =>
              clear HS6
              obtain ⟨j, hj, rfl, HB⟩ := hrel
              have hS := HB.out
              rename_i wx
              rcases Nat.lt_or_ge j 7 with hj' | hj'
              · rcases (by omega : j = 0 ∨ j = 1 ∨ j = 2 ∨ j = 3 ∨ j = 4 ∨ j = 5 ∨ j = 6) with rfl | rfl | rfl | rfl | rfl | rfl | rfl
                · have hi : ∀ W, (Instr.index 52 (.agg #[.func (.func 24) #[] #[], .func (.func 26) #[] #[], .func (.func 30) #[] #[], .func (.func 47) #[] #[], .func (.func 38) #[] #[], .func (.func 40) #[] #[], .func (.func 42) #[] #[]]) (.int .i64 0)).run Tryd.prog W = .ok (.func (.func 24) #[] #[]) W := fun W => by kernel_rfl
                  have lc := lt_of_block (hS.blk (C, .cells #[.int .i64 c1, .int .i64 c2] 23 (0, 0)) (List.Mem.tail _ (List.Mem.head _)))
                  have cc0 := cell_two0 (hS.blk (C, .cells #[.int .i64 c1, .int .i64 c2] 23 (0, 0)) (List.Mem.tail _ (List.Mem.head _)))
                  have cc1 := cell_two1 (hS.blk (C, .cells #[.int .i64 c1, .int .i64 c2] 23 (0, 0)) (List.Mem.tail _ (List.Mem.head _)))
                  have ld := lt_of_block (hS.blk (D, .cells #[.int .i64 d1, .int .i64 d2] 23 (0, 0)) (List.Mem.head _))
                  have cd0 := cell_two0 (hS.blk (D, .cells #[.int .i64 d1, .int .i64 d2] 23 (0, 0)) (List.Mem.head _))
                  have cd1 := cell_two1 (hS.blk (D, .cells #[.int .i64 d1, .int .i64 d2] 23 (0, 0)) (List.Mem.head _))
                  go_wp2_with fail
                  clear lc cc0 cc1 ld cd0 cd1
                  refine (hS.call (span_Add (c1, c2) (d1, d2) _)).mono ?_; rintro e y0 ⟨rfl, hS⟩
                  have la := lt_of_block (hS.blk (A, .cells #[.int .i64 p.1.1, .int .i64 p.1.2] 23 (0, 0)) (List.Mem.tail _ (List.Mem.tail _ (List.Mem.tail _ (List.Mem.head _)))))
                  have ca0 := cell_two0 (hS.blk (A, .cells #[.int .i64 p.1.1, .int .i64 p.1.2] 23 (0, 0)) (List.Mem.tail _ (List.Mem.tail _ (List.Mem.tail _ (List.Mem.head _)))))
                  have ca1 := cell_two1 (hS.blk (A, .cells #[.int .i64 p.1.1, .int .i64 p.1.2] 23 (0, 0)) (List.Mem.tail _ (List.Mem.tail _ (List.Mem.tail _ (List.Mem.head _)))))
                  have lb := lt_of_block (hS.blk (B, .cells #[.int .i64 p.2.1, .int .i64 p.2.2] 23 (0, 0)) (List.Mem.tail _ (List.Mem.tail _ (List.Mem.head _))))
                  have cb0 := cell_two0 (hS.blk (B, .cells #[.int .i64 p.2.1, .int .i64 p.2.2] 23 (0, 0)) (List.Mem.tail _ (List.Mem.tail _ (List.Mem.head _))))
                  have cb1 := cell_two1 (hS.blk (B, .cells #[.int .i64 p.2.1, .int .i64 p.2.2] 23 (0, 0)) (List.Mem.tail _ (List.Mem.tail _ (List.Mem.head _))))
                  go_wp2_with fail
                  clear la ca0 ca1 lb cb0 cb1
                  have gR : w.heap.size ≤ y0.heap.size := hS.bel.size
                  have nRd : y0.heap.size ≠ D := Nat.ne_of_gt (lt_of_block (hS.blk (D, .cells #[.int .i64 d1, .int .i64 d2] 23 (0, 0)) (List.Mem.head _)))
                  have nRc : y0.heap.size ≠ C := Nat.ne_of_gt (lt_of_block (hS.blk (C, .cells #[.int .i64 c1, .int .i64 c2] 23 (0, 0)) (List.Mem.tail _ (List.Mem.head _))))
                  have nRb : y0.heap.size ≠ B := Nat.ne_of_gt (lt_of_block (hS.blk (B, .cells #[.int .i64 p.2.1, .int .i64 p.2.2] 23 (0, 0)) (List.Mem.tail _ (List.Mem.tail _ (List.Mem.head _)))))
                  have nRa : y0.heap.size ≠ A := Nat.ne_of_gt (lt_of_block (hS.blk (A, .cells #[.int .i64 p.1.1, .int .i64 p.1.2] 23 (0, 0)) (List.Mem.tail _ (List.Mem.tail _ (List.Mem.tail _ (List.Mem.head _))))))
                  have nRP : y0.heap.size ≠ P9 := Nat.ne_of_gt (lt_of_block (hS.blk (P9, .cells #[.int .i64 p.1.1, .int .i64 p.1.2, .int .i64 p.2.1, .int .i64 p.2.2] 29 (0, 0)) (List.Mem.tail _ (List.Mem.tail _ (List.Mem.tail _ (List.Mem.tail _ (List.Mem.head _)))))))
                  have nRg : y0.heap.size ≠ g := Nat.ne_of_gt (lt_of_block (hS.blk (g, prObj prs) (List.Mem.tail _ (List.Mem.tail _ (List.Mem.tail _ (List.Mem.tail _ (List.Mem.tail _ (List.Mem.head _))))))))
                  have nRq : y0.heap.size ≠ QK := Nat.ne_of_gt (lt_of_block (hS.blk (QK, .cells #[.int .u64 pq.1, .int .u64 pq.2] 50 (0, 0)) (List.Mem.tail _ (List.Mem.tail _ (List.Mem.tail _ (List.Mem.tail _ (List.Mem.tail _ (List.Mem.tail _ (List.Mem.head _)))))))))
                  have nRk : y0.heap.size ≠ PK := Nat.ne_of_gt (lt_of_block (hS.blk (PK, .cells #[.int .u64 pp.1, .int .u64 pp.2] 50 (0, 0)) (List.Mem.tail _ (List.Mem.tail _ (List.Mem.tail _ (List.Mem.tail _ (List.Mem.tail _ (List.Mem.tail _ (List.Mem.tail _ (List.Mem.head _))))))))))
                  replace hS := hS.al (.cells #[.int .i64 (sAdd (c1, c2) (d1, d2)).1.1, .int .i64 (sAdd (c1, c2) (d1, d2)).1.2] 23 (0, 0))
                  refine (hS.call (span_Add p.1 p.2 _)).mono ?_; rintro e y1 ⟨rfl, hS⟩
                  have lR := lt_of_block (hS.blk (y0.heap.size, .cells #[.int .i64 (sAdd (c1, c2) (d1, d2)).1.1, .int .i64 (sAdd (c1, c2) (d1, d2)).1.2] 23 (0, 0)) (List.Mem.head _))
                  have cR0 := cell_two0 (hS.blk (y0.heap.size, .cells #[.int .i64 (sAdd (c1, c2) (d1, d2)).1.1, .int .i64 (sAdd (c1, c2) (d1, d2)).1.2] 23 (0, 0)) (List.Mem.head _))
                  have cR1 := cell_two1 (hS.blk (y0.heap.size, .cells #[.int .i64 (sAdd (c1, c2) (d1, d2)).1.1, .int .i64 (sAdd (c1, c2) (d1, d2)).1.2] 23 (0, 0)) (List.Mem.head _))
                  go_wp2_with fail
                  clear lR cR0 cR1
                  have gS : w.heap.size ≤ y1.heap.size := hS.bel.size
                  have nSR : y1.heap.size ≠ y0.heap.size := Nat.ne_of_gt (lt_of_block (hS.blk (y0.heap.size, .cells #[.int .i64 (sAdd (c1, c2) (d1, d2)).1.1, .int .i64 (sAdd (c1, c2) (d1, d2)).1.2] 23 (0, 0)) (List.Mem.head _)))
                  have nSd : y1.heap.size ≠ D := Nat.ne_of_gt (lt_of_block (hS.blk (D, .cells #[.int .i64 d1, .int .i64 d2] 23 (0, 0)) (List.Mem.tail _ (List.Mem.head _))))
                  have nSc : y1.heap.size ≠ C := Nat.ne_of_gt (lt_of_block (hS.blk (C, .cells #[.int .i64 c1, .int .i64 c2] 23 (0, 0)) (List.Mem.tail _ (List.Mem.tail _ (List.Mem.head _)))))
                  have nSb : y1.heap.size ≠ B := Nat.ne_of_gt (lt_of_block (hS.blk (B, .cells #[.int .i64 p.2.1, .int .i64 p.2.2] 23 (0, 0)) (List.Mem.tail _ (List.Mem.tail _ (List.Mem.tail _ (List.Mem.head _))))))
                  have nSa : y1.heap.size ≠ A := Nat.ne_of_gt (lt_of_block (hS.blk (A, .cells #[.int .i64 p.1.1, .int .i64 p.1.2] 23 (0, 0)) (List.Mem.tail _ (List.Mem.tail _ (List.Mem.tail _ (List.Mem.tail _ (List.Mem.head _)))))))
                  have nSP : y1.heap.size ≠ P9 := Nat.ne_of_gt (lt_of_block (hS.blk (P9, .cells #[.int .i64 p.1.1, .int .i64 p.1.2, .int .i64 p.2.1, .int .i64 p.2.2] 29 (0, 0)) (List.Mem.tail _ (List.Mem.tail _ (List.Mem.tail _ (List.Mem.tail _ (List.Mem.tail _ (List.Mem.head _))))))))
                  have nSg : y1.heap.size ≠ g := Nat.ne_of_gt (lt_of_block (hS.blk (g, prObj prs) (List.Mem.tail _ (List.Mem.tail _ (List.Mem.tail _ (List.Mem.tail _ (List.Mem.tail _ (List.Mem.tail _ (List.Mem.head _)))))))))
                  have nSq : y1.heap.size ≠ QK := Nat.ne_of_gt (lt_of_block (hS.blk (QK, .cells #[.int .u64 pq.1, .int .u64 pq.2] 50 (0, 0)) (List.Mem.tail _ (List.Mem.tail _ (List.Mem.tail _ (List.Mem.tail _ (List.Mem.tail _ (List.Mem.tail _ (List.Mem.tail _ (List.Mem.head _))))))))))
                  have nSk : y1.heap.size ≠ PK := Nat.ne_of_gt (lt_of_block (hS.blk (PK, .cells #[.int .u64 pp.1, .int .u64 pp.2] 50 (0, 0)) (List.Mem.tail _ (List.Mem.tail _ (List.Mem.tail _ (List.Mem.tail _ (List.Mem.tail _ (List.Mem.tail _ (List.Mem.tail _ (List.Mem.tail _ (List.Mem.head _)))))))))))
                  replace hS := hS.al (.cells #[.int .i64 (sAdd p.1 p.2).1.1, .int .i64 (sAdd p.1 p.2).1.2] 23 (0, 0))
                  refine (hS.call (law2_inside (sAdd_narrow HAok.out HBok.out HCok.out.1 HDok.out.1 HCok.out.2 HDok.out.2) _)).mono ?_; rintro e y2 ⟨rfl, hS⟩
                  go_wp2_with fail
                  go_roundw
                  case rel => exact ⟨1, by omega, rfl, Lib.hid (hS.sub (by simp))⟩
                  case measure => simp [intOf]
                · have hi : ∀ W, (Instr.index 52 (.agg #[.func (.func 24) #[] #[], .func (.func 26) #[] #[], .func (.func 30) #[] #[], .func (.func 47) #[] #[], .func (.func 38) #[] #[], .func (.func 40) #[] #[], .func (.func 42) #[] #[]]) (.int .i64 1)).run Tryd.prog W = .ok (.func (.func 26) #[] #[]) W := fun W => by kernel_rfl
                  have lc := lt_of_block (hS.blk (C, .cells #[.int .i64 c1, .int .i64 c2] 23 (0, 0)) (List.Mem.tail _ (List.Mem.head _)))
                  have cc0 := cell_two0 (hS.blk (C, .cells #[.int .i64 c1, .int .i64 c2] 23 (0, 0)) (List.Mem.tail _ (List.Mem.head _)))
                  have cc1 := cell_two1 (hS.blk (C, .cells #[.int .i64 c1, .int .i64 c2] 23 (0, 0)) (List.Mem.tail _ (List.Mem.head _)))
                  have ld := lt_of_block (hS.blk (D, .cells #[.int .i64 d1, .int .i64 d2] 23 (0, 0)) (List.Mem.head _))
                  have cd0 := cell_two0 (hS.blk (D, .cells #[.int .i64 d1, .int .i64 d2] 23 (0, 0)) (List.Mem.head _))
                  have cd1 := cell_two1 (hS.blk (D, .cells #[.int .i64 d1, .int .i64 d2] 23 (0, 0)) (List.Mem.head _))
                  go_wp2_with fail
                  clear lc cc0 cc1 ld cd0 cd1
                  refine (hS.call (span_Sub (c1, c2) (d1, d2) _)).mono ?_; rintro e y0 ⟨rfl, hS⟩
                  have la := lt_of_block (hS.blk (A, .cells #[.int .i64 p.1.1, .int .i64 p.1.2] 23 (0, 0)) (List.Mem.tail _ (List.Mem.tail _ (List.Mem.tail _ (List.Mem.head _)))))
                  have ca0 := cell_two0 (hS.blk (A, .cells #[.int .i64 p.1.1, .int .i64 p.1.2] 23 (0, 0)) (List.Mem.tail _ (List.Mem.tail _ (List.Mem.tail _ (List.Mem.head _)))))
                  have ca1 := cell_two1 (hS.blk (A, .cells #[.int .i64 p.1.1, .int .i64 p.1.2] 23 (0, 0)) (List.Mem.tail _ (List.Mem.tail _ (List.Mem.tail _ (List.Mem.head _)))))
                  have lb := lt_of_block (hS.blk (B, .cells #[.int .i64 p.2.1, .int .i64 p.2.2] 23 (0, 0)) (List.Mem.tail _ (List.Mem.tail _ (List.Mem.head _))))
                  have cb0 := cell_two0 (hS.blk (B, .cells #[.int .i64 p.2.1, .int .i64 p.2.2] 23 (0, 0)) (List.Mem.tail _ (List.Mem.tail _ (List.Mem.head _))))
                  have cb1 := cell_two1 (hS.blk (B, .cells #[.int .i64 p.2.1, .int .i64 p.2.2] 23 (0, 0)) (List.Mem.tail _ (List.Mem.tail _ (List.Mem.head _))))
                  go_wp2_with fail
                  clear la ca0 ca1 lb cb0 cb1
                  have gR : w.heap.size ≤ y0.heap.size := hS.bel.size
                  have nRd : y0.heap.size ≠ D := Nat.ne_of_gt (lt_of_block (hS.blk (D, .cells #[.int .i64 d1, .int .i64 d2] 23 (0, 0)) (List.Mem.head _)))
                  have nRc : y0.heap.size ≠ C := Nat.ne_of_gt (lt_of_block (hS.blk (C, .cells #[.int .i64 c1, .int .i64 c2] 23 (0, 0)) (List.Mem.tail _ (List.Mem.head _))))
                  have nRb : y0.heap.size ≠ B := Nat.ne_of_gt (lt_of_block (hS.blk (B, .cells #[.int .i64 p.2.1, .int .i64 p.2.2] 23 (0, 0)) (List.Mem.tail _ (List.Mem.tail _ (List.Mem.head _)))))
                  have nRa : y0.heap.size ≠ A := Nat.ne_of_gt (lt_of_block (hS.blk (A, .cells #[.int .i64 p.1.1, .int .i64 p.1.2] 23 (0, 0)) (List.Mem.tail _ (List.Mem.tail _ (List.Mem.tail _ (List.Mem.head _))))))
                  have nRP : y0.heap.size ≠ P9 := Nat.ne_of_gt (lt_of_block (hS.blk (P9, .cells #[.int .i64 p.1.1, .int .i64 p.1.2, .int .i64 p.2.1, .int .i64 p.2.2] 29 (0, 0)) (List.Mem.tail _ (List.Mem.tail _ (List.Mem.tail _ (List.Mem.tail _ (List.Mem.head _)))))))
                  have nRg : y0.heap.size ≠ g := Nat.ne_of_gt (lt_of_block (hS.blk (g, prObj prs) (List.Mem.tail _ (List.Mem.tail _ (List.Mem.tail _ (List.Mem.tail _ (List.Mem.tail _ (List.Mem.head _))))))))
                  have nRq : y0.heap.size ≠ QK := Nat.ne_of_gt (lt_of_block (hS.blk (QK, .cells #[.int .u64 pq.1, .int .u64 pq.2] 50 (0, 0)) (List.Mem.tail _ (List.Mem.tail _ (List.Mem.tail _ (List.Mem.tail _ (List.Mem.tail _ (List.Mem.tail _ (List.Mem.head _)))))))))
                  have nRk : y0.heap.size ≠ PK := Nat.ne_of_gt (lt_of_block (hS.blk (PK, .cells #[.int .u64 pp.1, .int .u64 pp.2] 50 (0, 0)) (List.Mem.tail _ (List.Mem.tail _ (List.Mem.tail _ (List.Mem.tail _ (List.Mem.tail _ (List.Mem.tail _ (List.Mem.tail _ (List.Mem.head _))))))))))
                  replace hS := hS.al (.cells #[.int .i64 (sSub (c1, c2) (d1, d2)).1.1, .int .i64 (sSub (c1, c2) (d1, d2)).1.2] 23 (0, 0))
                  refine (hS.call (span_Sub p.1 p.2 _)).mono ?_; rintro e y1 ⟨rfl, hS⟩
                  have lR := lt_of_block (hS.blk (y0.heap.size, .cells #[.int .i64 (sSub (c1, c2) (d1, d2)).1.1, .int .i64 (sSub (c1, c2) (d1, d2)).1.2] 23 (0, 0)) (List.Mem.head _))
                  have cR0 := cell_two0 (hS.blk (y0.heap.size, .cells #[.int .i64 (sSub (c1, c2) (d1, d2)).1.1, .int .i64 (sSub (c1, c2) (d1, d2)).1.2] 23 (0, 0)) (List.Mem.head _))
                  have cR1 := cell_two1 (hS.blk (y0.heap.size, .cells #[.int .i64 (sSub (c1, c2) (d1, d2)).1.1, .int .i64 (sSub (c1, c2) (d1, d2)).1.2] 23 (0, 0)) (List.Mem.head _))
                  go_wp2_with fail
                  clear lR cR0 cR1
                  have gS : w.heap.size ≤ y1.heap.size := hS.bel.size
                  have nSR : y1.heap.size ≠ y0.heap.size := Nat.ne_of_gt (lt_of_block (hS.blk (y0.heap.size, .cells #[.int .i64 (sSub (c1, c2) (d1, d2)).1.1, .int .i64 (sSub (c1, c2) (d1, d2)).1.2] 23 (0, 0)) (List.Mem.head _)))
                  have nSd : y1.heap.size ≠ D := Nat.ne_of_gt (lt_of_block (hS.blk (D, .cells #[.int .i64 d1, .int .i64 d2] 23 (0, 0)) (List.Mem.tail _ (List.Mem.head _))))
                  have nSc : y1.heap.size ≠ C := Nat.ne_of_gt (lt_of_block (hS.blk (C, .cells #[.int .i64 c1, .int .i64 c2] 23 (0, 0)) (List.Mem.tail _ (List.Mem.tail _ (List.Mem.head _)))))
                  have nSb : y1.heap.size ≠ B := Nat.ne_of_gt (lt_of_block (hS.blk (B, .cells #[.int .i64 p.2.1, .int .i64 p.2.2] 23 (0, 0)) (List.Mem.tail _ (List.Mem.tail _ (List.Mem.tail _ (List.Mem.head _))))))
                  have nSa : y1.heap.size ≠ A := Nat.ne_of_gt (lt_of_block (hS.blk (A, .cells #[.int .i64 p.1.1, .int .i64 p.1.2] 23 (0, 0)) (List.Mem.tail _ (List.Mem.tail _ (List.Mem.tail _ (List.Mem.tail _ (List.Mem.head _)))))))
                  have nSP : y1.heap.size ≠ P9 := Nat.ne_of_gt (lt_of_block (hS.blk (P9, .cells #[.int .i64 p.1.1, .int .i64 p.1.2, .int .i64 p.2.1, .int .i64 p.2.2] 29 (0, 0)) (List.Mem.tail _ (List.Mem.tail _ (List.Mem.tail _ (List.Mem.tail _ (List.Mem.tail _ (List.Mem.head _))))))))
                  have nSg : y1.heap.size ≠ g := Nat.ne_of_gt (lt_of_block (hS.blk (g, prObj prs) (List.Mem.tail _ (List.Mem.tail _ (List.Mem.tail _ (List.Mem.tail _ (List.Mem.tail _ (List.Mem.tail _ (List.Mem.head _)))))))))
                  have nSq : y1.heap.size ≠ QK := Nat.ne_of_gt (lt_of_block (hS.blk (QK, .cells #[.int .u64 pq.1, .int .u64 pq.2] 50 (0, 0)) (List.Mem.tail _ (List.Mem.tail _ (List.Mem.tail _ (List.Mem.tail _ (List.Mem.tail _ (List.Mem.tail _ (List.Mem.tail _ (List.Mem.head _))))))))))
                  have nSk : y1.heap.size ≠ PK := Nat.ne_of_gt (lt_of_block (hS.blk (PK, .cells #[.int .u64 pp.1, .int .u64 pp.2] 50 (0, 0)) (List.Mem.tail _ (List.Mem.tail _ (List.Mem.tail _ (List.Mem.tail _ (List.Mem.tail _ (List.Mem.tail _ (List.Mem.tail _ (List.Mem.tail _ (List.Mem.head _)))))))))))
                  replace hS := hS.al (.cells #[.int .i64 (sSub p.1 p.2).1.1, .int .i64 (sSub p.1 p.2).1.2] 23 (0, 0))
                  refine (hS.call (law2_inside (sSub_narrow HAok.out HBok.out HCok.out.1 HDok.out.1 HCok.out.2 HDok.out.2) _)).mono ?_; rintro e y2 ⟨rfl, hS⟩
                  go_wp2_with fail
                  go_roundw
                  case rel => exact ⟨2, by omega, rfl, Lib.hid (hS.sub (by simp))⟩
                  case measure => simp [intOf]
                · have hi : ∀ W, (Instr.index 52 (.agg #[.func (.func 24) #[] #[], .func (.func 26) #[] #[], .func (.func 30) #[] #[], .func (.func 47) #[] #[], .func (.func 38) #[] #[], .func (.func 40) #[] #[], .func (.func 42) #[] #[]]) (.int .i64 2)).run Tryd.prog W = .ok (.func (.func 30) #[] #[]) W := fun W => by kernel_rfl
                  have lc := lt_of_block (hS.blk (C, .cells #[.int .i64 c1, .int .i64 c2] 23 (0, 0)) (List.Mem.tail _ (List.Mem.head _)))
                  have cc0 := cell_two0 (hS.blk (C, .cells #[.int .i64 c1, .int .i64 c2] 23 (0, 0)) (List.Mem.tail _ (List.Mem.head _)))
                  have cc1 := cell_two1 (hS.blk (C, .cells #[.int .i64 c1, .int .i64 c2] 23 (0, 0)) (List.Mem.tail _ (List.Mem.head _)))
                  have ld := lt_of_block (hS.blk (D, .cells #[.int .i64 d1, .int .i64 d2] 23 (0, 0)) (List.Mem.head _))
                  have cd0 := cell_two0 (hS.blk (D, .cells #[.int .i64 d1, .int .i64 d2] 23 (0, 0)) (List.Mem.head _))
                  have cd1 := cell_two1 (hS.blk (D, .cells #[.int .i64 d1, .int .i64 d2] 23 (0, 0)) (List.Mem.head _))
                  go_wp2_with fail
                  clear lc cc0 cc1 ld cd0 cd1
                  refine (hS.call (span_Mul (c1, c2) (d1, d2) _)).mono ?_; rintro e y0 ⟨rfl, hS⟩
                  have la := lt_of_block (hS.blk (A, .cells #[.int .i64 p.1.1, .int .i64 p.1.2] 23 (0, 0)) (List.Mem.tail _ (List.Mem.tail _ (List.Mem.tail _ (List.Mem.head _)))))
                  have ca0 := cell_two0 (hS.blk (A, .cells #[.int .i64 p.1.1, .int .i64 p.1.2] 23 (0, 0)) (List.Mem.tail _ (List.Mem.tail _ (List.Mem.tail _ (List.Mem.head _)))))
                  have ca1 := cell_two1 (hS.blk (A, .cells #[.int .i64 p.1.1, .int .i64 p.1.2] 23 (0, 0)) (List.Mem.tail _ (List.Mem.tail _ (List.Mem.tail _ (List.Mem.head _)))))
                  have lb := lt_of_block (hS.blk (B, .cells #[.int .i64 p.2.1, .int .i64 p.2.2] 23 (0, 0)) (List.Mem.tail _ (List.Mem.tail _ (List.Mem.head _))))
                  have cb0 := cell_two0 (hS.blk (B, .cells #[.int .i64 p.2.1, .int .i64 p.2.2] 23 (0, 0)) (List.Mem.tail _ (List.Mem.tail _ (List.Mem.head _))))
                  have cb1 := cell_two1 (hS.blk (B, .cells #[.int .i64 p.2.1, .int .i64 p.2.2] 23 (0, 0)) (List.Mem.tail _ (List.Mem.tail _ (List.Mem.head _))))
                  go_wp2_with fail
                  clear la ca0 ca1 lb cb0 cb1
                  have gR : w.heap.size ≤ y0.heap.size := hS.bel.size
                  have nRd : y0.heap.size ≠ D := Nat.ne_of_gt (lt_of_block (hS.blk (D, .cells #[.int .i64 d1, .int .i64 d2] 23 (0, 0)) (List.Mem.head _)))
                  have nRc : y0.heap.size ≠ C := Nat.ne_of_gt (lt_of_block (hS.blk (C, .cells #[.int .i64 c1, .int .i64 c2] 23 (0, 0)) (List.Mem.tail _ (List.Mem.head _))))
                  have nRb : y0.heap.size ≠ B := Nat.ne_of_gt (lt_of_block (hS.blk (B, .cells #[.int .i64 p.2.1, .int .i64 p.2.2] 23 (0, 0)) (List.Mem.tail _ (List.Mem.tail _ (List.Mem.head _)))))
                  have nRa : y0.heap.size ≠ A := Nat.ne_of_gt (lt_of_block (hS.blk (A, .cells #[.int .i64 p.1.1, .int .i64 p.1.2] 23 (0, 0)) (List.Mem.tail _ (List.Mem.tail _ (List.Mem.tail _ (List.Mem.head _))))))
                  have nRP : y0.heap.size ≠ P9 := Nat.ne_of_gt (lt_of_block (hS.blk (P9, .cells #[.int .i64 p.1.1, .int .i64 p.1.2, .int .i64 p.2.1, .int .i64 p.2.2] 29 (0, 0)) (List.Mem.tail _ (List.Mem.tail _ (List.Mem.tail _ (List.Mem.tail _ (List.Mem.head _)))))))
                  have nRg : y0.heap.size ≠ g := Nat.ne_of_gt (lt_of_block (hS.blk (g, prObj prs) (List.Mem.tail _ (List.Mem.tail _ (List.Mem.tail _ (List.Mem.tail _ (List.Mem.tail _ (List.Mem.head _))))))))
                  have nRq : y0.heap.size ≠ QK := Nat.ne_of_gt (lt_of_block (hS.blk (QK, .cells #[.int .u64 pq.1, .int .u64 pq.2] 50 (0, 0)) (List.Mem.tail _ (List.Mem.tail _ (List.Mem.tail _ (List.Mem.tail _ (List.Mem.tail _ (List.Mem.tail _ (List.Mem.head _)))))))))
                  have nRk : y0.heap.size ≠ PK := Nat.ne_of_gt (lt_of_block (hS.blk (PK, .cells #[.int .u64 pp.1, .int .u64 pp.2] 50 (0, 0)) (List.Mem.tail _ (List.Mem.tail _ (List.Mem.tail _ (List.Mem.tail _ (List.Mem.tail _ (List.Mem.tail _ (List.Mem.tail _ (List.Mem.head _))))))))))
                  replace hS := hS.al (.cells #[.int .i64 (sMul (c1, c2) (d1, d2)).1.1, .int .i64 (sMul (c1, c2) (d1, d2)).1.2] 23 (0, 0))
                  refine (hS.call (span_Mul p.1 p.2 _)).mono ?_; rintro e y1 ⟨rfl, hS⟩
                  have lR := lt_of_block (hS.blk (y0.heap.size, .cells #[.int .i64 (sMul (c1, c2) (d1, d2)).1.1, .int .i64 (sMul (c1, c2) (d1, d2)).1.2] 23 (0, 0)) (List.Mem.head _))
                  have cR0 := cell_two0 (hS.blk (y0.heap.size, .cells #[.int .i64 (sMul (c1, c2) (d1, d2)).1.1, .int .i64 (sMul (c1, c2) (d1, d2)).1.2] 23 (0, 0)) (List.Mem.head _))
                  have cR1 := cell_two1 (hS.blk (y0.heap.size, .cells #[.int .i64 (sMul (c1, c2) (d1, d2)).1.1, .int .i64 (sMul (c1, c2) (d1, d2)).1.2] 23 (0, 0)) (List.Mem.head _))
                  go_wp2_with fail
                  clear lR cR0 cR1
                  have gS : w.heap.size ≤ y1.heap.size := hS.bel.size
                  have nSR : y1.heap.size ≠ y0.heap.size := Nat.ne_of_gt (lt_of_block (hS.blk (y0.heap.size, .cells #[.int .i64 (sMul (c1, c2) (d1, d2)).1.1, .int .i64 (sMul (c1, c2) (d1, d2)).1.2] 23 (0, 0)) (List.Mem.head _)))
                  have nSd : y1.heap.size ≠ D := Nat.ne_of_gt (lt_of_block (hS.blk (D, .cells #[.int .i64 d1, .int .i64 d2] 23 (0, 0)) (List.Mem.tail _ (List.Mem.head _))))
                  have nSc : y1.heap.size ≠ C := Nat.ne_of_gt (lt_of_block (hS.blk (C, .cells #[.int .i64 c1, .int .i64 c2] 23 (0, 0)) (List.Mem.tail _ (List.Mem.tail _ (List.Mem.head _)))))
                  have nSb : y1.heap.size ≠ B := Nat.ne_of_gt (lt_of_block (hS.blk (B, .cells #[.int .i64 p.2.1, .int .i64 p.2.2] 23 (0, 0)) (List.Mem.tail _ (List.Mem.tail _ (List.Mem.tail _ (List.Mem.head _))))))
                  have nSa : y1.heap.size ≠ A := Nat.ne_of_gt (lt_of_block (hS.blk (A, .cells #[.int .i64 p.1.1, .int .i64 p.1.2] 23 (0, 0)) (List.Mem.tail _ (List.Mem.tail _ (List.Mem.tail _ (List.Mem.tail _ (List.Mem.head _)))))))
                  have nSP : y1.heap.size ≠ P9 := Nat.ne_of_gt (lt_of_block (hS.blk (P9, .cells #[.int .i64 p.1.1, .int .i64 p.1.2, .int .i64 p.2.1, .int .i64 p.2.2] 29 (0, 0)) (List.Mem.tail _ (List.Mem.tail _ (List.Mem.tail _ (List.Mem.tail _ (List.Mem.tail _ (List.Mem.head _))))))))
                  have nSg : y1.heap.size ≠ g := Nat.ne_of_gt (lt_of_block (hS.blk (g, prObj prs) (List.Mem.tail _ (List.Mem.tail _ (List.Mem.tail _ (List.Mem.tail _ (List.Mem.tail _ (List.Mem.tail _ (List.Mem.head _)))))))))
                  have nSq : y1.heap.size ≠ QK := Nat.ne_of_gt (lt_of_block (hS.blk (QK, .cells #[.int .u64 pq.1, .int .u64 pq.2] 50 (0, 0)) (List.Mem.tail _ (List.Mem.tail _ (List.Mem.tail _ (List.Mem.tail _ (List.Mem.tail _ (List.Mem.tail _ (List.Mem.tail _ (List.Mem.head _))))))))))
                  have nSk : y1.heap.size ≠ PK := Nat.ne_of_gt (lt_of_block (hS.blk (PK, .cells #[.int .u64 pp.1, .int .u64 pp.2] 50 (0, 0)) (List.Mem.tail _ (List.Mem.tail _ (List.Mem.tail _ (List.Mem.tail _ (List.Mem.tail _ (List.Mem.tail _ (List.Mem.tail _ (List.Mem.tail _ (List.Mem.head _)))))))))))
                  replace hS := hS.al (.cells #[.int .i64 (sMul p.1 p.2).1.1, .int .i64 (sMul p.1 p.2).1.2] 23 (0, 0))
                  refine (hS.call (law2_inside (sMul_narrow HAok.out HBok.out HCok.out.1 HDok.out.1 HCok.out.2 HDok.out.2) _)).mono ?_; rintro e y2 ⟨rfl, hS⟩
                  go_wp2_with fail
                  go_roundw
                  case rel => exact ⟨3, by omega, rfl, Lib.hid (hS.sub (by simp))⟩
                  case measure => simp [intOf]
                · have hi : ∀ W, (Instr.index 52 (.agg #[.func (.func 24) #[] #[], .func (.func 26) #[] #[], .func (.func 30) #[] #[], .func (.func 47) #[] #[], .func (.func 38) #[] #[], .func (.func 40) #[] #[], .func (.func 42) #[] #[]]) (.int .i64 3)).run Tryd.prog W = .ok (.func (.func 47) #[] #[]) W := fun W => by kernel_rfl
                  have lc := lt_of_block (hS.blk (C, .cells #[.int .i64 c1, .int .i64 c2] 23 (0, 0)) (List.Mem.tail _ (List.Mem.head _)))
                  have cc0 := cell_two0 (hS.blk (C, .cells #[.int .i64 c1, .int .i64 c2] 23 (0, 0)) (List.Mem.tail _ (List.Mem.head _)))
                  have cc1 := cell_two1 (hS.blk (C, .cells #[.int .i64 c1, .int .i64 c2] 23 (0, 0)) (List.Mem.tail _ (List.Mem.head _)))
                  have ld := lt_of_block (hS.blk (D, .cells #[.int .i64 d1, .int .i64 d2] 23 (0, 0)) (List.Mem.head _))
                  have cd0 := cell_two0 (hS.blk (D, .cells #[.int .i64 d1, .int .i64 d2] 23 (0, 0)) (List.Mem.head _))
                  have cd1 := cell_two1 (hS.blk (D, .cells #[.int .i64 d1, .int .i64 d2] 23 (0, 0)) (List.Mem.head _))
                  go_wp2_with fail
                  clear lc cc0 cc1 ld cd0 cd1
                  refine (hS.call (span_Div (c1, c2) (d1, d2) _)).mono ?_; rintro e y0 ⟨rfl, hS⟩
                  have la := lt_of_block (hS.blk (A, .cells #[.int .i64 p.1.1, .int .i64 p.1.2] 23 (0, 0)) (List.Mem.tail _ (List.Mem.tail _ (List.Mem.tail _ (List.Mem.head _)))))
                  have ca0 := cell_two0 (hS.blk (A, .cells #[.int .i64 p.1.1, .int .i64 p.1.2] 23 (0, 0)) (List.Mem.tail _ (List.Mem.tail _ (List.Mem.tail _ (List.Mem.head _)))))
                  have ca1 := cell_two1 (hS.blk (A, .cells #[.int .i64 p.1.1, .int .i64 p.1.2] 23 (0, 0)) (List.Mem.tail _ (List.Mem.tail _ (List.Mem.tail _ (List.Mem.head _)))))
                  have lb := lt_of_block (hS.blk (B, .cells #[.int .i64 p.2.1, .int .i64 p.2.2] 23 (0, 0)) (List.Mem.tail _ (List.Mem.tail _ (List.Mem.head _))))
                  have cb0 := cell_two0 (hS.blk (B, .cells #[.int .i64 p.2.1, .int .i64 p.2.2] 23 (0, 0)) (List.Mem.tail _ (List.Mem.tail _ (List.Mem.head _))))
                  have cb1 := cell_two1 (hS.blk (B, .cells #[.int .i64 p.2.1, .int .i64 p.2.2] 23 (0, 0)) (List.Mem.tail _ (List.Mem.tail _ (List.Mem.head _))))
                  go_wp2_with fail
                  clear la ca0 ca1 lb cb0 cb1
                  have gR : w.heap.size ≤ y0.heap.size := hS.bel.size
                  have nRd : y0.heap.size ≠ D := Nat.ne_of_gt (lt_of_block (hS.blk (D, .cells #[.int .i64 d1, .int .i64 d2] 23 (0, 0)) (List.Mem.head _)))
                  have nRc : y0.heap.size ≠ C := Nat.ne_of_gt (lt_of_block (hS.blk (C, .cells #[.int .i64 c1, .int .i64 c2] 23 (0, 0)) (List.Mem.tail _ (List.Mem.head _))))
                  have nRb : y0.heap.size ≠ B := Nat.ne_of_gt (lt_of_block (hS.blk (B, .cells #[.int .i64 p.2.1, .int .i64 p.2.2] 23 (0, 0)) (List.Mem.tail _ (List.Mem.tail _ (List.Mem.head _)))))
                  have nRa : y0.heap.size ≠ A := Nat.ne_of_gt (lt_of_block (hS.blk (A, .cells #[.int .i64 p.1.1, .int .i64 p.1.2] 23 (0, 0)) (List.Mem.tail _ (List.Mem.tail _ (List.Mem.tail _ (List.Mem.head _))))))
                  have nRP : y0.heap.size ≠ P9 := Nat.ne_of_gt (lt_of_block (hS.blk (P9, .cells #[.int .i64 p.1.1, .int .i64 p.1.2, .int .i64 p.2.1, .int .i64 p.2.2] 29 (0, 0)) (List.Mem.tail _ (List.Mem.tail _ (List.Mem.tail _ (List.Mem.tail _ (List.Mem.head _)))))))
                  have nRg : y0.heap.size ≠ g := Nat.ne_of_gt (lt_of_block (hS.blk (g, prObj prs) (List.Mem.tail _ (List.Mem.tail _ (List.Mem.tail _ (List.Mem.tail _ (List.Mem.tail _ (List.Mem.head _))))))))
                  have nRq : y0.heap.size ≠ QK := Nat.ne_of_gt (lt_of_block (hS.blk (QK, .cells #[.int .u64 pq.1, .int .u64 pq.2] 50 (0, 0)) (List.Mem.tail _ (List.Mem.tail _ (List.Mem.tail _ (List.Mem.tail _ (List.Mem.tail _ (List.Mem.tail _ (List.Mem.head _)))))))))
                  have nRk : y0.heap.size ≠ PK := Nat.ne_of_gt (lt_of_block (hS.blk (PK, .cells #[.int .u64 pp.1, .int .u64 pp.2] 50 (0, 0)) (List.Mem.tail _ (List.Mem.tail _ (List.Mem.tail _ (List.Mem.tail _ (List.Mem.tail _ (List.Mem.tail _ (List.Mem.tail _ (List.Mem.head _))))))))))
                  replace hS := hS.al (.cells #[.int .i64 (sDiv (c1, c2) (d1, d2)).1.1, .int .i64 (sDiv (c1, c2) (d1, d2)).1.2] 23 (0, 0))
                  refine (hS.call (span_Div p.1 p.2 _)).mono ?_; rintro e y1 ⟨rfl, hS⟩
                  have lR := lt_of_block (hS.blk (y0.heap.size, .cells #[.int .i64 (sDiv (c1, c2) (d1, d2)).1.1, .int .i64 (sDiv (c1, c2) (d1, d2)).1.2] 23 (0, 0)) (List.Mem.head _))
                  have cR0 := cell_two0 (hS.blk (y0.heap.size, .cells #[.int .i64 (sDiv (c1, c2) (d1, d2)).1.1, .int .i64 (sDiv (c1, c2) (d1, d2)).1.2] 23 (0, 0)) (List.Mem.head _))
                  have cR1 := cell_two1 (hS.blk (y0.heap.size, .cells #[.int .i64 (sDiv (c1, c2) (d1, d2)).1.1, .int .i64 (sDiv (c1, c2) (d1, d2)).1.2] 23 (0, 0)) (List.Mem.head _))
                  go_wp2_with fail
                  clear lR cR0 cR1
                  have gS : w.heap.size ≤ y1.heap.size := hS.bel.size
                  have nSR : y1.heap.size ≠ y0.heap.size := Nat.ne_of_gt (lt_of_block (hS.blk (y0.heap.size, .cells #[.int .i64 (sDiv (c1, c2) (d1, d2)).1.1, .int .i64 (sDiv (c1, c2) (d1, d2)).1.2] 23 (0, 0)) (List.Mem.head _)))
                  have nSd : y1.heap.size ≠ D := Nat.ne_of_gt (lt_of_block (hS.blk (D, .cells #[.int .i64 d1, .int .i64 d2] 23 (0, 0)) (List.Mem.tail _ (List.Mem.head _))))
                  have nSc : y1.heap.size ≠ C := Nat.ne_of_gt (lt_of_block (hS.blk (C, .cells #[.int .i64 c1, .int .i64 c2] 23 (0, 0)) (List.Mem.tail _ (List.Mem.tail _ (List.Mem.head _)))))
                  have nSb : y1.heap.size ≠ B := Nat.ne_of_gt (lt_of_block (hS.blk (B, .cells #[.int .i64 p.2.1, .int .i64 p.2.2] 23 (0, 0)) (List.Mem.tail _ (List.Mem.tail _ (List.Mem.tail _ (List.Mem.head _))))))
                  have nSa : y1.heap.size ≠ A := Nat.ne_of_gt (lt_of_block (hS.blk (A, .cells #[.int .i64 p.1.1, .int .i64 p.1.2] 23 (0, 0)) (List.Mem.tail _ (List.Mem.tail _ (List.Mem.tail _ (List.Mem.tail _ (List.Mem.head _)))))))
                  have nSP : y1.heap.size ≠ P9 := Nat.ne_of_gt (lt_of_block (hS.blk (P9, .cells #[.int .i64 p.1.1, .int .i64 p.1.2, .int .i64 p.2.1, .int .i64 p.2.2] 29 (0, 0)) (List.Mem.tail _ (List.Mem.tail _ (List.Mem.tail _ (List.Mem.tail _ (List.Mem.tail _ (List.Mem.head _))))))))
                  have nSg : y1.heap.size ≠ g := Nat.ne_of_gt (lt_of_block (hS.blk (g, prObj prs) (List.Mem.tail _ (List.Mem.tail _ (List.Mem.tail _ (List.Mem.tail _ (List.Mem.tail _ (List.Mem.tail _ (List.Mem.head _)))))))))
                  have nSq : y1.heap.size ≠ QK := Nat.ne_of_gt (lt_of_block (hS.blk (QK, .cells #[.int .u64 pq.1, .int .u64 pq.2] 50 (0, 0)) (List.Mem.tail _ (List.Mem.tail _ (List.Mem.tail _ (List.Mem.tail _ (List.Mem.tail _ (List.Mem.tail _ (List.Mem.tail _ (List.Mem.head _))))))))))
                  have nSk : y1.heap.size ≠ PK := Nat.ne_of_gt (lt_of_block (hS.blk (PK, .cells #[.int .u64 pp.1, .int .u64 pp.2] 50 (0, 0)) (List.Mem.tail _ (List.Mem.tail _ (List.Mem.tail _ (List.Mem.tail _ (List.Mem.tail _ (List.Mem.tail _ (List.Mem.tail _ (List.Mem.tail _ (List.Mem.head _)))))))))))
                  replace hS := hS.al (.cells #[.int .i64 (sDiv p.1 p.2).1.1, .int .i64 (sDiv p.1 p.2).1.2] 23 (0, 0))
                  refine (hS.call (law2_inside (sDiv_narrow HAok.out HBok.out HCok.out.1 HDok.out.1 HCok.out.2 HDok.out.2) _)).mono ?_; rintro e y2 ⟨rfl, hS⟩
                  go_wp2_with fail
                  go_roundw
                  case rel => exact ⟨4, by omega, rfl, Lib.hid (hS.sub (by simp))⟩
                  case measure => simp [intOf]
                · have hi : ∀ W, (Instr.index 52 (.agg #[.func (.func 24) #[] #[], .func (.func 26) #[] #[], .func (.func 30) #[] #[], .func (.func 47) #[] #[], .func (.func 38) #[] #[], .func (.func 40) #[] #[], .func (.func 42) #[] #[]]) (.int .i64 4)).run Tryd.prog W = .ok (.func (.func 38) #[] #[]) W := fun W => by kernel_rfl
                  have lc := lt_of_block (hS.blk (C, .cells #[.int .i64 c1, .int .i64 c2] 23 (0, 0)) (List.Mem.tail _ (List.Mem.head _)))
                  have cc0 := cell_two0 (hS.blk (C, .cells #[.int .i64 c1, .int .i64 c2] 23 (0, 0)) (List.Mem.tail _ (List.Mem.head _)))
                  have cc1 := cell_two1 (hS.blk (C, .cells #[.int .i64 c1, .int .i64 c2] 23 (0, 0)) (List.Mem.tail _ (List.Mem.head _)))
                  have ld := lt_of_block (hS.blk (D, .cells #[.int .i64 d1, .int .i64 d2] 23 (0, 0)) (List.Mem.head _))
                  have cd0 := cell_two0 (hS.blk (D, .cells #[.int .i64 d1, .int .i64 d2] 23 (0, 0)) (List.Mem.head _))
                  have cd1 := cell_two1 (hS.blk (D, .cells #[.int .i64 d1, .int .i64 d2] 23 (0, 0)) (List.Mem.head _))
                  go_wp2_with fail
                  clear lc cc0 cc1 ld cd0 cd1
                  refine (hS.call (span_Min (c1, c2) (d1, d2) _)).mono ?_; rintro e y0 ⟨rfl, hS⟩
                  have la := lt_of_block (hS.blk (A, .cells #[.int .i64 p.1.1, .int .i64 p.1.2] 23 (0, 0)) (List.Mem.tail _ (List.Mem.tail _ (List.Mem.tail _ (List.Mem.head _)))))
                  have ca0 := cell_two0 (hS.blk (A, .cells #[.int .i64 p.1.1, .int .i64 p.1.2] 23 (0, 0)) (List.Mem.tail _ (List.Mem.tail _ (List.Mem.tail _ (List.Mem.head _)))))
                  have ca1 := cell_two1 (hS.blk (A, .cells #[.int .i64 p.1.1, .int .i64 p.1.2] 23 (0, 0)) (List.Mem.tail _ (List.Mem.tail _ (List.Mem.tail _ (List.Mem.head _)))))
                  have lb := lt_of_block (hS.blk (B, .cells #[.int .i64 p.2.1, .int .i64 p.2.2] 23 (0, 0)) (List.Mem.tail _ (List.Mem.tail _ (List.Mem.head _))))
                  have cb0 := cell_two0 (hS.blk (B, .cells #[.int .i64 p.2.1, .int .i64 p.2.2] 23 (0, 0)) (List.Mem.tail _ (List.Mem.tail _ (List.Mem.head _))))
                  have cb1 := cell_two1 (hS.blk (B, .cells #[.int .i64 p.2.1, .int .i64 p.2.2] 23 (0, 0)) (List.Mem.tail _ (List.Mem.tail _ (List.Mem.head _))))
                  go_wp2_with fail
                  clear la ca0 ca1 lb cb0 cb1
                  have gR : w.heap.size ≤ y0.heap.size := hS.bel.size
                  have nRd : y0.heap.size ≠ D := Nat.ne_of_gt (lt_of_block (hS.blk (D, .cells #[.int .i64 d1, .int .i64 d2] 23 (0, 0)) (List.Mem.head _)))
                  have nRc : y0.heap.size ≠ C := Nat.ne_of_gt (lt_of_block (hS.blk (C, .cells #[.int .i64 c1, .int .i64 c2] 23 (0, 0)) (List.Mem.tail _ (List.Mem.head _))))
                  have nRb : y0.heap.size ≠ B := Nat.ne_of_gt (lt_of_block (hS.blk (B, .cells #[.int .i64 p.2.1, .int .i64 p.2.2] 23 (0, 0)) (List.Mem.tail _ (List.Mem.tail _ (List.Mem.head _)))))
                  have nRa : y0.heap.size ≠ A := Nat.ne_of_gt (lt_of_block (hS.blk (A, .cells #[.int .i64 p.1.1, .int .i64 p.1.2] 23 (0, 0)) (List.Mem.tail _ (List.Mem.tail _ (List.Mem.tail _ (List.Mem.head _))))))
                  have nRP : y0.heap.size ≠ P9 := Nat.ne_of_gt (lt_of_block (hS.blk (P9, .cells #[.int .i64 p.1.1, .int .i64 p.1.2, .int .i64 p.2.1, .int .i64 p.2.2] 29 (0, 0)) (List.Mem.tail _ (List.Mem.tail _ (List.Mem.tail _ (List.Mem.tail _ (List.Mem.head _)))))))
                  have nRg : y0.heap.size ≠ g := Nat.ne_of_gt (lt_of_block (hS.blk (g, prObj prs) (List.Mem.tail _ (List.Mem.tail _ (List.Mem.tail _ (List.Mem.tail _ (List.Mem.tail _ (List.Mem.head _))))))))
                  have nRq : y0.heap.size ≠ QK := Nat.ne_of_gt (lt_of_block (hS.blk (QK, .cells #[.int .u64 pq.1, .int .u64 pq.2] 50 (0, 0)) (List.Mem.tail _ (List.Mem.tail _ (List.Mem.tail _ (List.Mem.tail _ (List.Mem.tail _ (List.Mem.tail _ (List.Mem.head _)))))))))
                  have nRk : y0.heap.size ≠ PK := Nat.ne_of_gt (lt_of_block (hS.blk (PK, .cells #[.int .u64 pp.1, .int .u64 pp.2] 50 (0, 0)) (List.Mem.tail _ (List.Mem.tail _ (List.Mem.tail _ (List.Mem.tail _ (List.Mem.tail _ (List.Mem.tail _ (List.Mem.tail _ (List.Mem.head _))))))))))
                  replace hS := hS.al (.cells #[.int .i64 (sMin (c1, c2) (d1, d2)).1.1, .int .i64 (sMin (c1, c2) (d1, d2)).1.2] 23 (0, 0))
                  refine (hS.call (span_Min p.1 p.2 _)).mono ?_; rintro e y1 ⟨rfl, hS⟩
                  have lR := lt_of_block (hS.blk (y0.heap.size, .cells #[.int .i64 (sMin (c1, c2) (d1, d2)).1.1, .int .i64 (sMin (c1, c2) (d1, d2)).1.2] 23 (0, 0)) (List.Mem.head _))
                  have cR0 := cell_two0 (hS.blk (y0.heap.size, .cells #[.int .i64 (sMin (c1, c2) (d1, d2)).1.1, .int .i64 (sMin (c1, c2) (d1, d2)).1.2] 23 (0, 0)) (List.Mem.head _))
                  have cR1 := cell_two1 (hS.blk (y0.heap.size, .cells #[.int .i64 (sMin (c1, c2) (d1, d2)).1.1, .int .i64 (sMin (c1, c2) (d1, d2)).1.2] 23 (0, 0)) (List.Mem.head _))
                  go_wp2_with fail
                  clear lR cR0 cR1
                  have gS : w.heap.size ≤ y1.heap.size := hS.bel.size
                  have nSR : y1.heap.size ≠ y0.heap.size := Nat.ne_of_gt (lt_of_block (hS.blk (y0.heap.size, .cells #[.int .i64 (sMin (c1, c2) (d1, d2)).1.1, .int .i64 (sMin (c1, c2) (d1, d2)).1.2] 23 (0, 0)) (List.Mem.head _)))
                  have nSd : y1.heap.size ≠ D := Nat.ne_of_gt (lt_of_block (hS.blk (D, .cells #[.int .i64 d1, .int .i64 d2] 23 (0, 0)) (List.Mem.tail _ (List.Mem.head _))))
                  have nSc : y1.heap.size ≠ C := Nat.ne_of_gt (lt_of_block (hS.blk (C, .cells #[.int .i64 c1, .int .i64 c2] 23 (0, 0)) (List.Mem.tail _ (List.Mem.tail _ (List.Mem.head _)))))
                  have nSb : y1.heap.size ≠ B := Nat.ne_of_gt (lt_of_block (hS.blk (B, .cells #[.int .i64 p.2.1, .int .i64 p.2.2] 23 (0, 0)) (List.Mem.tail _ (List.Mem.tail _ (List.Mem.tail _ (List.Mem.head _))))))
                  have nSa : y1.heap.size ≠ A := Nat.ne_of_gt (lt_of_block (hS.blk (A, .cells #[.int .i64 p.1.1, .int .i64 p.1.2] 23 (0, 0)) (List.Mem.tail _ (List.Mem.tail _ (List.Mem.tail _ (List.Mem.tail _ (List.Mem.head _)))))))
                  have nSP : y1.heap.size ≠ P9 := Nat.ne_of_gt (lt_of_block (hS.blk (P9, .cells #[.int .i64 p.1.1, .int .i64 p.1.2, .int .i64 p.2.1, .int .i64 p.2.2] 29 (0, 0)) (List.Mem.tail _ (List.Mem.tail _ (List.Mem.tail _ (List.Mem.tail _ (List.Mem.tail _ (List.Mem.head _))))))))
                  have nSg : y1.heap.size ≠ g := Nat.ne_of_gt (lt_of_block (hS.blk (g, prObj prs) (List.Mem.tail _ (List.Mem.tail _ (List.Mem.tail _ (List.Mem.tail _ (List.Mem.tail _ (List.Mem.tail _ (List.Mem.head _)))))))))
                  have nSq : y1.heap.size ≠ QK := Nat.ne_of_gt (lt_of_block (hS.blk (QK, .cells #[.int .u64 pq.1, .int .u64 pq.2] 50 (0, 0)) (List.Mem.tail _ (List.Mem.tail _ (List.Mem.tail _ (List.Mem.tail _ (List.Mem.tail _ (List.Mem.tail _ (List.Mem.tail _ (List.Mem.head _))))))))))
                  have nSk : y1.heap.size ≠ PK := Nat.ne_of_gt (lt_of_block (hS.blk (PK, .cells #[.int .u64 pp.1, .int .u64 pp.2] 50 (0, 0)) (List.Mem.tail _ (List.Mem.tail _ (List.Mem.tail _ (List.Mem.tail _ (List.Mem.tail _ (List.Mem.tail _ (List.Mem.tail _ (List.Mem.tail _ (List.Mem.head _)))))))))))
                  replace hS := hS.al (.cells #[.int .i64 (sMin p.1 p.2).1.1, .int .i64 (sMin p.1 p.2).1.2] 23 (0, 0))
                  refine (hS.call (law2_inside (sMin_narrow HAok.out HBok.out HCok.out.1 HDok.out.1 HCok.out.2 HDok.out.2) _)).mono ?_; rintro e y2 ⟨rfl, hS⟩
                  go_wp2_with fail
                  go_roundw
                  case rel => exact ⟨5, by omega, rfl, Lib.hid (hS.sub (by simp))⟩
                  case measure => simp [intOf]
                · have hi : ∀ W, (Instr.index 52 (.agg #[.func (.func 24) #[] #[], .func (.func 26) #[] #[], .func (.func 30) #[] #[], .func (.func 47) #[] #[], .func (.func 38) #[] #[], .func (.func 40) #[] #[], .func (.func 42) #[] #[]]) (.int .i64 5)).run Tryd.prog W = .ok (.func (.func 40) #[] #[]) W := fun W => by kernel_rfl
                  have lc := lt_of_block (hS.blk (C, .cells #[.int .i64 c1, .int .i64 c2] 23 (0, 0)) (List.Mem.tail _ (List.Mem.head _)))
                  have cc0 := cell_two0 (hS.blk (C, .cells #[.int .i64 c1, .int .i64 c2] 23 (0, 0)) (List.Mem.tail _ (List.Mem.head _)))
                  have cc1 := cell_two1 (hS.blk (C, .cells #[.int .i64 c1, .int .i64 c2] 23 (0, 0)) (List.Mem.tail _ (List.Mem.head _)))
                  have ld := lt_of_block (hS.blk (D, .cells #[.int .i64 d1, .int .i64 d2] 23 (0, 0)) (List.Mem.head _))
                  have cd0 := cell_two0 (hS.blk (D, .cells #[.int .i64 d1, .int .i64 d2] 23 (0, 0)) (List.Mem.head _))
                  have cd1 := cell_two1 (hS.blk (D, .cells #[.int .i64 d1, .int .i64 d2] 23 (0, 0)) (List.Mem.head _))
                  go_wp2_with fail
                  clear lc cc0 cc1 ld cd0 cd1
                  refine (hS.call (span_Max (c1, c2) (d1, d2) _)).mono ?_; rintro e y0 ⟨rfl, hS⟩
                  have la := lt_of_block (hS.blk (A, .cells #[.int .i64 p.1.1, .int .i64 p.1.2] 23 (0, 0)) (List.Mem.tail _ (List.Mem.tail _ (List.Mem.tail _ (List.Mem.head _)))))
                  have ca0 := cell_two0 (hS.blk (A, .cells #[.int .i64 p.1.1, .int .i64 p.1.2] 23 (0, 0)) (List.Mem.tail _ (List.Mem.tail _ (List.Mem.tail _ (List.Mem.head _)))))
                  have ca1 := cell_two1 (hS.blk (A, .cells #[.int .i64 p.1.1, .int .i64 p.1.2] 23 (0, 0)) (List.Mem.tail _ (List.Mem.tail _ (List.Mem.tail _ (List.Mem.head _)))))
                  have lb := lt_of_block (hS.blk (B, .cells #[.int .i64 p.2.1, .int .i64 p.2.2] 23 (0, 0)) (List.Mem.tail _ (List.Mem.tail _ (List.Mem.head _))))
                  have cb0 := cell_two0 (hS.blk (B, .cells #[.int .i64 p.2.1, .int .i64 p.2.2] 23 (0, 0)) (List.Mem.tail _ (List.Mem.tail _ (List.Mem.head _))))
                  have cb1 := cell_two1 (hS.blk (B, .cells #[.int .i64 p.2.1, .int .i64 p.2.2] 23 (0, 0)) (List.Mem.tail _ (List.Mem.tail _ (List.Mem.head _))))
                  go_wp2_with fail
                  clear la ca0 ca1 lb cb0 cb1
                  have gR : w.heap.size ≤ y0.heap.size := hS.bel.size
                  have nRd : y0.heap.size ≠ D := Nat.ne_of_gt (lt_of_block (hS.blk (D, .cells #[.int .i64 d1, .int .i64 d2] 23 (0, 0)) (List.Mem.head _)))
                  have nRc : y0.heap.size ≠ C := Nat.ne_of_gt (lt_of_block (hS.blk (C, .cells #[.int .i64 c1, .int .i64 c2] 23 (0, 0)) (List.Mem.tail _ (List.Mem.head _))))
                  have nRb : y0.heap.size ≠ B := Nat.ne_of_gt (lt_of_block (hS.blk (B, .cells #[.int .i64 p.2.1, .int .i64 p.2.2] 23 (0, 0)) (List.Mem.tail _ (List.Mem.tail _ (List.Mem.head _)))))
                  have nRa : y0.heap.size ≠ A := Nat.ne_of_gt (lt_of_block (hS.blk (A, .cells #[.int .i64 p.1.1, .int .i64 p.1.2] 23 (0, 0)) (List.Mem.tail _ (List.Mem.tail _ (List.Mem.tail _ (List.Mem.head _))))))
                  have nRP : y0.heap.size ≠ P9 := Nat.ne_of_gt (lt_of_block (hS.blk (P9, .cells #[.int .i64 p.1.1, .int .i64 p.1.2, .int .i64 p.2.1, .int .i64 p.2.2] 29 (0, 0)) (List.Mem.tail _ (List.Mem.tail _ (List.Mem.tail _ (List.Mem.tail _ (List.Mem.head _)))))))
                  have nRg : y0.heap.size ≠ g := Nat.ne_of_gt (lt_of_block (hS.blk (g, prObj prs) (List.Mem.tail _ (List.Mem.tail _ (List.Mem.tail _ (List.Mem.tail _ (List.Mem.tail _ (List.Mem.head _))))))))
                  have nRq : y0.heap.size ≠ QK := Nat.ne_of_gt (lt_of_block (hS.blk (QK, .cells #[.int .u64 pq.1, .int .u64 pq.2] 50 (0, 0)) (List.Mem.tail _ (List.Mem.tail _ (List.Mem.tail _ (List.Mem.tail _ (List.Mem.tail _ (List.Mem.tail _ (List.Mem.head _)))))))))
                  have nRk : y0.heap.size ≠ PK := Nat.ne_of_gt (lt_of_block (hS.blk (PK, .cells #[.int .u64 pp.1, .int .u64 pp.2] 50 (0, 0)) (List.Mem.tail _ (List.Mem.tail _ (List.Mem.tail _ (List.Mem.tail _ (List.Mem.tail _ (List.Mem.tail _ (List.Mem.tail _ (List.Mem.head _))))))))))
                  replace hS := hS.al (.cells #[.int .i64 (sMax (c1, c2) (d1, d2)).1.1, .int .i64 (sMax (c1, c2) (d1, d2)).1.2] 23 (0, 0))
                  refine (hS.call (span_Max p.1 p.2 _)).mono ?_; rintro e y1 ⟨rfl, hS⟩
                  have lR := lt_of_block (hS.blk (y0.heap.size, .cells #[.int .i64 (sMax (c1, c2) (d1, d2)).1.1, .int .i64 (sMax (c1, c2) (d1, d2)).1.2] 23 (0, 0)) (List.Mem.head _))
                  have cR0 := cell_two0 (hS.blk (y0.heap.size, .cells #[.int .i64 (sMax (c1, c2) (d1, d2)).1.1, .int .i64 (sMax (c1, c2) (d1, d2)).1.2] 23 (0, 0)) (List.Mem.head _))
                  have cR1 := cell_two1 (hS.blk (y0.heap.size, .cells #[.int .i64 (sMax (c1, c2) (d1, d2)).1.1, .int .i64 (sMax (c1, c2) (d1, d2)).1.2] 23 (0, 0)) (List.Mem.head _))
                  go_wp2_with fail
                  clear lR cR0 cR1
                  have gS : w.heap.size ≤ y1.heap.size := hS.bel.size
                  have nSR : y1.heap.size ≠ y0.heap.size := Nat.ne_of_gt (lt_of_block (hS.blk (y0.heap.size, .cells #[.int .i64 (sMax (c1, c2) (d1, d2)).1.1, .int .i64 (sMax (c1, c2) (d1, d2)).1.2] 23 (0, 0)) (List.Mem.head _)))
                  have nSd : y1.heap.size ≠ D := Nat.ne_of_gt (lt_of_block (hS.blk (D, .cells #[.int .i64 d1, .int .i64 d2] 23 (0, 0)) (List.Mem.tail _ (List.Mem.head _))))
                  have nSc : y1.heap.size ≠ C := Nat.ne_of_gt (lt_of_block (hS.blk (C, .cells #[.int .i64 c1, .int .i64 c2] 23 (0, 0)) (List.Mem.tail _ (List.Mem.tail _ (List.Mem.head _)))))
                  have nSb : y1.heap.size ≠ B := Nat.ne_of_gt (lt_of_block (hS.blk (B, .cells #[.int .i64 p.2.1, .int .i64 p.2.2] 23 (0, 0)) (List.Mem.tail _ (List.Mem.tail _ (List.Mem.tail _ (List.Mem.head _))))))
                  have nSa : y1.heap.size ≠ A := Nat.ne_of_gt (lt_of_block (hS.blk (A, .cells #[.int .i64 p.1.1, .int .i64 p.1.2] 23 (0, 0)) (List.Mem.tail _ (List.Mem.tail _ (List.Mem.tail _ (List.Mem.tail _ (List.Mem.head _)))))))
                  have nSP : y1.heap.size ≠ P9 := Nat.ne_of_gt (lt_of_block (hS.blk (P9, .cells #[.int .i64 p.1.1, .int .i64 p.1.2, .int .i64 p.2.1, .int .i64 p.2.2] 29 (0, 0)) (List.Mem.tail _ (List.Mem.tail _ (List.Mem.tail _ (List.Mem.tail _ (List.Mem.tail _ (List.Mem.head _))))))))
                  have nSg : y1.heap.size ≠ g := Nat.ne_of_gt (lt_of_block (hS.blk (g, prObj prs) (List.Mem.tail _ (List.Mem.tail _ (List.Mem.tail _ (List.Mem.tail _ (List.Mem.tail _ (List.Mem.tail _ (List.Mem.head _)))))))))
                  have nSq : y1.heap.size ≠ QK := Nat.ne_of_gt (lt_of_block (hS.blk (QK, .cells #[.int .u64 pq.1, .int .u64 pq.2] 50 (0, 0)) (List.Mem.tail _ (List.Mem.tail _ (List.Mem.tail _ (List.Mem.tail _ (List.Mem.tail _ (List.Mem.tail _ (List.Mem.tail _ (List.Mem.head _))))))))))
                  have nSk : y1.heap.size ≠ PK := Nat.ne_of_gt (lt_of_block (hS.blk (PK, .cells #[.int .u64 pp.1, .int .u64 pp.2] 50 (0, 0)) (List.Mem.tail _ (List.Mem.tail _ (List.Mem.tail _ (List.Mem.tail _ (List.Mem.tail _ (List.Mem.tail _ (List.Mem.tail _ (List.Mem.tail _ (List.Mem.head _)))))))))))
                  replace hS := hS.al (.cells #[.int .i64 (sMax p.1 p.2).1.1, .int .i64 (sMax p.1 p.2).1.2] 23 (0, 0))
                  refine (hS.call (law2_inside (sMax_narrow HAok.out HBok.out HCok.out.1 HDok.out.1 HCok.out.2 HDok.out.2) _)).mono ?_; rintro e y2 ⟨rfl, hS⟩
                  go_wp2_with fail
                  go_roundw
                  case rel => exact ⟨6, by omega, rfl, Lib.hid (hS.sub (by simp))⟩
                  case measure => simp [intOf]
                · have hi : ∀ W, (Instr.index 52 (.agg #[.func (.func 24) #[] #[], .func (.func 26) #[] #[], .func (.func 30) #[] #[], .func (.func 47) #[] #[], .func (.func 38) #[] #[], .func (.func 40) #[] #[], .func (.func 42) #[] #[]]) (.int .i64 6)).run Tryd.prog W = .ok (.func (.func 42) #[] #[]) W := fun W => by kernel_rfl
                  have lc := lt_of_block (hS.blk (C, .cells #[.int .i64 c1, .int .i64 c2] 23 (0, 0)) (List.Mem.tail _ (List.Mem.head _)))
                  have cc0 := cell_two0 (hS.blk (C, .cells #[.int .i64 c1, .int .i64 c2] 23 (0, 0)) (List.Mem.tail _ (List.Mem.head _)))
                  have cc1 := cell_two1 (hS.blk (C, .cells #[.int .i64 c1, .int .i64 c2] 23 (0, 0)) (List.Mem.tail _ (List.Mem.head _)))
                  have ld := lt_of_block (hS.blk (D, .cells #[.int .i64 d1, .int .i64 d2] 23 (0, 0)) (List.Mem.head _))
                  have cd0 := cell_two0 (hS.blk (D, .cells #[.int .i64 d1, .int .i64 d2] 23 (0, 0)) (List.Mem.head _))
                  have cd1 := cell_two1 (hS.blk (D, .cells #[.int .i64 d1, .int .i64 d2] 23 (0, 0)) (List.Mem.head _))
                  go_wp2_with fail
                  clear lc cc0 cc1 ld cd0 cd1
                  refine (hS.call (span_Hull (c1, c2) (d1, d2) _)).mono ?_; rintro e y0 ⟨rfl, hS⟩
                  have la := lt_of_block (hS.blk (A, .cells #[.int .i64 p.1.1, .int .i64 p.1.2] 23 (0, 0)) (List.Mem.tail _ (List.Mem.tail _ (List.Mem.tail _ (List.Mem.head _)))))
                  have ca0 := cell_two0 (hS.blk (A, .cells #[.int .i64 p.1.1, .int .i64 p.1.2] 23 (0, 0)) (List.Mem.tail _ (List.Mem.tail _ (List.Mem.tail _ (List.Mem.head _)))))
                  have ca1 := cell_two1 (hS.blk (A, .cells #[.int .i64 p.1.1, .int .i64 p.1.2] 23 (0, 0)) (List.Mem.tail _ (List.Mem.tail _ (List.Mem.tail _ (List.Mem.head _)))))
                  have lb := lt_of_block (hS.blk (B, .cells #[.int .i64 p.2.1, .int .i64 p.2.2] 23 (0, 0)) (List.Mem.tail _ (List.Mem.tail _ (List.Mem.head _))))
                  have cb0 := cell_two0 (hS.blk (B, .cells #[.int .i64 p.2.1, .int .i64 p.2.2] 23 (0, 0)) (List.Mem.tail _ (List.Mem.tail _ (List.Mem.head _))))
                  have cb1 := cell_two1 (hS.blk (B, .cells #[.int .i64 p.2.1, .int .i64 p.2.2] 23 (0, 0)) (List.Mem.tail _ (List.Mem.tail _ (List.Mem.head _))))
                  go_wp2_with fail
                  clear la ca0 ca1 lb cb0 cb1
                  have gR : w.heap.size ≤ y0.heap.size := hS.bel.size
                  have nRd : y0.heap.size ≠ D := Nat.ne_of_gt (lt_of_block (hS.blk (D, .cells #[.int .i64 d1, .int .i64 d2] 23 (0, 0)) (List.Mem.head _)))
                  have nRc : y0.heap.size ≠ C := Nat.ne_of_gt (lt_of_block (hS.blk (C, .cells #[.int .i64 c1, .int .i64 c2] 23 (0, 0)) (List.Mem.tail _ (List.Mem.head _))))
                  have nRb : y0.heap.size ≠ B := Nat.ne_of_gt (lt_of_block (hS.blk (B, .cells #[.int .i64 p.2.1, .int .i64 p.2.2] 23 (0, 0)) (List.Mem.tail _ (List.Mem.tail _ (List.Mem.head _)))))
                  have nRa : y0.heap.size ≠ A := Nat.ne_of_gt (lt_of_block (hS.blk (A, .cells #[.int .i64 p.1.1, .int .i64 p.1.2] 23 (0, 0)) (List.Mem.tail _ (List.Mem.tail _ (List.Mem.tail _ (List.Mem.head _))))))
                  have nRP : y0.heap.size ≠ P9 := Nat.ne_of_gt (lt_of_block (hS.blk (P9, .cells #[.int .i64 p.1.1, .int .i64 p.1.2, .int .i64 p.2.1, .int .i64 p.2.2] 29 (0, 0)) (List.Mem.tail _ (List.Mem.tail _ (List.Mem.tail _ (List.Mem.tail _ (List.Mem.head _)))))))
                  have nRg : y0.heap.size ≠ g := Nat.ne_of_gt (lt_of_block (hS.blk (g, prObj prs) (List.Mem.tail _ (List.Mem.tail _ (List.Mem.tail _ (List.Mem.tail _ (List.Mem.tail _ (List.Mem.head _))))))))
                  have nRq : y0.heap.size ≠ QK := Nat.ne_of_gt (lt_of_block (hS.blk (QK, .cells #[.int .u64 pq.1, .int .u64 pq.2] 50 (0, 0)) (List.Mem.tail _ (List.Mem.tail _ (List.Mem.tail _ (List.Mem.tail _ (List.Mem.tail _ (List.Mem.tail _ (List.Mem.head _)))))))))
                  have nRk : y0.heap.size ≠ PK := Nat.ne_of_gt (lt_of_block (hS.blk (PK, .cells #[.int .u64 pp.1, .int .u64 pp.2] 50 (0, 0)) (List.Mem.tail _ (List.Mem.tail _ (List.Mem.tail _ (List.Mem.tail _ (List.Mem.tail _ (List.Mem.tail _ (List.Mem.tail _ (List.Mem.head _))))))))))
                  replace hS := hS.al (.cells #[.int .i64 (sHull (c1, c2) (d1, d2)).1.1, .int .i64 (sHull (c1, c2) (d1, d2)).1.2] 23 (0, 0))
                  refine (hS.call (span_Hull p.1 p.2 _)).mono ?_; rintro e y1 ⟨rfl, hS⟩
                  have lR := lt_of_block (hS.blk (y0.heap.size, .cells #[.int .i64 (sHull (c1, c2) (d1, d2)).1.1, .int .i64 (sHull (c1, c2) (d1, d2)).1.2] 23 (0, 0)) (List.Mem.head _))
                  have cR0 := cell_two0 (hS.blk (y0.heap.size, .cells #[.int .i64 (sHull (c1, c2) (d1, d2)).1.1, .int .i64 (sHull (c1, c2) (d1, d2)).1.2] 23 (0, 0)) (List.Mem.head _))
                  have cR1 := cell_two1 (hS.blk (y0.heap.size, .cells #[.int .i64 (sHull (c1, c2) (d1, d2)).1.1, .int .i64 (sHull (c1, c2) (d1, d2)).1.2] 23 (0, 0)) (List.Mem.head _))
                  go_wp2_with fail
                  clear lR cR0 cR1
                  have gS : w.heap.size ≤ y1.heap.size := hS.bel.size
                  have nSR : y1.heap.size ≠ y0.heap.size := Nat.ne_of_gt (lt_of_block (hS.blk (y0.heap.size, .cells #[.int .i64 (sHull (c1, c2) (d1, d2)).1.1, .int .i64 (sHull (c1, c2) (d1, d2)).1.2] 23 (0, 0)) (List.Mem.head _)))
                  have nSd : y1.heap.size ≠ D := Nat.ne_of_gt (lt_of_block (hS.blk (D, .cells #[.int .i64 d1, .int .i64 d2] 23 (0, 0)) (List.Mem.tail _ (List.Mem.head _))))
                  have nSc : y1.heap.size ≠ C := Nat.ne_of_gt (lt_of_block (hS.blk (C, .cells #[.int .i64 c1, .int .i64 c2] 23 (0, 0)) (List.Mem.tail _ (List.Mem.tail _ (List.Mem.head _)))))
                  have nSb : y1.heap.size ≠ B := Nat.ne_of_gt (lt_of_block (hS.blk (B, .cells #[.int .i64 p.2.1, .int .i64 p.2.2] 23 (0, 0)) (List.Mem.tail _ (List.Mem.tail _ (List.Mem.tail _ (List.Mem.head _))))))
                  have nSa : y1.heap.size ≠ A := Nat.ne_of_gt (lt_of_block (hS.blk (A, .cells #[.int .i64 p.1.1, .int .i64 p.1.2] 23 (0, 0)) (List.Mem.tail _ (List.Mem.tail _ (List.Mem.tail _ (List.Mem.tail _ (List.Mem.head _)))))))
                  have nSP : y1.heap.size ≠ P9 := Nat.ne_of_gt (lt_of_block (hS.blk (P9, .cells #[.int .i64 p.1.1, .int .i64 p.1.2, .int .i64 p.2.1, .int .i64 p.2.2] 29 (0, 0)) (List.Mem.tail _ (List.Mem.tail _ (List.Mem.tail _ (List.Mem.tail _ (List.Mem.tail _ (List.Mem.head _))))))))
                  have nSg : y1.heap.size ≠ g := Nat.ne_of_gt (lt_of_block (hS.blk (g, prObj prs) (List.Mem.tail _ (List.Mem.tail _ (List.Mem.tail _ (List.Mem.tail _ (List.Mem.tail _ (List.Mem.tail _ (List.Mem.head _)))))))))
                  have nSq : y1.heap.size ≠ QK := Nat.ne_of_gt (lt_of_block (hS.blk (QK, .cells #[.int .u64 pq.1, .int .u64 pq.2] 50 (0, 0)) (List.Mem.tail _ (List.Mem.tail _ (List.Mem.tail _ (List.Mem.tail _ (List.Mem.tail _ (List.Mem.tail _ (List.Mem.tail _ (List.Mem.head _))))))))))
                  have nSk : y1.heap.size ≠ PK := Nat.ne_of_gt (lt_of_block (hS.blk (PK, .cells #[.int .u64 pp.1, .int .u64 pp.2] 50 (0, 0)) (List.Mem.tail _ (List.Mem.tail _ (List.Mem.tail _ (List.Mem.tail _ (List.Mem.tail _ (List.Mem.tail _ (List.Mem.tail _ (List.Mem.tail _ (List.Mem.head _)))))))))))
                  replace hS := hS.al (.cells #[.int .i64 (sHull p.1 p.2).1.1, .int .i64 (sHull p.1 p.2).1.2] 23 (0, 0))
                  refine (hS.call (law2_inside (sHull_narrow HAok.out HBok.out HCok.out.1 HDok.out.1 HCok.out.2 HDok.out.2) _)).mono ?_; rintro e y2 ⟨rfl, hS⟩
                  go_wp2_with fail
                  go_roundw
                  case rel => exact ⟨7, by omega, rfl, Lib.hid (hS.sub (by simp))⟩
                  case measure => simp [intOf]
              · obtain rfl : j = 7 := by omega
                have lc := lt_of_block (hS.blk (C, .cells #[.int .i64 c1, .int .i64 c2] 23 (0, 0)) (List.Mem.tail _ (List.Mem.head _)))
                have cc0 := cell_two0 (hS.blk (C, .cells #[.int .i64 c1, .int .i64 c2] 23 (0, 0)) (List.Mem.tail _ (List.Mem.head _)))
                have cc1 := cell_two1 (hS.blk (C, .cells #[.int .i64 c1, .int .i64 c2] 23 (0, 0)) (List.Mem.tail _ (List.Mem.head _)))
                go_wp2_with fail
                clear lc cc0 cc1
                generalize wrap64 ((IntKind.u64.wrap n).tmod 17) = K at *
                refine (hS.call (span_Pow (c1, c2) K _)).mono ?_; rintro e z0 ⟨rfl, hS⟩
                have la := lt_of_block (hS.blk (A, .cells #[.int .i64 p.1.1, .int .i64 p.1.2] 23 (0, 0)) (List.Mem.tail _ (List.Mem.tail _ (List.Mem.tail _ (List.Mem.head _)))))
                have ca0 := cell_two0 (hS.blk (A, .cells #[.int .i64 p.1.1, .int .i64 p.1.2] 23 (0, 0)) (List.Mem.tail _ (List.Mem.tail _ (List.Mem.tail _ (List.Mem.head _)))))
                have ca1 := cell_two1 (hS.blk (A, .cells #[.int .i64 p.1.1, .int .i64 p.1.2] 23 (0, 0)) (List.Mem.tail _ (List.Mem.tail _ (List.Mem.tail _ (List.Mem.head _)))))
                go_wp2_with fail
                clear la ca0 ca1
                have gR : w.heap.size ≤ z0.heap.size := hS.bel.size
                have nRd : z0.heap.size ≠ D := Nat.ne_of_gt (lt_of_block (hS.blk (D, .cells #[.int .i64 d1, .int .i64 d2] 23 (0, 0)) (List.Mem.head _)))
                have nRc : z0.heap.size ≠ C := Nat.ne_of_gt (lt_of_block (hS.blk (C, .cells #[.int .i64 c1, .int .i64 c2] 23 (0, 0)) (List.Mem.tail _ (List.Mem.head _))))
                have nRb : z0.heap.size ≠ B := Nat.ne_of_gt (lt_of_block (hS.blk (B, .cells #[.int .i64 p.2.1, .int .i64 p.2.2] 23 (0, 0)) (List.Mem.tail _ (List.Mem.tail _ (List.Mem.head _)))))
                have nRa : z0.heap.size ≠ A := Nat.ne_of_gt (lt_of_block (hS.blk (A, .cells #[.int .i64 p.1.1, .int .i64 p.1.2] 23 (0, 0)) (List.Mem.tail _ (List.Mem.tail _ (List.Mem.tail _ (List.Mem.head _))))))
                have nRP : z0.heap.size ≠ P9 := Nat.ne_of_gt (lt_of_block (hS.blk (P9, .cells #[.int .i64 p.1.1, .int .i64 p.1.2, .int .i64 p.2.1, .int .i64 p.2.2] 29 (0, 0)) (List.Mem.tail _ (List.Mem.tail _ (List.Mem.tail _ (List.Mem.tail _ (List.Mem.head _)))))))
                have nRg : z0.heap.size ≠ g := Nat.ne_of_gt (lt_of_block (hS.blk (g, prObj prs) (List.Mem.tail _ (List.Mem.tail _ (List.Mem.tail _ (List.Mem.tail _ (List.Mem.tail _ (List.Mem.head _))))))))
                have nRq : z0.heap.size ≠ QK := Nat.ne_of_gt (lt_of_block (hS.blk (QK, .cells #[.int .u64 pq.1, .int .u64 pq.2] 50 (0, 0)) (List.Mem.tail _ (List.Mem.tail _ (List.Mem.tail _ (List.Mem.tail _ (List.Mem.tail _ (List.Mem.tail _ (List.Mem.head _)))))))))
                have nRk : z0.heap.size ≠ PK := Nat.ne_of_gt (lt_of_block (hS.blk (PK, .cells #[.int .u64 pp.1, .int .u64 pp.2] 50 (0, 0)) (List.Mem.tail _ (List.Mem.tail _ (List.Mem.tail _ (List.Mem.tail _ (List.Mem.tail _ (List.Mem.tail _ (List.Mem.tail _ (List.Mem.head _))))))))))
                replace hS := hS.al (.cells #[.int .i64 (sPow (c1, c2) K).1.1, .int .i64 (sPow (c1, c2) K).1.2] 23 (0, 0))
                refine (hS.call (span_Pow p.1 K _)).mono ?_; rintro e z1 ⟨rfl, hS⟩
                have lR := lt_of_block (hS.blk (z0.heap.size, .cells #[.int .i64 (sPow (c1, c2) K).1.1, .int .i64 (sPow (c1, c2) K).1.2] 23 (0, 0)) (List.Mem.head _))
                have cR0 := cell_two0 (hS.blk (z0.heap.size, .cells #[.int .i64 (sPow (c1, c2) K).1.1, .int .i64 (sPow (c1, c2) K).1.2] 23 (0, 0)) (List.Mem.head _))
                have cR1 := cell_two1 (hS.blk (z0.heap.size, .cells #[.int .i64 (sPow (c1, c2) K).1.1, .int .i64 (sPow (c1, c2) K).1.2] 23 (0, 0)) (List.Mem.head _))
                go_wp2_with fail
                clear lR cR0 cR1
                have gS : w.heap.size ≤ z1.heap.size := hS.bel.size
                have nSR : z1.heap.size ≠ z0.heap.size := Nat.ne_of_gt (lt_of_block (hS.blk (z0.heap.size, .cells #[.int .i64 (sPow (c1, c2) K).1.1, .int .i64 (sPow (c1, c2) K).1.2] 23 (0, 0)) (List.Mem.head _)))
                have nSd : z1.heap.size ≠ D := Nat.ne_of_gt (lt_of_block (hS.blk (D, .cells #[.int .i64 d1, .int .i64 d2] 23 (0, 0)) (List.Mem.tail _ (List.Mem.head _))))
                have nSc : z1.heap.size ≠ C := Nat.ne_of_gt (lt_of_block (hS.blk (C, .cells #[.int .i64 c1, .int .i64 c2] 23 (0, 0)) (List.Mem.tail _ (List.Mem.tail _ (List.Mem.head _)))))
                have nSb : z1.heap.size ≠ B := Nat.ne_of_gt (lt_of_block (hS.blk (B, .cells #[.int .i64 p.2.1, .int .i64 p.2.2] 23 (0, 0)) (List.Mem.tail _ (List.Mem.tail _ (List.Mem.tail _ (List.Mem.head _))))))
                have nSa : z1.heap.size ≠ A := Nat.ne_of_gt (lt_of_block (hS.blk (A, .cells #[.int .i64 p.1.1, .int .i64 p.1.2] 23 (0, 0)) (List.Mem.tail _ (List.Mem.tail _ (List.Mem.tail _ (List.Mem.tail _ (List.Mem.head _)))))))
                have nSP : z1.heap.size ≠ P9 := Nat.ne_of_gt (lt_of_block (hS.blk (P9, .cells #[.int .i64 p.1.1, .int .i64 p.1.2, .int .i64 p.2.1, .int .i64 p.2.2] 29 (0, 0)) (List.Mem.tail _ (List.Mem.tail _ (List.Mem.tail _ (List.Mem.tail _ (List.Mem.tail _ (List.Mem.head _))))))))
                have nSg : z1.heap.size ≠ g := Nat.ne_of_gt (lt_of_block (hS.blk (g, prObj prs) (List.Mem.tail _ (List.Mem.tail _ (List.Mem.tail _ (List.Mem.tail _ (List.Mem.tail _ (List.Mem.tail _ (List.Mem.head _)))))))))
                have nSq : z1.heap.size ≠ QK := Nat.ne_of_gt (lt_of_block (hS.blk (QK, .cells #[.int .u64 pq.1, .int .u64 pq.2] 50 (0, 0)) (List.Mem.tail _ (List.Mem.tail _ (List.Mem.tail _ (List.Mem.tail _ (List.Mem.tail _ (List.Mem.tail _ (List.Mem.tail _ (List.Mem.head _))))))))))
                have nSk : z1.heap.size ≠ PK := Nat.ne_of_gt (lt_of_block (hS.blk (PK, .cells #[.int .u64 pp.1, .int .u64 pp.2] 50 (0, 0)) (List.Mem.tail _ (List.Mem.tail _ (List.Mem.tail _ (List.Mem.tail _ (List.Mem.tail _ (List.Mem.tail _ (List.Mem.tail _ (List.Mem.tail _ (List.Mem.head _)))))))))))
                replace hS := hS.al (.cells #[.int .i64 (sPow p.1 K).1.1, .int .i64 (sPow p.1 K).1.2] 23 (0, 0))
                refine (hS.call (law2_inside (sPow_narrow HAok.out HCok.out.1 HCok.out.2 K) _)).mono ?_; rintro e z2 ⟨rfl, hS⟩
                have lc := lt_of_block (hS.blk (C, .cells #[.int .i64 c1, .int .i64 c2] 23 (0, 0)) (List.Mem.tail _ (List.Mem.tail _ (List.Mem.tail _ (List.Mem.head _)))))
                have cc0 := cell_two0 (hS.blk (C, .cells #[.int .i64 c1, .int .i64 c2] 23 (0, 0)) (List.Mem.tail _ (List.Mem.tail _ (List.Mem.tail _ (List.Mem.head _)))))
                have cc1 := cell_two1 (hS.blk (C, .cells #[.int .i64 c1, .int .i64 c2] 23 (0, 0)) (List.Mem.tail _ (List.Mem.tail _ (List.Mem.tail _ (List.Mem.head _)))))
                go_wp2_with fail
                clear lc cc0 cc1
                refine (hS.call (span_Abs (c1, c2) _)).mono ?_; rintro e z3 ⟨rfl, hS⟩
                have lR := lt_of_block (hS.blk (z0.heap.size, .cells #[.int .i64 (sPow (c1, c2) K).1.1, .int .i64 (sPow (c1, c2) K).1.2] 23 (0, 0)) (List.Mem.tail _ (List.Mem.head _)))
                have cR0 := cell_two0 (hS.blk (z0.heap.size, .cells #[.int .i64 (sPow (c1, c2) K).1.1, .int .i64 (sPow (c1, c2) K).1.2] 23 (0, 0)) (List.Mem.tail _ (List.Mem.head _)))
                have cR1 := cell_two1 (hS.blk (z0.heap.size, .cells #[.int .i64 (sPow (c1, c2) K).1.1, .int .i64 (sPow (c1, c2) K).1.2] 23 (0, 0)) (List.Mem.tail _ (List.Mem.head _)))
                have la := lt_of_block (hS.blk (A, .cells #[.int .i64 p.1.1, .int .i64 p.1.2] 23 (0, 0)) (List.Mem.tail _ (List.Mem.tail _ (List.Mem.tail _ (List.Mem.tail _ (List.Mem.tail _ (List.Mem.head _)))))))
                have ca0 := cell_two0 (hS.blk (A, .cells #[.int .i64 p.1.1, .int .i64 p.1.2] 23 (0, 0)) (List.Mem.tail _ (List.Mem.tail _ (List.Mem.tail _ (List.Mem.tail _ (List.Mem.tail _ (List.Mem.head _)))))))
                have ca1 := cell_two1 (hS.blk (A, .cells #[.int .i64 p.1.1, .int .i64 p.1.2] 23 (0, 0)) (List.Mem.tail _ (List.Mem.tail _ (List.Mem.tail _ (List.Mem.tail _ (List.Mem.tail _ (List.Mem.head _)))))))
                have fR0 := free_two (i := 0) (hS.blk (z0.heap.size, .cells #[.int .i64 (sPow (c1, c2) K).1.1, .int .i64 (sPow (c1, c2) K).1.2] 23 (0, 0)) (List.Mem.tail _ (List.Mem.head _)))
                have fR1 := free_two (i := 1) (hS.blk (z0.heap.size, .cells #[.int .i64 (sPow (c1, c2) K).1.1, .int .i64 (sPow (c1, c2) K).1.2] 23 (0, 0)) (List.Mem.tail _ (List.Mem.head _)))
                have q0 := nRa
                have r0 := (Ne.symm nRa)
                go_wp2_with fail
                clear lR cR0 cR1 la ca0 ca1 fR0 fR1 q0 r0
                replace hS := hS.st (u := .int .i64 (sAbs (c1, c2)).1.1) (v := .int .i64 (sAbs (c1, c2)).1.2) (List.Mem.tail _ (List.Mem.head _)) gR (List.forall_mem_cons.2 ⟨⟨(List.Mem.head _), nSR⟩, (List.forall_mem_cons.2 ⟨⟨(List.Mem.tail _ (List.Mem.tail _ (List.Mem.head _))), (Ne.symm nRd)⟩, (List.forall_mem_cons.2 ⟨⟨(List.Mem.tail _ (List.Mem.tail _ (List.Mem.tail _ (List.Mem.head _)))), (Ne.symm nRc)⟩, (List.forall_mem_cons.2 ⟨⟨(List.Mem.tail _ (List.Mem.tail _ (List.Mem.tail _ (List.Mem.tail _ (List.Mem.head _))))), (Ne.symm nRb)⟩, (List.forall_mem_cons.2 ⟨⟨(List.Mem.tail _ (List.Mem.tail _ (List.Mem.tail _ (List.Mem.tail _ (List.Mem.tail _ (List.Mem.head _)))))), (Ne.symm nRa)⟩, (List.forall_mem_cons.2 ⟨⟨(List.Mem.tail _ (List.Mem.tail _ (List.Mem.tail _ (List.Mem.tail _ (List.Mem.tail _ (List.Mem.tail _ (List.Mem.head _))))))), (Ne.symm nRP)⟩, (List.forall_mem_cons.2 ⟨⟨(List.Mem.tail _ (List.Mem.tail _ (List.Mem.tail _ (List.Mem.tail _ (List.Mem.tail _ (List.Mem.tail _ (List.Mem.tail _ (List.Mem.head _)))))))), (Ne.symm nRg)⟩, (List.forall_mem_cons.2 ⟨⟨(List.Mem.tail _ (List.Mem.tail _ (List.Mem.tail _ (List.Mem.tail _ (List.Mem.tail _ (List.Mem.tail _ (List.Mem.tail _ (List.Mem.tail _ (List.Mem.head _))))))))), (Ne.symm nRq)⟩, (List.forall_mem_cons.2 ⟨⟨(List.Mem.tail _ (List.Mem.tail _ (List.Mem.tail _ (List.Mem.tail _ (List.Mem.tail _ (List.Mem.tail _ (List.Mem.tail _ (List.Mem.tail _ (List.Mem.tail _ (List.Mem.head _)))))))))), (Ne.symm nRk)⟩, (List.forall_mem_nil _)⟩)⟩)⟩)⟩)⟩)⟩)⟩)⟩)⟩)
                refine (hS.call (span_Abs p.1 _)).mono ?_; rintro e z4 ⟨rfl, hS⟩
                have lS := lt_of_block (hS.blk (z1.heap.size, .cells #[.int .i64 (sPow p.1 K).1.1, .int .i64 (sPow p.1 K).1.2] 23 (0, 0)) (List.Mem.tail _ (List.Mem.head _)))
                have cS0 := cell_two0 (hS.blk (z1.heap.size, .cells #[.int .i64 (sPow p.1 K).1.1, .int .i64 (sPow p.1 K).1.2] 23 (0, 0)) (List.Mem.tail _ (List.Mem.head _)))
                have cS1 := cell_two1 (hS.blk (z1.heap.size, .cells #[.int .i64 (sPow p.1 K).1.1, .int .i64 (sPow p.1 K).1.2] 23 (0, 0)) (List.Mem.tail _ (List.Mem.head _)))
                have lR := lt_of_block (hS.blk (z0.heap.size, .cells #[.int .i64 (sAbs (c1, c2)).1.1, .int .i64 (sAbs (c1, c2)).1.2] 23 (0, 0)) (List.Mem.head _))
                have cR0 := cell_two0 (hS.blk (z0.heap.size, .cells #[.int .i64 (sAbs (c1, c2)).1.1, .int .i64 (sAbs (c1, c2)).1.2] 23 (0, 0)) (List.Mem.head _))
                have cR1 := cell_two1 (hS.blk (z0.heap.size, .cells #[.int .i64 (sAbs (c1, c2)).1.1, .int .i64 (sAbs (c1, c2)).1.2] 23 (0, 0)) (List.Mem.head _))
                have fS0 := free_two (i := 0) (hS.blk (z1.heap.size, .cells #[.int .i64 (sPow p.1 K).1.1, .int .i64 (sPow p.1 K).1.2] 23 (0, 0)) (List.Mem.tail _ (List.Mem.head _)))
                have fS1 := free_two (i := 1) (hS.blk (z1.heap.size, .cells #[.int .i64 (sPow p.1 K).1.1, .int .i64 (sPow p.1 K).1.2] 23 (0, 0)) (List.Mem.tail _ (List.Mem.head _)))
                have q0 := nSR
                have r0 := (Ne.symm nSR)
                go_wp2_with fail
                clear lS cS0 cS1 lR cR0 cR1 fS0 fS1 q0 r0
                replace hS := hS.st (u := .int .i64 (sAbs p.1).1.1) (v := .int .i64 (sAbs p.1).1.2) (List.Mem.tail _ (List.Mem.head _)) gS (List.forall_mem_cons.2 ⟨⟨(List.Mem.head _), (Ne.symm nSR)⟩, (List.forall_mem_cons.2 ⟨⟨(List.Mem.tail _ (List.Mem.tail _ (List.Mem.head _))), (Ne.symm nSd)⟩, (List.forall_mem_cons.2 ⟨⟨(List.Mem.tail _ (List.Mem.tail _ (List.Mem.tail _ (List.Mem.head _)))), (Ne.symm nSc)⟩, (List.forall_mem_cons.2 ⟨⟨(List.Mem.tail _ (List.Mem.tail _ (List.Mem.tail _ (List.Mem.tail _ (List.Mem.head _))))), (Ne.symm nSb)⟩, (List.forall_mem_cons.2 ⟨⟨(List.Mem.tail _ (List.Mem.tail _ (List.Mem.tail _ (List.Mem.tail _ (List.Mem.tail _ (List.Mem.head _)))))), (Ne.symm nSa)⟩, (List.forall_mem_cons.2 ⟨⟨(List.Mem.tail _ (List.Mem.tail _ (List.Mem.tail _ (List.Mem.tail _ (List.Mem.tail _ (List.Mem.tail _ (List.Mem.head _))))))), (Ne.symm nSP)⟩, (List.forall_mem_cons.2 ⟨⟨(List.Mem.tail _ (List.Mem.tail _ (List.Mem.tail _ (List.Mem.tail _ (List.Mem.tail _ (List.Mem.tail _ (List.Mem.tail _ (List.Mem.head _)))))))), (Ne.symm nSg)⟩, (List.forall_mem_cons.2 ⟨⟨(List.Mem.tail _ (List.Mem.tail _ (List.Mem.tail _ (List.Mem.tail _ (List.Mem.tail _ (List.Mem.tail _ (List.Mem.tail _ (List.Mem.tail _ (List.Mem.head _))))))))), (Ne.symm nSq)⟩, (List.forall_mem_cons.2 ⟨⟨(List.Mem.tail _ (List.Mem.tail _ (List.Mem.tail _ (List.Mem.tail _ (List.Mem.tail _ (List.Mem.tail _ (List.Mem.tail _ (List.Mem.tail _ (List.Mem.tail _ (List.Mem.head _)))))))))), (Ne.symm nSk)⟩, (List.forall_mem_nil _)⟩)⟩)⟩)⟩)⟩)⟩)⟩)⟩)⟩)
                refine (hS.call (law2_inside (sAbs_narrow HAok.out HCok.out.1 HCok.out.2) _)).mono ?_; rintro e z5 ⟨rfl, hS⟩
                go_wp2_with fail
                go_roundw
                case rel => exact ⟨k + 1, by omega, by go_num, Lib.hid (hS.sub (by simp))⟩
                case measure => simp [intOf]; omega
    · obtain rfl : k = 3 := by omega
      go_wp2_with fail
      go_ret
      exact ⟨rfl, HA.out.bel⟩
end Go.Proofs.YtjphhdfkkkdppaaDoor
