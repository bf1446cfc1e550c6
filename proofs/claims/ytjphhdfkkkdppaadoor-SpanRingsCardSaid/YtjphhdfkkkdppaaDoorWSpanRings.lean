/- The walk of monoclelaw02.SpanRings. Printed by a generator. -/
import Derived.Deep.DeepCutAuto
import Derived.Test.YtjphhdfkkkdppaaDoorLawT
import Derived.Test.YtjphhdfkkkdppaaDoorRefSE
namespace Go.Proofs.YtjphhdfkkkdppaaDoor
open Go.RowKit Mnc
attribute [local go_sem] RunS_value RunS_skip RunS_enter evS_tmp evS_const evS_global evS_func

structure RgA (W : World) (P : Nat) (p : (Int × Int) × (Int × Int)) (L : Nat → Bool) (s : Nat → Value) (w : World) : Prop where
  bel : Below W.heap.size W w
  e0 : L 0 = true → s 33 = .pointer (some ⟨P, 0, none⟩)
  e1 : L 1 = true → s 34 = .agg #[.int .i64 p.1.1, .int .i64 p.1.2]
  e2 : L 2 = true → s 35 = .pointer (some ⟨P, 2, none⟩)
  e3 : L 3 = true → s 36 = .agg #[.int .i64 p.2.1, .int .i64 p.2.2]
  e4 : L 4 = true → Bx w W.heap.size (s 5) (L 6 = true) p.1
  e5 : L 5 = true → Bx w W.heap.size (s 6) (L 7 = true) p.2
  ne : L 4 = true → L 5 = true → s 5 ≠ s 6
  d6 : L 6 = true → L 4 = true
  d7 : L 7 = true → L 5 = true

set_option maxRecDepth 100000 in
set_option maxHeartbeats 8000000 in
theorem law2_SpanRings (T : Tw) (hT : T.ok) (w : World) (hP : Pows w) :
    Calls Tryd.prog 8 #[T.val] w fun e w' => e = .returned (.bool true) ∧ Below w.heap.size w w' := by
  have HP := Lib.hid (hP.below (below_alloc (Below.refl _ _) T.obj))
  have HT := Lib.hid hT
  clear hP hT
  have hS := (Kn.start w).al T.obj
  unfold Tw.val
  go_enter Tryd.func8, Tryd.ntmps8
  go_wp2_with fail
  refine (hS.call (law2_works _ HP.out)).mono ?_; rintro e w1 ⟨rfl, hS⟩
  obtain ⟨k0, k1, k2, k3, k4, k5, k6, k7, k8, k9⟩ := tw_all (hS.blk (w.heap.size, T.obj) (by simp))
  go_wp2_with fail
  refine (hS.pairs T HT.out).mono ?_; rintro e w2 ⟨g, rfl, hS⟩
  have HS := Lib.hid (hS.sub (cs := [(g, prObj (prsOf T))]) (by simp))
  have HL := Lib.hid (show (prsOf T).length = 5 from rfl)
  clear hS k0 k1 k2 k3 k4 k5 k6 k7 k8 k9 HP
  generalize prsOf T = prs at *
  go_wp2_with fail
  go_loopw [29] (fun i wr => ∃ k : Nat, k ≤ 5 ∧ i = .int .i64 k ∧ Hid (Kn w wr [(g, prObj prs)])) (fun i _ => 5 - (intOf i).toNat)
  case atStart => exact ⟨0, by omega, rfl, HS⟩
  case round =>
    clear HS
    obtain ⟨k, hk, rfl, HA⟩ := hrel
    rcases Nat.lt_or_ge k 5 with hk' | hk'
    · obtain ⟨p, hp⟩ : ∃ p, prs[k]? = some p := ⟨_, List.getElem?_eq_getElem (by rw [HL.out]; exact hk')⟩
      obtain ⟨c0, c1, c2, c3⟩ := pr_cells (HA.out.blk (g, prObj prs) (by simp)) hp
      have HPk := Lib.hid hp
      have hS := HA.out
      clear hp
      have HK := Lib.hid (hS.al (.cells #[.int .i64 p.1.1, .int .i64 p.1.2, .int .i64 p.2.1, .int .i64 p.2.2] 29 (0, 0)))
      clear hS
      go_upto_region 6 with (fail)
      clear c0 c1 c2 c3
      have HPB := Lib.hid (HK.out.blk (wr.heap.size, .cells #[.int .i64 p.1.1, .int .i64 p.1.2, .int .i64 p.2.1, .int .i64 p.2.2] 29 (0, 0)) (List.Mem.head _))
      obtain ⟨W9, hW9⟩ : ∃ W9, W9 = wr.alloc (.cells #[.int .i64 p.1.1, .int .i64 p.1.2, .int .i64 p.2.1, .int .i64 p.2.2] 29 (0, 0)) := ⟨_, rfl⟩
      obtain ⟨P9, hP9⟩ : ∃ P9, P9 = wr.heap.size := ⟨_, rfl⟩
      rw [← hW9] at HK HPB ⊢
      rw [← hP9] at HK HPB ⊢
      clear hW9 hP9
      go_cut [5, 6] (fun a b wx => ∃ A B : Nat, a = .pointer (some ⟨A, 0, none⟩) ∧ b = .pointer (some ⟨B, 0, none⟩) ∧ Hid (Kn w wx [(B, .cells #[.int .i64 p.2.1, .int .i64 p.2.2] 23 (0, 0)), (A, .cells #[.int .i64 p.1.1, .int .i64 p.1.2] 23 (0, 0)), (P9, .cells #[.int .i64 p.1.1, .int .i64 p.1.2, .int .i64 p.2.1, .int .i64 p.2.2] 29 (0, 0)), (g, prObj prs)]))
      case first =>
        refine wp_region_inv (RgA W9 P9 p) (by kernel_rfl) (by kernel_rfl) ?_ ?_ ?_
        · exact ⟨(Below.refl _ _).drew, fun h => absurd h Bool.false_ne_true, fun h => absurd h Bool.false_ne_true, fun h => absurd h Bool.false_ne_true, fun h => absurd h Bool.false_ne_true, fun h => absurd h Bool.false_ne_true, fun h => absurd h Bool.false_ne_true, fun h => absurd h Bool.false_ne_true, fun h => absurd h Bool.false_ne_true, fun h => absurd h Bool.false_ne_true⟩
        · refine AllS.cons ?_ (AllS.cons ?_ (AllS.cons ?_ (AllS.cons ?_ (AllS.cons ?_ (AllS.cons ?_ (AllS.cons ?_ (AllS.cons ?_ AllS.nil)))))))
          · intro L s w2 h hk hd hn
            have s4 : s 4 = _ := hk 4 (by kernel_rfl)
            refine stepS rfl fun K hK => ?_
            go_simp
            exact hK _ _ { h with e0 := fun _ => rfl }
          · intro L s w2 h hk hd hn
            have s33 := h.e0 hd.1
            obtain ⟨c0, c1, c2, c3⟩ := cell_four ((h.bel.block _ (lt_of_block HPB.out)).trans HPB.out)
            refine stepS rfl fun K hK => ?_
            go_simp
            exact hK _ _ { h with e1 := fun _ => rfl }
          · intro L s w2 h hk hd hn
            have s4 : s 4 = _ := hk 4 (by kernel_rfl)
            refine stepS rfl fun K hK => ?_
            go_simp
            exact hK _ _ { h with e2 := fun _ => rfl }
          · intro L s w2 h hk hd hn
            have s35 := h.e2 hd.1
            obtain ⟨c0, c1, c2, c3⟩ := cell_four ((h.bel.block _ (lt_of_block HPB.out)).trans HPB.out)
            refine stepS rfl fun K hK => ?_
            go_simp
            exact hK _ _ { h with e3 := fun _ => rfl }
          · intro L s w2 h hk hd hn
            refine stepS rfl fun K hK => ?_
            go_simp
            exact hK _ _ { h with bel := below_alloc h.bel _, e4 := fun _ => Bx.new h.bel.size (fun g => by rw [h.d6 g] at hn; cases hn), e5 := fun d => (h.e5 d).al _, ne := fun _ d => fun g => (h.e5 d).lt g.symm, d6 := fun _ => rfl }
          · intro L s w2 h hk hd hn
            refine stepS rfl fun K hK => ?_
            go_simp
            exact hK _ _ { h with bel := below_alloc h.bel _, e5 := fun _ => Bx.new h.bel.size (fun g => by rw [h.d7 g] at hn; cases hn), e4 := fun d => (h.e4 d).al _, ne := fun d _ => (h.e4 d).lt, d7 := fun _ => rfl }
          · intro L s w2 h hk hd hn
            obtain ⟨g, s5, hg, u, hu, -⟩ := h.e4 hd.1
            have s34 := h.e1 hd.2.1
            have c0 := cell_two0 hu
            have c1 := cell_two1 hu
            have f0 := free_two (i := 0) hu
            have f1 := free_two (i := 1) hu
            have l := lt_of_block hu
            refine stepS rfl fun K hK => ?_
            go_simp
            exact hK _ _ { h with bel := below_set2 h.bel hg _ _, e4 := fun _ => ⟨g, s5, hg, _, bx_set2 hu, fun _ => rfl⟩, e5 := fun d => (h.e5 d).set (by rw [← s5]; exact (h.ne hd.1 d).symm), d6 := fun _ => hd.1 }
          · intro L s w2 h hk hd hn
            obtain ⟨g, s6, hg, u, hu, -⟩ := h.e5 hd.1
            have s36 := h.e3 hd.2.1
            have c0 := cell_two0 hu
            have c1 := cell_two1 hu
            have f0 := free_two (i := 0) hu
            have f1 := free_two (i := 1) hu
            have l := lt_of_block hu
            refine stepS rfl fun K hK => ?_
            go_simp
            exact hK _ _ { h with bel := below_set2 h.bel hg _ _, e5 := fun _ => ⟨g, s6, hg, _, bx_set2 hu, fun _ => rfl⟩, e4 := fun d => (h.e4 d).set (by rw [← s6]; exact h.ne d hd.1), d7 := fun _ => hd.1 }
        · intro L s w2 h hk hl
          obtain ⟨ga, sa, ha1, ua, ha2, za⟩ := h.e4 (hl 4 (by decide))
          obtain rfl := za (hl 6 (by decide))
          obtain ⟨gb, sb, hb1, ub, hb2, zb⟩ := h.e5 (hl 5 (by decide))
          obtain rfl := zb (hl 7 (by decide))
          rename_i J K' hR hM
          refine hM _ _ (Met.intro (hR _ _ ?_))
          repeat apply Exists.intro
          refine ⟨⟨ga, gb, sa, sb, Lib.hid ⟨(HK.out.on h.bel).bel, fun q hq => by
          rcases List.mem_cons.1 hq with rfl | hq
          · exact hb2
          rcases List.mem_cons.1 hq with rfl | hq
          · exact ha2
          exact (HK.out.on h.bel).blk q hq⟩⟩, ?_⟩
          refine congrArg (fun l => (⟨List.toArray l, []⟩ : Act)) ?_
          show [s 0, s 1, s 2, s 3, s 4, s 5, s 6, s 7, s 8, s 9, s 10, s 11, s 12, s 13, s 14, s 15, s 16, s 17, s 18, s 19, s 20, s 21, s 22, s 23, s 24, s 25, s 26, s 27, s 28, s 29, s 30, s 31, s 32, s 33, s 34, s 35, s 36, s 37, s 38, s 39, s 40, s 41, s 42, s 43, s 44, s 45, s 46, s 47, s 48, s 49, s 50, s 51, s 52, s 53, s 54, s 55, s 56, s 57, s 58, s 59, s 60, s 61, s 62, s 63, s 64, s 65, s 66, s 67, s 68, s 69, s 70, s 71, s 72, s 73, s 74, s 75, s 76, s 77, s 78, s 79, s 80, s 81, s 82, s 83, s 84, s 85, s 86, s 87, s 88, s 89, s 90, s 91, s 92, s 93, s 94, s 95, s 96, s 97, s 98, s 99, s 100, s 101, s 102, s 103, s 104, s 105, s 106, s 107, s 108, s 109, s 110, s 111, s 112, s 113, s 114, s 115, s 116, s 117, s 118, s 119, s 120, s 121, s 122, s 123, s 124, s 125, s 126, s 127, s 128, s 129, s 130, s 131, s 132, s 133, s 134, s 135, s 136, s 137, s 138, s 139, s 140, s 141, s 142, s 143, s 144, s 145, s 146, s 147, s 148, s 149, s 150, s 151, s 152, s 153, s 154, s 155, s 156, s 157, s 158, s 159, s 160, s 161, s 162, s 163, s 164, s 165, s 166, s 167, s 168, s 169, s 170, s 171, s 172] = _
          exact lc (hk 0 (by kernel_rfl)) (lc (hk 1 (by kernel_rfl)) (lc (hk 2 (by kernel_rfl)) (lc (hk 3 (by kernel_rfl)) (lc (hk 4 (by kernel_rfl)) (lc rfl (lc rfl (lc (hk 7 (by kernel_rfl)) (lc (hk 8 (by kernel_rfl)) (lc (hk 9 (by kernel_rfl)) (lc (hk 10 (by kernel_rfl)) (lc (hk 11 (by kernel_rfl)) (lc (hk 12 (by kernel_rfl)) (lc (hk 13 (by kernel_rfl)) (lc (hk 14 (by kernel_rfl)) (lc (hk 15 (by kernel_rfl)) (lc (hk 16 (by kernel_rfl)) (lc (hk 17 (by kernel_rfl)) (lc (hk 18 (by kernel_rfl)) (lc (hk 19 (by kernel_rfl)) (lc (hk 20 (by kernel_rfl)) (lc (hk 21 (by kernel_rfl)) (lc (hk 22 (by kernel_rfl)) (lc (hk 23 (by kernel_rfl)) (lc (hk 24 (by kernel_rfl)) (lc (hk 25 (by kernel_rfl)) (lc (hk 26 (by kernel_rfl)) (lc (hk 27 (by kernel_rfl)) (lc (hk 28 (by kernel_rfl)) (lc (hk 29 (by kernel_rfl)) (lc (hk 30 (by kernel_rfl)) (lc (hk 31 (by kernel_rfl)) (lc (hk 32 (by kernel_rfl)) (lc rfl (lc rfl (lc rfl (lc rfl (lc (hk 37 (by kernel_rfl)) (lc (hk 38 (by kernel_rfl)) (lc (hk 39 (by kernel_rfl)) (lc (hk 40 (by kernel_rfl)) (lc (hk 41 (by kernel_rfl)) (lc (hk 42 (by kernel_rfl)) (lc (hk 43 (by kernel_rfl)) (lc (hk 44 (by kernel_rfl)) (lc (hk 45 (by kernel_rfl)) (lc (hk 46 (by kernel_rfl)) (lc (hk 47 (by kernel_rfl)) (lc (hk 48 (by kernel_rfl)) (lc (hk 49 (by kernel_rfl)) (lc (hk 50 (by kernel_rfl)) (lc (hk 51 (by kernel_rfl)) (lc (hk 52 (by kernel_rfl)) (lc (hk 53 (by kernel_rfl)) (lc (hk 54 (by kernel_rfl)) (lc (hk 55 (by kernel_rfl)) (lc (hk 56 (by kernel_rfl)) (lc (hk 57 (by kernel_rfl)) (lc (hk 58 (by kernel_rfl)) (lc (hk 59 (by kernel_rfl)) (lc (hk 60 (by kernel_rfl)) (lc (hk 61 (by kernel_rfl)) (lc (hk 62 (by kernel_rfl)) (lc (hk 63 (by kernel_rfl)) (lc (hk 64 (by kernel_rfl)) (lc (hk 65 (by kernel_rfl)) (lc (hk 66 (by kernel_rfl)) (lc (hk 67 (by kernel_rfl)) (lc (hk 68 (by kernel_rfl)) (lc (hk 69 (by kernel_rfl)) (lc (hk 70 (by kernel_rfl)) (lc (hk 71 (by kernel_rfl)) (lc (hk 72 (by kernel_rfl)) (lc (hk 73 (by kernel_rfl)) (lc (hk 74 (by kernel_rfl)) (lc (hk 75 (by kernel_rfl)) (lc (hk 76 (by kernel_rfl)) (lc (hk 77 (by kernel_rfl)) (lc (hk 78 (by kernel_rfl)) (lc (hk 79 (by kernel_rfl)) (lc (hk 80 (by kernel_rfl)) (lc (hk 81 (by kernel_rfl)) (lc (hk 82 (by kernel_rfl)) (lc (hk 83 (by kernel_rfl)) (lc (hk 84 (by kernel_rfl)) (lc (hk 85 (by kernel_rfl)) (lc (hk 86 (by kernel_rfl)) (lc (hk 87 (by kernel_rfl)) (lc (hk 88 (by kernel_rfl)) (lc (hk 89 (by kernel_rfl)) (lc (hk 90 (by kernel_rfl)) (lc (hk 91 (by kernel_rfl)) (lc (hk 92 (by kernel_rfl)) (lc (hk 93 (by kernel_rfl)) (lc (hk 94 (by kernel_rfl)) (lc (hk 95 (by kernel_rfl)) (lc (hk 96 (by kernel_rfl)) (lc (hk 97 (by kernel_rfl)) (lc (hk 98 (by kernel_rfl)) (lc (hk 99 (by kernel_rfl)) (lc (hk 100 (by kernel_rfl)) (lc (hk 101 (by kernel_rfl)) (lc (hk 102 (by kernel_rfl)) (lc (hk 103 (by kernel_rfl)) (lc (hk 104 (by kernel_rfl)) (lc (hk 105 (by kernel_rfl)) (lc (hk 106 (by kernel_rfl)) (lc (hk 107 (by kernel_rfl)) (lc (hk 108 (by kernel_rfl)) (lc (hk 109 (by kernel_rfl)) (lc (hk 110 (by kernel_rfl)) (lc (hk 111 (by kernel_rfl)) (lc (hk 112 (by kernel_rfl)) (lc (hk 113 (by kernel_rfl)) (lc (hk 114 (by kernel_rfl)) (lc (hk 115 (by kernel_rfl)) (lc (hk 116 (by kernel_rfl)) (lc (hk 117 (by kernel_rfl)) (lc (hk 118 (by kernel_rfl)) (lc (hk 119 (by kernel_rfl)) (lc (hk 120 (by kernel_rfl)) (lc (hk 121 (by kernel_rfl)) (lc (hk 122 (by kernel_rfl)) (lc (hk 123 (by kernel_rfl)) (lc (hk 124 (by kernel_rfl)) (lc (hk 125 (by kernel_rfl)) (lc (hk 126 (by kernel_rfl)) (lc (hk 127 (by kernel_rfl)) (lc (hk 128 (by kernel_rfl)) (lc (hk 129 (by kernel_rfl)) (lc (hk 130 (by kernel_rfl)) (lc (hk 131 (by kernel_rfl)) (lc (hk 132 (by kernel_rfl)) (lc (hk 133 (by kernel_rfl)) (lc (hk 134 (by kernel_rfl)) (lc (hk 135 (by kernel_rfl)) (lc (hk 136 (by kernel_rfl)) (lc (hk 137 (by kernel_rfl)) (lc (hk 138 (by kernel_rfl)) (lc (hk 139 (by kernel_rfl)) (lc (hk 140 (by kernel_rfl)) (lc (hk 141 (by kernel_rfl)) (lc (hk 142 (by kernel_rfl)) (lc (hk 143 (by kernel_rfl)) (lc (hk 144 (by kernel_rfl)) (lc (hk 145 (by kernel_rfl)) (lc (hk 146 (by kernel_rfl)) (lc (hk 147 (by kernel_rfl)) (lc (hk 148 (by kernel_rfl)) (lc (hk 149 (by kernel_rfl)) (lc (hk 150 (by kernel_rfl)) (lc (hk 151 (by kernel_rfl)) (lc (hk 152 (by kernel_rfl)) (lc (hk 153 (by kernel_rfl)) (lc (hk 154 (by kernel_rfl)) (lc (hk 155 (by kernel_rfl)) (lc (hk 156 (by kernel_rfl)) (lc (hk 157 (by kernel_rfl)) (lc (hk 158 (by kernel_rfl)) (lc (hk 159 (by kernel_rfl)) (lc (hk 160 (by kernel_rfl)) (lc (hk 161 (by kernel_rfl)) (lc (hk 162 (by kernel_rfl)) (lc (hk 163 (by kernel_rfl)) (lc (hk 164 (by kernel_rfl)) (lc (hk 165 (by kernel_rfl)) (lc (hk 166 (by kernel_rfl)) (lc (hk 167 (by kernel_rfl)) (lc (hk 168 (by kernel_rfl)) (lc (hk 169 (by kernel_rfl)) (lc (hk 170 (by kernel_rfl)) (lc (hk 171 (by kernel_rfl)) (lc (hk 172 (by kernel_rfl)) rfl))))))))))))))))))))))))))))))))))))))))))))))))))))))))))))))))))))))))))))))))))))))))))))))))))))))))))))))))))))))))))))))))))))))))))))))))))))))))))))))))))))))))))))

      case rest =>
        clear HK HPB
        obtain ⟨A, B, rfl, rfl, HC⟩ := hcut
        have hS := HC.out
        by_cases ha : okS p.1
        · by_cases hb : okS p.2
          · have HAok := Lib.hid ha
            have HBok := Lib.hid hb
            clear ha hb
            have la := lt_of_block (hS.blk (A, .cells #[.int .i64 p.1.1, .int .i64 p.1.2] 23 (0, 0)) (List.Mem.tail _ (List.Mem.head _)))
            have ca0 := cell_two0 (hS.blk (A, .cells #[.int .i64 p.1.1, .int .i64 p.1.2] 23 (0, 0)) (List.Mem.tail _ (List.Mem.head _)))
            have ca1 := cell_two1 (hS.blk (A, .cells #[.int .i64 p.1.1, .int .i64 p.1.2] 23 (0, 0)) (List.Mem.tail _ (List.Mem.head _)))
            have lb := lt_of_block (hS.blk (B, .cells #[.int .i64 p.2.1, .int .i64 p.2.2] 23 (0, 0)) (List.Mem.head _))
            have cb0 := cell_two0 (hS.blk (B, .cells #[.int .i64 p.2.1, .int .i64 p.2.2] 23 (0, 0)) (List.Mem.head _))
            have cb1 := cell_two1 (hS.blk (B, .cells #[.int .i64 p.2.1, .int .i64 p.2.2] 23 (0, 0)) (List.Mem.head _))
            go_wp2_with fail
            clear la ca0 ca1 lb cb0 cb1
            refine (hS.call (span_Check_ok HAok.out _)).mono ?_; rintro e x0 ⟨rfl, hS⟩
            have la := lt_of_block (hS.blk (A, .cells #[.int .i64 p.1.1, .int .i64 p.1.2] 23 (0, 0)) (List.Mem.tail _ (List.Mem.head _)))
            have ca0 := cell_two0 (hS.blk (A, .cells #[.int .i64 p.1.1, .int .i64 p.1.2] 23 (0, 0)) (List.Mem.tail _ (List.Mem.head _)))
            have ca1 := cell_two1 (hS.blk (A, .cells #[.int .i64 p.1.1, .int .i64 p.1.2] 23 (0, 0)) (List.Mem.tail _ (List.Mem.head _)))
            have lb := lt_of_block (hS.blk (B, .cells #[.int .i64 p.2.1, .int .i64 p.2.2] 23 (0, 0)) (List.Mem.head _))
            have cb0 := cell_two0 (hS.blk (B, .cells #[.int .i64 p.2.1, .int .i64 p.2.2] 23 (0, 0)) (List.Mem.head _))
            have cb1 := cell_two1 (hS.blk (B, .cells #[.int .i64 p.2.1, .int .i64 p.2.2] 23 (0, 0)) (List.Mem.head _))
            go_wp2_with fail
            clear la ca0 ca1 lb cb0 cb1
            refine (hS.call (span_Check_ok HBok.out _)).mono ?_; rintro e x1 ⟨rfl, hS⟩
            have HS4 := Lib.hid hS
            go_wp2_with fail
            clear hS
            go_loopw [54] (fun i wx => ∃ j : Nat, j ≤ 6 ∧ i = .int .i64 j ∧ Hid (Kn w wx [(B, .cells #[.int .i64 p.2.1, .int .i64 p.2.2] 23 (0, 0)), (A, .cells #[.int .i64 p.1.1, .int .i64 p.1.2] 23 (0, 0)), (P9, .cells #[.int .i64 p.1.1, .int .i64 p.1.2, .int .i64 p.2.1, .int .i64 p.2.2] 29 (0, 0)), (g, prObj prs)])) (fun i _ => 6 - (intOf i).toNat)
            case atStart => exact ⟨0, by omega, rfl, HS4⟩
            case round =>
              clear HS4
              obtain ⟨j, hj, rfl, HB⟩ := hrel
              have hS := HB.out
              rename_i wx
              rcases Nat.lt_or_ge j 6 with hj' | hj'
              · rcases (by omega : j = 0 ∨ j = 1 ∨ j = 2 ∨ j = 3 ∨ j = 4 ∨ j = 5) with rfl | rfl | rfl | rfl | rfl | rfl
                · have hi : ∀ W, (Instr.index 54 (.agg #[.func (.func 24) #[] #[], .func (.func 30) #[] #[], .func (.func 38) #[] #[], .func (.func 40) #[] #[], .func (.func 42) #[] #[], .func (.func 44) #[] #[]]) (.int .i64 0)).run Tryd.prog W = .ok (.func (.func 24) #[] #[]) W := fun W => by kernel_rfl
                  have hC2 := fun W => span_Add p.2 p.1 W
                  rw [← sAdd_comm p.1 p.2] at hC2
                  have HC2 := Lib.hid hC2
                  clear hC2
                  have la := lt_of_block (hS.blk (A, .cells #[.int .i64 p.1.1, .int .i64 p.1.2] 23 (0, 0)) (List.Mem.tail _ (List.Mem.head _)))
                  have ca0 := cell_two0 (hS.blk (A, .cells #[.int .i64 p.1.1, .int .i64 p.1.2] 23 (0, 0)) (List.Mem.tail _ (List.Mem.head _)))
                  have ca1 := cell_two1 (hS.blk (A, .cells #[.int .i64 p.1.1, .int .i64 p.1.2] 23 (0, 0)) (List.Mem.tail _ (List.Mem.head _)))
                  have lb := lt_of_block (hS.blk (B, .cells #[.int .i64 p.2.1, .int .i64 p.2.2] 23 (0, 0)) (List.Mem.head _))
                  have cb0 := cell_two0 (hS.blk (B, .cells #[.int .i64 p.2.1, .int .i64 p.2.2] 23 (0, 0)) (List.Mem.head _))
                  have cb1 := cell_two1 (hS.blk (B, .cells #[.int .i64 p.2.1, .int .i64 p.2.2] 23 (0, 0)) (List.Mem.head _))
                  go_wp2_with fail
                  clear la ca0 ca1 lb cb0 cb1
                  refine (hS.call (span_Add p.1 p.2 _)).mono ?_; rintro e y0 ⟨rfl, hS⟩
                  have la := lt_of_block (hS.blk (A, .cells #[.int .i64 p.1.1, .int .i64 p.1.2] 23 (0, 0)) (List.Mem.tail _ (List.Mem.head _)))
                  have ca0 := cell_two0 (hS.blk (A, .cells #[.int .i64 p.1.1, .int .i64 p.1.2] 23 (0, 0)) (List.Mem.tail _ (List.Mem.head _)))
                  have ca1 := cell_two1 (hS.blk (A, .cells #[.int .i64 p.1.1, .int .i64 p.1.2] 23 (0, 0)) (List.Mem.tail _ (List.Mem.head _)))
                  have lb := lt_of_block (hS.blk (B, .cells #[.int .i64 p.2.1, .int .i64 p.2.2] 23 (0, 0)) (List.Mem.head _))
                  have cb0 := cell_two0 (hS.blk (B, .cells #[.int .i64 p.2.1, .int .i64 p.2.2] 23 (0, 0)) (List.Mem.head _))
                  have cb1 := cell_two1 (hS.blk (B, .cells #[.int .i64 p.2.1, .int .i64 p.2.2] 23 (0, 0)) (List.Mem.head _))
                  go_wp2_with fail
                  clear la ca0 ca1 lb cb0 cb1
                  have gS : w.heap.size ≤ y0.heap.size := hS.bel.size
                  have nSb : y0.heap.size ≠ B := Nat.ne_of_gt (lt_of_block (hS.blk (B, .cells #[.int .i64 p.2.1, .int .i64 p.2.2] 23 (0, 0)) (List.Mem.head _)))
                  have nSa : y0.heap.size ≠ A := Nat.ne_of_gt (lt_of_block (hS.blk (A, .cells #[.int .i64 p.1.1, .int .i64 p.1.2] 23 (0, 0)) (List.Mem.tail _ (List.Mem.head _))))
                  have nSP : y0.heap.size ≠ P9 := Nat.ne_of_gt (lt_of_block (hS.blk (P9, .cells #[.int .i64 p.1.1, .int .i64 p.1.2, .int .i64 p.2.1, .int .i64 p.2.2] 29 (0, 0)) (List.Mem.tail _ (List.Mem.tail _ (List.Mem.head _)))))
                  have nSg : y0.heap.size ≠ g := Nat.ne_of_gt (lt_of_block (hS.blk (g, prObj prs) (List.Mem.tail _ (List.Mem.tail _ (List.Mem.tail _ (List.Mem.head _))))))
                  replace hS := hS.al (.cells #[.int .i64 (sAdd p.1 p.2).1.1, .int .i64 (sAdd p.1 p.2).1.2] 23 (0, 0))
                  refine (hS.call (HC2.out _)).mono ?_; rintro e y1 ⟨rfl, hS⟩
                  have lS := lt_of_block (hS.blk (y0.heap.size, .cells #[.int .i64 (sAdd p.1 p.2).1.1, .int .i64 (sAdd p.1 p.2).1.2] 23 (0, 0)) (List.Mem.head _))
                  have cS0 := cell_two0 (hS.blk (y0.heap.size, .cells #[.int .i64 (sAdd p.1 p.2).1.1, .int .i64 (sAdd p.1 p.2).1.2] 23 (0, 0)) (List.Mem.head _))
                  have cS1 := cell_two1 (hS.blk (y0.heap.size, .cells #[.int .i64 (sAdd p.1 p.2).1.1, .int .i64 (sAdd p.1 p.2).1.2] 23 (0, 0)) (List.Mem.head _))
                  go_wp2_with fail
                  clear lS cS0 cS1
                  have gD : w.heap.size ≤ y1.heap.size := hS.bel.size
                  have nDS : y1.heap.size ≠ y0.heap.size := Nat.ne_of_gt (lt_of_block (hS.blk (y0.heap.size, .cells #[.int .i64 (sAdd p.1 p.2).1.1, .int .i64 (sAdd p.1 p.2).1.2] 23 (0, 0)) (List.Mem.head _)))
                  have nDb : y1.heap.size ≠ B := Nat.ne_of_gt (lt_of_block (hS.blk (B, .cells #[.int .i64 p.2.1, .int .i64 p.2.2] 23 (0, 0)) (List.Mem.tail _ (List.Mem.head _))))
                  have nDa : y1.heap.size ≠ A := Nat.ne_of_gt (lt_of_block (hS.blk (A, .cells #[.int .i64 p.1.1, .int .i64 p.1.2] 23 (0, 0)) (List.Mem.tail _ (List.Mem.tail _ (List.Mem.head _)))))
                  have nDP : y1.heap.size ≠ P9 := Nat.ne_of_gt (lt_of_block (hS.blk (P9, .cells #[.int .i64 p.1.1, .int .i64 p.1.2, .int .i64 p.2.1, .int .i64 p.2.2] 29 (0, 0)) (List.Mem.tail _ (List.Mem.tail _ (List.Mem.tail _ (List.Mem.head _))))))
                  have nDg : y1.heap.size ≠ g := Nat.ne_of_gt (lt_of_block (hS.blk (g, prObj prs) (List.Mem.tail _ (List.Mem.tail _ (List.Mem.tail _ (List.Mem.tail _ (List.Mem.head _)))))))
                  replace hS := hS.al (.cells #[.int .i64 (sAdd p.1 p.2).1.1, .int .i64 (sAdd p.1 p.2).1.2] 23 (0, 0))
                  refine (hS.call (law2_alike (sAdd p.1 p.2) _)).mono ?_; rintro e y2 ⟨rfl, hS⟩
                  go_wp2_with fail
                  go_roundw
                  case rel => exact ⟨1, by omega, rfl, Lib.hid (hS.sub (by simp))⟩
                  case measure => simp [intOf]
                · have hi : ∀ W, (Instr.index 54 (.agg #[.func (.func 24) #[] #[], .func (.func 30) #[] #[], .func (.func 38) #[] #[], .func (.func 40) #[] #[], .func (.func 42) #[] #[], .func (.func 44) #[] #[]]) (.int .i64 1)).run Tryd.prog W = .ok (.func (.func 30) #[] #[]) W := fun W => by kernel_rfl
                  have hC2 := fun W => span_Mul p.2 p.1 W
                  rw [← sMul_comm p.1 p.2] at hC2
                  have HC2 := Lib.hid hC2
                  clear hC2
                  have la := lt_of_block (hS.blk (A, .cells #[.int .i64 p.1.1, .int .i64 p.1.2] 23 (0, 0)) (List.Mem.tail _ (List.Mem.head _)))
                  have ca0 := cell_two0 (hS.blk (A, .cells #[.int .i64 p.1.1, .int .i64 p.1.2] 23 (0, 0)) (List.Mem.tail _ (List.Mem.head _)))
                  have ca1 := cell_two1 (hS.blk (A, .cells #[.int .i64 p.1.1, .int .i64 p.1.2] 23 (0, 0)) (List.Mem.tail _ (List.Mem.head _)))
                  have lb := lt_of_block (hS.blk (B, .cells #[.int .i64 p.2.1, .int .i64 p.2.2] 23 (0, 0)) (List.Mem.head _))
                  have cb0 := cell_two0 (hS.blk (B, .cells #[.int .i64 p.2.1, .int .i64 p.2.2] 23 (0, 0)) (List.Mem.head _))
                  have cb1 := cell_two1 (hS.blk (B, .cells #[.int .i64 p.2.1, .int .i64 p.2.2] 23 (0, 0)) (List.Mem.head _))
                  go_wp2_with fail
                  clear la ca0 ca1 lb cb0 cb1
                  refine (hS.call (span_Mul p.1 p.2 _)).mono ?_; rintro e y0 ⟨rfl, hS⟩
                  have la := lt_of_block (hS.blk (A, .cells #[.int .i64 p.1.1, .int .i64 p.1.2] 23 (0, 0)) (List.Mem.tail _ (List.Mem.head _)))
                  have ca0 := cell_two0 (hS.blk (A, .cells #[.int .i64 p.1.1, .int .i64 p.1.2] 23 (0, 0)) (List.Mem.tail _ (List.Mem.head _)))
                  have ca1 := cell_two1 (hS.blk (A, .cells #[.int .i64 p.1.1, .int .i64 p.1.2] 23 (0, 0)) (List.Mem.tail _ (List.Mem.head _)))
                  have lb := lt_of_block (hS.blk (B, .cells #[.int .i64 p.2.1, .int .i64 p.2.2] 23 (0, 0)) (List.Mem.head _))
                  have cb0 := cell_two0 (hS.blk (B, .cells #[.int .i64 p.2.1, .int .i64 p.2.2] 23 (0, 0)) (List.Mem.head _))
                  have cb1 := cell_two1 (hS.blk (B, .cells #[.int .i64 p.2.1, .int .i64 p.2.2] 23 (0, 0)) (List.Mem.head _))
                  go_wp2_with fail
                  clear la ca0 ca1 lb cb0 cb1
                  have gS : w.heap.size ≤ y0.heap.size := hS.bel.size
                  have nSb : y0.heap.size ≠ B := Nat.ne_of_gt (lt_of_block (hS.blk (B, .cells #[.int .i64 p.2.1, .int .i64 p.2.2] 23 (0, 0)) (List.Mem.head _)))
                  have nSa : y0.heap.size ≠ A := Nat.ne_of_gt (lt_of_block (hS.blk (A, .cells #[.int .i64 p.1.1, .int .i64 p.1.2] 23 (0, 0)) (List.Mem.tail _ (List.Mem.head _))))
                  have nSP : y0.heap.size ≠ P9 := Nat.ne_of_gt (lt_of_block (hS.blk (P9, .cells #[.int .i64 p.1.1, .int .i64 p.1.2, .int .i64 p.2.1, .int .i64 p.2.2] 29 (0, 0)) (List.Mem.tail _ (List.Mem.tail _ (List.Mem.head _)))))
                  have nSg : y0.heap.size ≠ g := Nat.ne_of_gt (lt_of_block (hS.blk (g, prObj prs) (List.Mem.tail _ (List.Mem.tail _ (List.Mem.tail _ (List.Mem.head _))))))
                  replace hS := hS.al (.cells #[.int .i64 (sMul p.1 p.2).1.1, .int .i64 (sMul p.1 p.2).1.2] 23 (0, 0))
                  refine (hS.call (HC2.out _)).mono ?_; rintro e y1 ⟨rfl, hS⟩
                  have lS := lt_of_block (hS.blk (y0.heap.size, .cells #[.int .i64 (sMul p.1 p.2).1.1, .int .i64 (sMul p.1 p.2).1.2] 23 (0, 0)) (List.Mem.head _))
                  have cS0 := cell_two0 (hS.blk (y0.heap.size, .cells #[.int .i64 (sMul p.1 p.2).1.1, .int .i64 (sMul p.1 p.2).1.2] 23 (0, 0)) (List.Mem.head _))
                  have cS1 := cell_two1 (hS.blk (y0.heap.size, .cells #[.int .i64 (sMul p.1 p.2).1.1, .int .i64 (sMul p.1 p.2).1.2] 23 (0, 0)) (List.Mem.head _))
                  go_wp2_with fail
                  clear lS cS0 cS1
                  have gD : w.heap.size ≤ y1.heap.size := hS.bel.size
                  have nDS : y1.heap.size ≠ y0.heap.size := Nat.ne_of_gt (lt_of_block (hS.blk (y0.heap.size, .cells #[.int .i64 (sMul p.1 p.2).1.1, .int .i64 (sMul p.1 p.2).1.2] 23 (0, 0)) (List.Mem.head _)))
                  have nDb : y1.heap.size ≠ B := Nat.ne_of_gt (lt_of_block (hS.blk (B, .cells #[.int .i64 p.2.1, .int .i64 p.2.2] 23 (0, 0)) (List.Mem.tail _ (List.Mem.head _))))
                  have nDa : y1.heap.size ≠ A := Nat.ne_of_gt (lt_of_block (hS.blk (A, .cells #[.int .i64 p.1.1, .int .i64 p.1.2] 23 (0, 0)) (List.Mem.tail _ (List.Mem.tail _ (List.Mem.head _)))))
                  have nDP : y1.heap.size ≠ P9 := Nat.ne_of_gt (lt_of_block (hS.blk (P9, .cells #[.int .i64 p.1.1, .int .i64 p.1.2, .int .i64 p.2.1, .int .i64 p.2.2] 29 (0, 0)) (List.Mem.tail _ (List.Mem.tail _ (List.Mem.tail _ (List.Mem.head _))))))
                  have nDg : y1.heap.size ≠ g := Nat.ne_of_gt (lt_of_block (hS.blk (g, prObj prs) (List.Mem.tail _ (List.Mem.tail _ (List.Mem.tail _ (List.Mem.tail _ (List.Mem.head _)))))))
                  replace hS := hS.al (.cells #[.int .i64 (sMul p.1 p.2).1.1, .int .i64 (sMul p.1 p.2).1.2] 23 (0, 0))
                  refine (hS.call (law2_alike (sMul p.1 p.2) _)).mono ?_; rintro e y2 ⟨rfl, hS⟩
                  go_wp2_with fail
                  go_roundw
                  case rel => exact ⟨2, by omega, rfl, Lib.hid (hS.sub (by simp))⟩
                  case measure => simp [intOf]
                · have hi : ∀ W, (Instr.index 54 (.agg #[.func (.func 24) #[] #[], .func (.func 30) #[] #[], .func (.func 38) #[] #[], .func (.func 40) #[] #[], .func (.func 42) #[] #[], .func (.func 44) #[] #[]]) (.int .i64 2)).run Tryd.prog W = .ok (.func (.func 38) #[] #[]) W := fun W => by kernel_rfl
                  have hC2 := fun W => span_Min p.2 p.1 W
                  rw [← sMin_comm p.1 p.2] at hC2
                  have HC2 := Lib.hid hC2
                  clear hC2
                  have la := lt_of_block (hS.blk (A, .cells #[.int .i64 p.1.1, .int .i64 p.1.2] 23 (0, 0)) (List.Mem.tail _ (List.Mem.head _)))
                  have ca0 := cell_two0 (hS.blk (A, .cells #[.int .i64 p.1.1, .int .i64 p.1.2] 23 (0, 0)) (List.Mem.tail _ (List.Mem.head _)))
                  have ca1 := cell_two1 (hS.blk (A, .cells #[.int .i64 p.1.1, .int .i64 p.1.2] 23 (0, 0)) (List.Mem.tail _ (List.Mem.head _)))
                  have lb := lt_of_block (hS.blk (B, .cells #[.int .i64 p.2.1, .int .i64 p.2.2] 23 (0, 0)) (List.Mem.head _))
                  have cb0 := cell_two0 (hS.blk (B, .cells #[.int .i64 p.2.1, .int .i64 p.2.2] 23 (0, 0)) (List.Mem.head _))
                  have cb1 := cell_two1 (hS.blk (B, .cells #[.int .i64 p.2.1, .int .i64 p.2.2] 23 (0, 0)) (List.Mem.head _))
                  go_wp2_with fail
                  clear la ca0 ca1 lb cb0 cb1
                  refine (hS.call (span_Min p.1 p.2 _)).mono ?_; rintro e y0 ⟨rfl, hS⟩
                  have la := lt_of_block (hS.blk (A, .cells #[.int .i64 p.1.1, .int .i64 p.1.2] 23 (0, 0)) (List.Mem.tail _ (List.Mem.head _)))
                  have ca0 := cell_two0 (hS.blk (A, .cells #[.int .i64 p.1.1, .int .i64 p.1.2] 23 (0, 0)) (List.Mem.tail _ (List.Mem.head _)))
                  have ca1 := cell_two1 (hS.blk (A, .cells #[.int .i64 p.1.1, .int .i64 p.1.2] 23 (0, 0)) (List.Mem.tail _ (List.Mem.head _)))
                  have lb := lt_of_block (hS.blk (B, .cells #[.int .i64 p.2.1, .int .i64 p.2.2] 23 (0, 0)) (List.Mem.head _))
                  have cb0 := cell_two0 (hS.blk (B, .cells #[.int .i64 p.2.1, .int .i64 p.2.2] 23 (0, 0)) (List.Mem.head _))
                  have cb1 := cell_two1 (hS.blk (B, .cells #[.int .i64 p.2.1, .int .i64 p.2.2] 23 (0, 0)) (List.Mem.head _))
                  go_wp2_with fail
                  clear la ca0 ca1 lb cb0 cb1
                  have gS : w.heap.size ≤ y0.heap.size := hS.bel.size
                  have nSb : y0.heap.size ≠ B := Nat.ne_of_gt (lt_of_block (hS.blk (B, .cells #[.int .i64 p.2.1, .int .i64 p.2.2] 23 (0, 0)) (List.Mem.head _)))
                  have nSa : y0.heap.size ≠ A := Nat.ne_of_gt (lt_of_block (hS.blk (A, .cells #[.int .i64 p.1.1, .int .i64 p.1.2] 23 (0, 0)) (List.Mem.tail _ (List.Mem.head _))))
                  have nSP : y0.heap.size ≠ P9 := Nat.ne_of_gt (lt_of_block (hS.blk (P9, .cells #[.int .i64 p.1.1, .int .i64 p.1.2, .int .i64 p.2.1, .int .i64 p.2.2] 29 (0, 0)) (List.Mem.tail _ (List.Mem.tail _ (List.Mem.head _)))))
                  have nSg : y0.heap.size ≠ g := Nat.ne_of_gt (lt_of_block (hS.blk (g, prObj prs) (List.Mem.tail _ (List.Mem.tail _ (List.Mem.tail _ (List.Mem.head _))))))
                  replace hS := hS.al (.cells #[.int .i64 (sMin p.1 p.2).1.1, .int .i64 (sMin p.1 p.2).1.2] 23 (0, 0))
                  refine (hS.call (HC2.out _)).mono ?_; rintro e y1 ⟨rfl, hS⟩
                  have lS := lt_of_block (hS.blk (y0.heap.size, .cells #[.int .i64 (sMin p.1 p.2).1.1, .int .i64 (sMin p.1 p.2).1.2] 23 (0, 0)) (List.Mem.head _))
                  have cS0 := cell_two0 (hS.blk (y0.heap.size, .cells #[.int .i64 (sMin p.1 p.2).1.1, .int .i64 (sMin p.1 p.2).1.2] 23 (0, 0)) (List.Mem.head _))
                  have cS1 := cell_two1 (hS.blk (y0.heap.size, .cells #[.int .i64 (sMin p.1 p.2).1.1, .int .i64 (sMin p.1 p.2).1.2] 23 (0, 0)) (List.Mem.head _))
                  go_wp2_with fail
                  clear lS cS0 cS1
                  have gD : w.heap.size ≤ y1.heap.size := hS.bel.size
                  have nDS : y1.heap.size ≠ y0.heap.size := Nat.ne_of_gt (lt_of_block (hS.blk (y0.heap.size, .cells #[.int .i64 (sMin p.1 p.2).1.1, .int .i64 (sMin p.1 p.2).1.2] 23 (0, 0)) (List.Mem.head _)))
                  have nDb : y1.heap.size ≠ B := Nat.ne_of_gt (lt_of_block (hS.blk (B, .cells #[.int .i64 p.2.1, .int .i64 p.2.2] 23 (0, 0)) (List.Mem.tail _ (List.Mem.head _))))
                  have nDa : y1.heap.size ≠ A := Nat.ne_of_gt (lt_of_block (hS.blk (A, .cells #[.int .i64 p.1.1, .int .i64 p.1.2] 23 (0, 0)) (List.Mem.tail _ (List.Mem.tail _ (List.Mem.head _)))))
                  have nDP : y1.heap.size ≠ P9 := Nat.ne_of_gt (lt_of_block (hS.blk (P9, .cells #[.int .i64 p.1.1, .int .i64 p.1.2, .int .i64 p.2.1, .int .i64 p.2.2] 29 (0, 0)) (List.Mem.tail _ (List.Mem.tail _ (List.Mem.tail _ (List.Mem.head _))))))
                  have nDg : y1.heap.size ≠ g := Nat.ne_of_gt (lt_of_block (hS.blk (g, prObj prs) (List.Mem.tail _ (List.Mem.tail _ (List.Mem.tail _ (List.Mem.tail _ (List.Mem.head _)))))))
                  replace hS := hS.al (.cells #[.int .i64 (sMin p.1 p.2).1.1, .int .i64 (sMin p.1 p.2).1.2] 23 (0, 0))
                  refine (hS.call (law2_alike (sMin p.1 p.2) _)).mono ?_; rintro e y2 ⟨rfl, hS⟩
                  go_wp2_with fail
                  go_roundw
                  case rel => exact ⟨3, by omega, rfl, Lib.hid (hS.sub (by simp))⟩
                  case measure => simp [intOf]
                · have hi : ∀ W, (Instr.index 54 (.agg #[.func (.func 24) #[] #[], .func (.func 30) #[] #[], .func (.func 38) #[] #[], .func (.func 40) #[] #[], .func (.func 42) #[] #[], .func (.func 44) #[] #[]]) (.int .i64 3)).run Tryd.prog W = .ok (.func (.func 40) #[] #[]) W := fun W => by kernel_rfl
                  have hC2 := fun W => span_Max p.2 p.1 W
                  rw [← sMax_comm p.1 p.2] at hC2
                  have HC2 := Lib.hid hC2
                  clear hC2
                  have la := lt_of_block (hS.blk (A, .cells #[.int .i64 p.1.1, .int .i64 p.1.2] 23 (0, 0)) (List.Mem.tail _ (List.Mem.head _)))
                  have ca0 := cell_two0 (hS.blk (A, .cells #[.int .i64 p.1.1, .int .i64 p.1.2] 23 (0, 0)) (List.Mem.tail _ (List.Mem.head _)))
                  have ca1 := cell_two1 (hS.blk (A, .cells #[.int .i64 p.1.1, .int .i64 p.1.2] 23 (0, 0)) (List.Mem.tail _ (List.Mem.head _)))
                  have lb := lt_of_block (hS.blk (B, .cells #[.int .i64 p.2.1, .int .i64 p.2.2] 23 (0, 0)) (List.Mem.head _))
                  have cb0 := cell_two0 (hS.blk (B, .cells #[.int .i64 p.2.1, .int .i64 p.2.2] 23 (0, 0)) (List.Mem.head _))
                  have cb1 := cell_two1 (hS.blk (B, .cells #[.int .i64 p.2.1, .int .i64 p.2.2] 23 (0, 0)) (List.Mem.head _))
                  go_wp2_with fail
                  clear la ca0 ca1 lb cb0 cb1
                  refine (hS.call (span_Max p.1 p.2 _)).mono ?_; rintro e y0 ⟨rfl, hS⟩
                  have la := lt_of_block (hS.blk (A, .cells #[.int .i64 p.1.1, .int .i64 p.1.2] 23 (0, 0)) (List.Mem.tail _ (List.Mem.head _)))
                  have ca0 := cell_two0 (hS.blk (A, .cells #[.int .i64 p.1.1, .int .i64 p.1.2] 23 (0, 0)) (List.Mem.tail _ (List.Mem.head _)))
                  have ca1 := cell_two1 (hS.blk (A, .cells #[.int .i64 p.1.1, .int .i64 p.1.2] 23 (0, 0)) (List.Mem.tail _ (List.Mem.head _)))
                  have lb := lt_of_block (hS.blk (B, .cells #[.int .i64 p.2.1, .int .i64 p.2.2] 23 (0, 0)) (List.Mem.head _))
                  have cb0 := cell_two0 (hS.blk (B, .cells #[.int .i64 p.2.1, .int .i64 p.2.2] 23 (0, 0)) (List.Mem.head _))
                  have cb1 := cell_two1 (hS.blk (B, .cells #[.int .i64 p.2.1, .int .i64 p.2.2] 23 (0, 0)) (List.Mem.head _))
                  go_wp2_with fail
                  clear la ca0 ca1 lb cb0 cb1
                  have gS : w.heap.size ≤ y0.heap.size := hS.bel.size
                  have nSb : y0.heap.size ≠ B := Nat.ne_of_gt (lt_of_block (hS.blk (B, .cells #[.int .i64 p.2.1, .int .i64 p.2.2] 23 (0, 0)) (List.Mem.head _)))
                  have nSa : y0.heap.size ≠ A := Nat.ne_of_gt (lt_of_block (hS.blk (A, .cells #[.int .i64 p.1.1, .int .i64 p.1.2] 23 (0, 0)) (List.Mem.tail _ (List.Mem.head _))))
                  have nSP : y0.heap.size ≠ P9 := Nat.ne_of_gt (lt_of_block (hS.blk (P9, .cells #[.int .i64 p.1.1, .int .i64 p.1.2, .int .i64 p.2.1, .int .i64 p.2.2] 29 (0, 0)) (List.Mem.tail _ (List.Mem.tail _ (List.Mem.head _)))))
                  have nSg : y0.heap.size ≠ g := Nat.ne_of_gt (lt_of_block (hS.blk (g, prObj prs) (List.Mem.tail _ (List.Mem.tail _ (List.Mem.tail _ (List.Mem.head _))))))
                  replace hS := hS.al (.cells #[.int .i64 (sMax p.1 p.2).1.1, .int .i64 (sMax p.1 p.2).1.2] 23 (0, 0))
                  refine (hS.call (HC2.out _)).mono ?_; rintro e y1 ⟨rfl, hS⟩
                  have lS := lt_of_block (hS.blk (y0.heap.size, .cells #[.int .i64 (sMax p.1 p.2).1.1, .int .i64 (sMax p.1 p.2).1.2] 23 (0, 0)) (List.Mem.head _))
                  have cS0 := cell_two0 (hS.blk (y0.heap.size, .cells #[.int .i64 (sMax p.1 p.2).1.1, .int .i64 (sMax p.1 p.2).1.2] 23 (0, 0)) (List.Mem.head _))
                  have cS1 := cell_two1 (hS.blk (y0.heap.size, .cells #[.int .i64 (sMax p.1 p.2).1.1, .int .i64 (sMax p.1 p.2).1.2] 23 (0, 0)) (List.Mem.head _))
                  go_wp2_with fail
                  clear lS cS0 cS1
                  have gD : w.heap.size ≤ y1.heap.size := hS.bel.size
                  have nDS : y1.heap.size ≠ y0.heap.size := Nat.ne_of_gt (lt_of_block (hS.blk (y0.heap.size, .cells #[.int .i64 (sMax p.1 p.2).1.1, .int .i64 (sMax p.1 p.2).1.2] 23 (0, 0)) (List.Mem.head _)))
                  have nDb : y1.heap.size ≠ B := Nat.ne_of_gt (lt_of_block (hS.blk (B, .cells #[.int .i64 p.2.1, .int .i64 p.2.2] 23 (0, 0)) (List.Mem.tail _ (List.Mem.head _))))
                  have nDa : y1.heap.size ≠ A := Nat.ne_of_gt (lt_of_block (hS.blk (A, .cells #[.int .i64 p.1.1, .int .i64 p.1.2] 23 (0, 0)) (List.Mem.tail _ (List.Mem.tail _ (List.Mem.head _)))))
                  have nDP : y1.heap.size ≠ P9 := Nat.ne_of_gt (lt_of_block (hS.blk (P9, .cells #[.int .i64 p.1.1, .int .i64 p.1.2, .int .i64 p.2.1, .int .i64 p.2.2] 29 (0, 0)) (List.Mem.tail _ (List.Mem.tail _ (List.Mem.tail _ (List.Mem.head _))))))
                  have nDg : y1.heap.size ≠ g := Nat.ne_of_gt (lt_of_block (hS.blk (g, prObj prs) (List.Mem.tail _ (List.Mem.tail _ (List.Mem.tail _ (List.Mem.tail _ (List.Mem.head _)))))))
                  replace hS := hS.al (.cells #[.int .i64 (sMax p.1 p.2).1.1, .int .i64 (sMax p.1 p.2).1.2] 23 (0, 0))
                  refine (hS.call (law2_alike (sMax p.1 p.2) _)).mono ?_; rintro e y2 ⟨rfl, hS⟩
                  go_wp2_with fail
                  go_roundw
                  case rel => exact ⟨4, by omega, rfl, Lib.hid (hS.sub (by simp))⟩
                  case measure => simp [intOf]
                · have hi : ∀ W, (Instr.index 54 (.agg #[.func (.func 24) #[] #[], .func (.func 30) #[] #[], .func (.func 38) #[] #[], .func (.func 40) #[] #[], .func (.func 42) #[] #[], .func (.func 44) #[] #[]]) (.int .i64 4)).run Tryd.prog W = .ok (.func (.func 42) #[] #[]) W := fun W => by kernel_rfl
                  have hC2 := fun W => span_Hull p.2 p.1 W
                  rw [← sHull_comm p.1 p.2] at hC2
                  have HC2 := Lib.hid hC2
                  clear hC2
                  have la := lt_of_block (hS.blk (A, .cells #[.int .i64 p.1.1, .int .i64 p.1.2] 23 (0, 0)) (List.Mem.tail _ (List.Mem.head _)))
                  have ca0 := cell_two0 (hS.blk (A, .cells #[.int .i64 p.1.1, .int .i64 p.1.2] 23 (0, 0)) (List.Mem.tail _ (List.Mem.head _)))
                  have ca1 := cell_two1 (hS.blk (A, .cells #[.int .i64 p.1.1, .int .i64 p.1.2] 23 (0, 0)) (List.Mem.tail _ (List.Mem.head _)))
                  have lb := lt_of_block (hS.blk (B, .cells #[.int .i64 p.2.1, .int .i64 p.2.2] 23 (0, 0)) (List.Mem.head _))
                  have cb0 := cell_two0 (hS.blk (B, .cells #[.int .i64 p.2.1, .int .i64 p.2.2] 23 (0, 0)) (List.Mem.head _))
                  have cb1 := cell_two1 (hS.blk (B, .cells #[.int .i64 p.2.1, .int .i64 p.2.2] 23 (0, 0)) (List.Mem.head _))
                  go_wp2_with fail
                  clear la ca0 ca1 lb cb0 cb1
                  refine (hS.call (span_Hull p.1 p.2 _)).mono ?_; rintro e y0 ⟨rfl, hS⟩
                  have la := lt_of_block (hS.blk (A, .cells #[.int .i64 p.1.1, .int .i64 p.1.2] 23 (0, 0)) (List.Mem.tail _ (List.Mem.head _)))
                  have ca0 := cell_two0 (hS.blk (A, .cells #[.int .i64 p.1.1, .int .i64 p.1.2] 23 (0, 0)) (List.Mem.tail _ (List.Mem.head _)))
                  have ca1 := cell_two1 (hS.blk (A, .cells #[.int .i64 p.1.1, .int .i64 p.1.2] 23 (0, 0)) (List.Mem.tail _ (List.Mem.head _)))
                  have lb := lt_of_block (hS.blk (B, .cells #[.int .i64 p.2.1, .int .i64 p.2.2] 23 (0, 0)) (List.Mem.head _))
                  have cb0 := cell_two0 (hS.blk (B, .cells #[.int .i64 p.2.1, .int .i64 p.2.2] 23 (0, 0)) (List.Mem.head _))
                  have cb1 := cell_two1 (hS.blk (B, .cells #[.int .i64 p.2.1, .int .i64 p.2.2] 23 (0, 0)) (List.Mem.head _))
                  go_wp2_with fail
                  clear la ca0 ca1 lb cb0 cb1
                  have gS : w.heap.size ≤ y0.heap.size := hS.bel.size
                  have nSb : y0.heap.size ≠ B := Nat.ne_of_gt (lt_of_block (hS.blk (B, .cells #[.int .i64 p.2.1, .int .i64 p.2.2] 23 (0, 0)) (List.Mem.head _)))
                  have nSa : y0.heap.size ≠ A := Nat.ne_of_gt (lt_of_block (hS.blk (A, .cells #[.int .i64 p.1.1, .int .i64 p.1.2] 23 (0, 0)) (List.Mem.tail _ (List.Mem.head _))))
                  have nSP : y0.heap.size ≠ P9 := Nat.ne_of_gt (lt_of_block (hS.blk (P9, .cells #[.int .i64 p.1.1, .int .i64 p.1.2, .int .i64 p.2.1, .int .i64 p.2.2] 29 (0, 0)) (List.Mem.tail _ (List.Mem.tail _ (List.Mem.head _)))))
                  have nSg : y0.heap.size ≠ g := Nat.ne_of_gt (lt_of_block (hS.blk (g, prObj prs) (List.Mem.tail _ (List.Mem.tail _ (List.Mem.tail _ (List.Mem.head _))))))
                  replace hS := hS.al (.cells #[.int .i64 (sHull p.1 p.2).1.1, .int .i64 (sHull p.1 p.2).1.2] 23 (0, 0))
                  refine (hS.call (HC2.out _)).mono ?_; rintro e y1 ⟨rfl, hS⟩
                  have lS := lt_of_block (hS.blk (y0.heap.size, .cells #[.int .i64 (sHull p.1 p.2).1.1, .int .i64 (sHull p.1 p.2).1.2] 23 (0, 0)) (List.Mem.head _))
                  have cS0 := cell_two0 (hS.blk (y0.heap.size, .cells #[.int .i64 (sHull p.1 p.2).1.1, .int .i64 (sHull p.1 p.2).1.2] 23 (0, 0)) (List.Mem.head _))
                  have cS1 := cell_two1 (hS.blk (y0.heap.size, .cells #[.int .i64 (sHull p.1 p.2).1.1, .int .i64 (sHull p.1 p.2).1.2] 23 (0, 0)) (List.Mem.head _))
                  go_wp2_with fail
                  clear lS cS0 cS1
                  have gD : w.heap.size ≤ y1.heap.size := hS.bel.size
                  have nDS : y1.heap.size ≠ y0.heap.size := Nat.ne_of_gt (lt_of_block (hS.blk (y0.heap.size, .cells #[.int .i64 (sHull p.1 p.2).1.1, .int .i64 (sHull p.1 p.2).1.2] 23 (0, 0)) (List.Mem.head _)))
                  have nDb : y1.heap.size ≠ B := Nat.ne_of_gt (lt_of_block (hS.blk (B, .cells #[.int .i64 p.2.1, .int .i64 p.2.2] 23 (0, 0)) (List.Mem.tail _ (List.Mem.head _))))
                  have nDa : y1.heap.size ≠ A := Nat.ne_of_gt (lt_of_block (hS.blk (A, .cells #[.int .i64 p.1.1, .int .i64 p.1.2] 23 (0, 0)) (List.Mem.tail _ (List.Mem.tail _ (List.Mem.head _)))))
                  have nDP : y1.heap.size ≠ P9 := Nat.ne_of_gt (lt_of_block (hS.blk (P9, .cells #[.int .i64 p.1.1, .int .i64 p.1.2, .int .i64 p.2.1, .int .i64 p.2.2] 29 (0, 0)) (List.Mem.tail _ (List.Mem.tail _ (List.Mem.tail _ (List.Mem.head _))))))
                  have nDg : y1.heap.size ≠ g := Nat.ne_of_gt (lt_of_block (hS.blk (g, prObj prs) (List.Mem.tail _ (List.Mem.tail _ (List.Mem.tail _ (List.Mem.tail _ (List.Mem.head _)))))))
                  replace hS := hS.al (.cells #[.int .i64 (sHull p.1 p.2).1.1, .int .i64 (sHull p.1 p.2).1.2] 23 (0, 0))
                  refine (hS.call (law2_alike (sHull p.1 p.2) _)).mono ?_; rintro e y2 ⟨rfl, hS⟩
                  go_wp2_with fail
                  go_roundw
                  case rel => exact ⟨5, by omega, rfl, Lib.hid (hS.sub (by simp))⟩
                  case measure => simp [intOf]
                · have hi : ∀ W, (Instr.index 54 (.agg #[.func (.func 24) #[] #[], .func (.func 30) #[] #[], .func (.func 38) #[] #[], .func (.func 40) #[] #[], .func (.func 42) #[] #[], .func (.func 44) #[] #[]]) (.int .i64 5)).run Tryd.prog W = .ok (.func (.func 44) #[] #[]) W := fun W => by kernel_rfl
                  have hC2 := fun W => span_Meet p.2 p.1 W
                  rw [← sMeet_comm p.1 p.2] at hC2
                  have HC2 := Lib.hid hC2
                  clear hC2
                  have la := lt_of_block (hS.blk (A, .cells #[.int .i64 p.1.1, .int .i64 p.1.2] 23 (0, 0)) (List.Mem.tail _ (List.Mem.head _)))
                  have ca0 := cell_two0 (hS.blk (A, .cells #[.int .i64 p.1.1, .int .i64 p.1.2] 23 (0, 0)) (List.Mem.tail _ (List.Mem.head _)))
                  have ca1 := cell_two1 (hS.blk (A, .cells #[.int .i64 p.1.1, .int .i64 p.1.2] 23 (0, 0)) (List.Mem.tail _ (List.Mem.head _)))
                  have lb := lt_of_block (hS.blk (B, .cells #[.int .i64 p.2.1, .int .i64 p.2.2] 23 (0, 0)) (List.Mem.head _))
                  have cb0 := cell_two0 (hS.blk (B, .cells #[.int .i64 p.2.1, .int .i64 p.2.2] 23 (0, 0)) (List.Mem.head _))
                  have cb1 := cell_two1 (hS.blk (B, .cells #[.int .i64 p.2.1, .int .i64 p.2.2] 23 (0, 0)) (List.Mem.head _))
                  go_wp2_with fail
                  clear la ca0 ca1 lb cb0 cb1
                  refine (hS.call (span_Meet p.1 p.2 _)).mono ?_; rintro e y0 ⟨rfl, hS⟩
                  have la := lt_of_block (hS.blk (A, .cells #[.int .i64 p.1.1, .int .i64 p.1.2] 23 (0, 0)) (List.Mem.tail _ (List.Mem.head _)))
                  have ca0 := cell_two0 (hS.blk (A, .cells #[.int .i64 p.1.1, .int .i64 p.1.2] 23 (0, 0)) (List.Mem.tail _ (List.Mem.head _)))
                  have ca1 := cell_two1 (hS.blk (A, .cells #[.int .i64 p.1.1, .int .i64 p.1.2] 23 (0, 0)) (List.Mem.tail _ (List.Mem.head _)))
                  have lb := lt_of_block (hS.blk (B, .cells #[.int .i64 p.2.1, .int .i64 p.2.2] 23 (0, 0)) (List.Mem.head _))
                  have cb0 := cell_two0 (hS.blk (B, .cells #[.int .i64 p.2.1, .int .i64 p.2.2] 23 (0, 0)) (List.Mem.head _))
                  have cb1 := cell_two1 (hS.blk (B, .cells #[.int .i64 p.2.1, .int .i64 p.2.2] 23 (0, 0)) (List.Mem.head _))
                  go_wp2_with fail
                  clear la ca0 ca1 lb cb0 cb1
                  have gS : w.heap.size ≤ y0.heap.size := hS.bel.size
                  have nSb : y0.heap.size ≠ B := Nat.ne_of_gt (lt_of_block (hS.blk (B, .cells #[.int .i64 p.2.1, .int .i64 p.2.2] 23 (0, 0)) (List.Mem.head _)))
                  have nSa : y0.heap.size ≠ A := Nat.ne_of_gt (lt_of_block (hS.blk (A, .cells #[.int .i64 p.1.1, .int .i64 p.1.2] 23 (0, 0)) (List.Mem.tail _ (List.Mem.head _))))
                  have nSP : y0.heap.size ≠ P9 := Nat.ne_of_gt (lt_of_block (hS.blk (P9, .cells #[.int .i64 p.1.1, .int .i64 p.1.2, .int .i64 p.2.1, .int .i64 p.2.2] 29 (0, 0)) (List.Mem.tail _ (List.Mem.tail _ (List.Mem.head _)))))
                  have nSg : y0.heap.size ≠ g := Nat.ne_of_gt (lt_of_block (hS.blk (g, prObj prs) (List.Mem.tail _ (List.Mem.tail _ (List.Mem.tail _ (List.Mem.head _))))))
                  replace hS := hS.al (.cells #[.int .i64 (sMeet p.1 p.2).1.1, .int .i64 (sMeet p.1 p.2).1.2] 23 (0, 0))
                  refine (hS.call (HC2.out _)).mono ?_; rintro e y1 ⟨rfl, hS⟩
                  have lS := lt_of_block (hS.blk (y0.heap.size, .cells #[.int .i64 (sMeet p.1 p.2).1.1, .int .i64 (sMeet p.1 p.2).1.2] 23 (0, 0)) (List.Mem.head _))
                  have cS0 := cell_two0 (hS.blk (y0.heap.size, .cells #[.int .i64 (sMeet p.1 p.2).1.1, .int .i64 (sMeet p.1 p.2).1.2] 23 (0, 0)) (List.Mem.head _))
                  have cS1 := cell_two1 (hS.blk (y0.heap.size, .cells #[.int .i64 (sMeet p.1 p.2).1.1, .int .i64 (sMeet p.1 p.2).1.2] 23 (0, 0)) (List.Mem.head _))
                  go_wp2_with fail
                  clear lS cS0 cS1
                  have gD : w.heap.size ≤ y1.heap.size := hS.bel.size
                  have nDS : y1.heap.size ≠ y0.heap.size := Nat.ne_of_gt (lt_of_block (hS.blk (y0.heap.size, .cells #[.int .i64 (sMeet p.1 p.2).1.1, .int .i64 (sMeet p.1 p.2).1.2] 23 (0, 0)) (List.Mem.head _)))
                  have nDb : y1.heap.size ≠ B := Nat.ne_of_gt (lt_of_block (hS.blk (B, .cells #[.int .i64 p.2.1, .int .i64 p.2.2] 23 (0, 0)) (List.Mem.tail _ (List.Mem.head _))))
                  have nDa : y1.heap.size ≠ A := Nat.ne_of_gt (lt_of_block (hS.blk (A, .cells #[.int .i64 p.1.1, .int .i64 p.1.2] 23 (0, 0)) (List.Mem.tail _ (List.Mem.tail _ (List.Mem.head _)))))
                  have nDP : y1.heap.size ≠ P9 := Nat.ne_of_gt (lt_of_block (hS.blk (P9, .cells #[.int .i64 p.1.1, .int .i64 p.1.2, .int .i64 p.2.1, .int .i64 p.2.2] 29 (0, 0)) (List.Mem.tail _ (List.Mem.tail _ (List.Mem.tail _ (List.Mem.head _))))))
                  have nDg : y1.heap.size ≠ g := Nat.ne_of_gt (lt_of_block (hS.blk (g, prObj prs) (List.Mem.tail _ (List.Mem.tail _ (List.Mem.tail _ (List.Mem.tail _ (List.Mem.head _)))))))
                  replace hS := hS.al (.cells #[.int .i64 (sMeet p.1 p.2).1.1, .int .i64 (sMeet p.1 p.2).1.2] 23 (0, 0))
                  refine (hS.call (law2_alike (sMeet p.1 p.2) _)).mono ?_; rintro e y2 ⟨rfl, hS⟩
                  go_wp2_with fail
                  go_roundw
                  case rel => exact ⟨6, by omega, rfl, Lib.hid (hS.sub (by simp))⟩
                  case measure => simp [intOf]
              · obtain rfl : j = 6 := by omega
                obtain ⟨n, hn⟩ : ∃ n : Int × Int, n = (-p.2.2, -p.2.1) := ⟨_, rfl⟩
                have HN := Lib.hid (show sNeg p.2 = (n, 0) by rw [hn]; exact sNeg_ok HBok.out)
                have HA2 := Lib.hid (show sAdd p.1 n = sSub p.1 p.2 by rw [hn]; exact sAdd_neg HAok.out HBok.out)
                have HN2 := Lib.hid (show sNeg n = (p.2, 0) by rw [hn, sNeg_ok (okS_neg HBok.out)]; simp only [Int.neg_neg])
                clear hn
                have c1 := fun W => span_Neg p.2 W
                rw [HN.out] at c1
                have Hc1 := Lib.hid c1
                clear c1
                have c2 := fun W => span_Add p.1 n W
                rw [HA2.out] at c2
                have Hc2 := Lib.hid c2
                clear c2
                have c3 := fun W => span_Neg n W
                rw [HN2.out] at c3
                have Hc3 := Lib.hid c3
                clear c3
                have c4 := fun W => span_Point 4294967296 W
                rw [sOf_one] at c4
                have Hc4 := Lib.hid c4
                clear c4
                have c5 := fun W => span_Mul p.1 (4294967296, 4294967296) W
                rw [sMul_one HAok.out] at c5
                have Hc5 := Lib.hid c5
                clear c5
                have c6 := fun W => span_Div p.1 (4294967296, 4294967296) W
                rw [sDiv_one HAok.out] at c6
                have Hc6 := Lib.hid c6
                clear c6
                have lb := lt_of_block (hS.blk (B, .cells #[.int .i64 p.2.1, .int .i64 p.2.2] 23 (0, 0)) (List.Mem.head _))
                have cb0 := cell_two0 (hS.blk (B, .cells #[.int .i64 p.2.1, .int .i64 p.2.2] 23 (0, 0)) (List.Mem.head _))
                have cb1 := cell_two1 (hS.blk (B, .cells #[.int .i64 p.2.1, .int .i64 p.2.2] 23 (0, 0)) (List.Mem.head _))
                go_wp2_with fail
                clear lb cb0 cb1
                refine (hS.call (Hc1.out _)).mono ?_; rintro e z0 ⟨rfl, hS⟩
                have la := lt_of_block (hS.blk (A, .cells #[.int .i64 p.1.1, .int .i64 p.1.2] 23 (0, 0)) (List.Mem.tail _ (List.Mem.head _)))
                have ca0 := cell_two0 (hS.blk (A, .cells #[.int .i64 p.1.1, .int .i64 p.1.2] 23 (0, 0)) (List.Mem.tail _ (List.Mem.head _)))
                have ca1 := cell_two1 (hS.blk (A, .cells #[.int .i64 p.1.1, .int .i64 p.1.2] 23 (0, 0)) (List.Mem.tail _ (List.Mem.head _)))
                go_wp2_with fail
                clear la ca0 ca1
                have gN : w.heap.size ≤ z0.heap.size := hS.bel.size
                have nNb : z0.heap.size ≠ B := Nat.ne_of_gt (lt_of_block (hS.blk (B, .cells #[.int .i64 p.2.1, .int .i64 p.2.2] 23 (0, 0)) (List.Mem.head _)))
                have nNa : z0.heap.size ≠ A := Nat.ne_of_gt (lt_of_block (hS.blk (A, .cells #[.int .i64 p.1.1, .int .i64 p.1.2] 23 (0, 0)) (List.Mem.tail _ (List.Mem.head _))))
                have nNP : z0.heap.size ≠ P9 := Nat.ne_of_gt (lt_of_block (hS.blk (P9, .cells #[.int .i64 p.1.1, .int .i64 p.1.2, .int .i64 p.2.1, .int .i64 p.2.2] 29 (0, 0)) (List.Mem.tail _ (List.Mem.tail _ (List.Mem.head _)))))
                have nNg : z0.heap.size ≠ g := Nat.ne_of_gt (lt_of_block (hS.blk (g, prObj prs) (List.Mem.tail _ (List.Mem.tail _ (List.Mem.tail _ (List.Mem.head _))))))
                replace hS := hS.al (.cells #[.int .i64 n.1, .int .i64 n.2] 23 (0, 0))
                refine (hS.call (Hc2.out _)).mono ?_; rintro e z1 ⟨rfl, hS⟩
                have la := lt_of_block (hS.blk (A, .cells #[.int .i64 p.1.1, .int .i64 p.1.2] 23 (0, 0)) (List.Mem.tail _ (List.Mem.tail _ (List.Mem.head _))))
                have ca0 := cell_two0 (hS.blk (A, .cells #[.int .i64 p.1.1, .int .i64 p.1.2] 23 (0, 0)) (List.Mem.tail _ (List.Mem.tail _ (List.Mem.head _))))
                have ca1 := cell_two1 (hS.blk (A, .cells #[.int .i64 p.1.1, .int .i64 p.1.2] 23 (0, 0)) (List.Mem.tail _ (List.Mem.tail _ (List.Mem.head _))))
                have lb := lt_of_block (hS.blk (B, .cells #[.int .i64 p.2.1, .int .i64 p.2.2] 23 (0, 0)) (List.Mem.tail _ (List.Mem.head _)))
                have cb0 := cell_two0 (hS.blk (B, .cells #[.int .i64 p.2.1, .int .i64 p.2.2] 23 (0, 0)) (List.Mem.tail _ (List.Mem.head _)))
                have cb1 := cell_two1 (hS.blk (B, .cells #[.int .i64 p.2.1, .int .i64 p.2.2] 23 (0, 0)) (List.Mem.tail _ (List.Mem.head _)))
                go_wp2_with fail
                clear la ca0 ca1 lb cb0 cb1
                have gS : w.heap.size ≤ z1.heap.size := hS.bel.size
                have nSN : z1.heap.size ≠ z0.heap.size := Nat.ne_of_gt (lt_of_block (hS.blk (z0.heap.size, .cells #[.int .i64 n.1, .int .i64 n.2] 23 (0, 0)) (List.Mem.head _)))
                have nSb : z1.heap.size ≠ B := Nat.ne_of_gt (lt_of_block (hS.blk (B, .cells #[.int .i64 p.2.1, .int .i64 p.2.2] 23 (0, 0)) (List.Mem.tail _ (List.Mem.head _))))
                have nSa : z1.heap.size ≠ A := Nat.ne_of_gt (lt_of_block (hS.blk (A, .cells #[.int .i64 p.1.1, .int .i64 p.1.2] 23 (0, 0)) (List.Mem.tail _ (List.Mem.tail _ (List.Mem.head _)))))
                have nSP : z1.heap.size ≠ P9 := Nat.ne_of_gt (lt_of_block (hS.blk (P9, .cells #[.int .i64 p.1.1, .int .i64 p.1.2, .int .i64 p.2.1, .int .i64 p.2.2] 29 (0, 0)) (List.Mem.tail _ (List.Mem.tail _ (List.Mem.tail _ (List.Mem.head _))))))
                have nSg : z1.heap.size ≠ g := Nat.ne_of_gt (lt_of_block (hS.blk (g, prObj prs) (List.Mem.tail _ (List.Mem.tail _ (List.Mem.tail _ (List.Mem.tail _ (List.Mem.head _)))))))
                replace hS := hS.al (.cells #[.int .i64 (sSub p.1 p.2).1.1, .int .i64 (sSub p.1 p.2).1.2] 23 (0, 0))
                refine (hS.call (span_Sub p.1 p.2 _)).mono ?_; rintro e z2 ⟨rfl, hS⟩
                have lN := lt_of_block (hS.blk (z0.heap.size, .cells #[.int .i64 n.1, .int .i64 n.2] 23 (0, 0)) (List.Mem.tail _ (List.Mem.head _)))
                have cN0 := cell_two0 (hS.blk (z0.heap.size, .cells #[.int .i64 n.1, .int .i64 n.2] 23 (0, 0)) (List.Mem.tail _ (List.Mem.head _)))
                have cN1 := cell_two1 (hS.blk (z0.heap.size, .cells #[.int .i64 n.1, .int .i64 n.2] 23 (0, 0)) (List.Mem.tail _ (List.Mem.head _)))
                go_wp2_with fail
                clear lN cN0 cN1
                have gD : w.heap.size ≤ z2.heap.size := hS.bel.size
                have nDS : z2.heap.size ≠ z1.heap.size := Nat.ne_of_gt (lt_of_block (hS.blk (z1.heap.size, .cells #[.int .i64 (sSub p.1 p.2).1.1, .int .i64 (sSub p.1 p.2).1.2] 23 (0, 0)) (List.Mem.head _)))
                have nDN : z2.heap.size ≠ z0.heap.size := Nat.ne_of_gt (lt_of_block (hS.blk (z0.heap.size, .cells #[.int .i64 n.1, .int .i64 n.2] 23 (0, 0)) (List.Mem.tail _ (List.Mem.head _))))
                have nDb : z2.heap.size ≠ B := Nat.ne_of_gt (lt_of_block (hS.blk (B, .cells #[.int .i64 p.2.1, .int .i64 p.2.2] 23 (0, 0)) (List.Mem.tail _ (List.Mem.tail _ (List.Mem.head _)))))
                have nDa : z2.heap.size ≠ A := Nat.ne_of_gt (lt_of_block (hS.blk (A, .cells #[.int .i64 p.1.1, .int .i64 p.1.2] 23 (0, 0)) (List.Mem.tail _ (List.Mem.tail _ (List.Mem.tail _ (List.Mem.head _))))))
                have nDP : z2.heap.size ≠ P9 := Nat.ne_of_gt (lt_of_block (hS.blk (P9, .cells #[.int .i64 p.1.1, .int .i64 p.1.2, .int .i64 p.2.1, .int .i64 p.2.2] 29 (0, 0)) (List.Mem.tail _ (List.Mem.tail _ (List.Mem.tail _ (List.Mem.tail _ (List.Mem.head _)))))))
                have nDg : z2.heap.size ≠ g := Nat.ne_of_gt (lt_of_block (hS.blk (g, prObj prs) (List.Mem.tail _ (List.Mem.tail _ (List.Mem.tail _ (List.Mem.tail _ (List.Mem.tail _ (List.Mem.head _))))))))
                replace hS := hS.al (.cells #[.int .i64 (sSub p.1 p.2).1.1, .int .i64 (sSub p.1 p.2).1.2] 23 (0, 0))
                refine (hS.call (Hc3.out _)).mono ?_; rintro e z3 ⟨rfl, hS⟩
                have lb := lt_of_block (hS.blk (B, .cells #[.int .i64 p.2.1, .int .i64 p.2.2] 23 (0, 0)) (List.Mem.tail _ (List.Mem.tail _ (List.Mem.tail _ (List.Mem.head _)))))
                have cb0 := cell_two0 (hS.blk (B, .cells #[.int .i64 p.2.1, .int .i64 p.2.2] 23 (0, 0)) (List.Mem.tail _ (List.Mem.tail _ (List.Mem.tail _ (List.Mem.head _)))))
                have cb1 := cell_two1 (hS.blk (B, .cells #[.int .i64 p.2.1, .int .i64 p.2.2] 23 (0, 0)) (List.Mem.tail _ (List.Mem.tail _ (List.Mem.tail _ (List.Mem.head _)))))
                have lS := lt_of_block (hS.blk (z1.heap.size, .cells #[.int .i64 (sSub p.1 p.2).1.1, .int .i64 (sSub p.1 p.2).1.2] 23 (0, 0)) (List.Mem.tail _ (List.Mem.head _)))
                have cS0 := cell_two0 (hS.blk (z1.heap.size, .cells #[.int .i64 (sSub p.1 p.2).1.1, .int .i64 (sSub p.1 p.2).1.2] 23 (0, 0)) (List.Mem.tail _ (List.Mem.head _)))
                have cS1 := cell_two1 (hS.blk (z1.heap.size, .cells #[.int .i64 (sSub p.1 p.2).1.1, .int .i64 (sSub p.1 p.2).1.2] 23 (0, 0)) (List.Mem.tail _ (List.Mem.head _)))
                have lD := lt_of_block (hS.blk (z2.heap.size, .cells #[.int .i64 (sSub p.1 p.2).1.1, .int .i64 (sSub p.1 p.2).1.2] 23 (0, 0)) (List.Mem.head _))
                have cD0 := cell_two0 (hS.blk (z2.heap.size, .cells #[.int .i64 (sSub p.1 p.2).1.1, .int .i64 (sSub p.1 p.2).1.2] 23 (0, 0)) (List.Mem.head _))
                have cD1 := cell_two1 (hS.blk (z2.heap.size, .cells #[.int .i64 (sSub p.1 p.2).1.1, .int .i64 (sSub p.1 p.2).1.2] 23 (0, 0)) (List.Mem.head _))
                go_wp2_with fail
                clear lb cb0 cb1 lS cS0 cS1 lD cD0 cD1
                have gK : w.heap.size ≤ z3.heap.size := hS.bel.size
                have nKD : z3.heap.size ≠ z2.heap.size := Nat.ne_of_gt (lt_of_block (hS.blk (z2.heap.size, .cells #[.int .i64 (sSub p.1 p.2).1.1, .int .i64 (sSub p.1 p.2).1.2] 23 (0, 0)) (List.Mem.head _)))
                have nKS : z3.heap.size ≠ z1.heap.size := Nat.ne_of_gt (lt_of_block (hS.blk (z1.heap.size, .cells #[.int .i64 (sSub p.1 p.2).1.1, .int .i64 (sSub p.1 p.2).1.2] 23 (0, 0)) (List.Mem.tail _ (List.Mem.head _))))
                have nKN : z3.heap.size ≠ z0.heap.size := Nat.ne_of_gt (lt_of_block (hS.blk (z0.heap.size, .cells #[.int .i64 n.1, .int .i64 n.2] 23 (0, 0)) (List.Mem.tail _ (List.Mem.tail _ (List.Mem.head _)))))
                have nKb : z3.heap.size ≠ B := Nat.ne_of_gt (lt_of_block (hS.blk (B, .cells #[.int .i64 p.2.1, .int .i64 p.2.2] 23 (0, 0)) (List.Mem.tail _ (List.Mem.tail _ (List.Mem.tail _ (List.Mem.head _))))))
                have nKa : z3.heap.size ≠ A := Nat.ne_of_gt (lt_of_block (hS.blk (A, .cells #[.int .i64 p.1.1, .int .i64 p.1.2] 23 (0, 0)) (List.Mem.tail _ (List.Mem.tail _ (List.Mem.tail _ (List.Mem.tail _ (List.Mem.head _)))))))
                have nKP : z3.heap.size ≠ P9 := Nat.ne_of_gt (lt_of_block (hS.blk (P9, .cells #[.int .i64 p.1.1, .int .i64 p.1.2, .int .i64 p.2.1, .int .i64 p.2.2] 29 (0, 0)) (List.Mem.tail _ (List.Mem.tail _ (List.Mem.tail _ (List.Mem.tail _ (List.Mem.tail _ (List.Mem.head _))))))))
                have nKg : z3.heap.size ≠ g := Nat.ne_of_gt (lt_of_block (hS.blk (g, prObj prs) (List.Mem.tail _ (List.Mem.tail _ (List.Mem.tail _ (List.Mem.tail _ (List.Mem.tail _ (List.Mem.tail _ (List.Mem.head _)))))))))
                replace hS := hS.al (.cells #[.int .i64 p.2.1, .int .i64 p.2.2] 23 (0, 0))
                refine (hS.call (law2_alike (sSub p.1 p.2) _)).mono ?_; rintro e z4 ⟨rfl, hS⟩
                go_wp2_with fail
                refine (hS.call (Hc4.out _)).mono ?_; rintro e z5 ⟨rfl, hS⟩
                have la := lt_of_block (hS.blk (A, .cells #[.int .i64 p.1.1, .int .i64 p.1.2] 23 (0, 0)) (List.Mem.tail _ (List.Mem.tail _ (List.Mem.tail _ (List.Mem.tail _ (List.Mem.tail _ (List.Mem.head _)))))))
                have ca0 := cell_two0 (hS.blk (A, .cells #[.int .i64 p.1.1, .int .i64 p.1.2] 23 (0, 0)) (List.Mem.tail _ (List.Mem.tail _ (List.Mem.tail _ (List.Mem.tail _ (List.Mem.tail _ (List.Mem.head _)))))))
                have ca1 := cell_two1 (hS.blk (A, .cells #[.int .i64 p.1.1, .int .i64 p.1.2] 23 (0, 0)) (List.Mem.tail _ (List.Mem.tail _ (List.Mem.tail _ (List.Mem.tail _ (List.Mem.tail _ (List.Mem.head _)))))))
                go_wp2_with fail
                clear la ca0 ca1
                have gO : w.heap.size ≤ z5.heap.size := hS.bel.size
                have nOK : z5.heap.size ≠ z3.heap.size := Nat.ne_of_gt (lt_of_block (hS.blk (z3.heap.size, .cells #[.int .i64 p.2.1, .int .i64 p.2.2] 23 (0, 0)) (List.Mem.head _)))
                have nOD : z5.heap.size ≠ z2.heap.size := Nat.ne_of_gt (lt_of_block (hS.blk (z2.heap.size, .cells #[.int .i64 (sSub p.1 p.2).1.1, .int .i64 (sSub p.1 p.2).1.2] 23 (0, 0)) (List.Mem.tail _ (List.Mem.head _))))
                have nOS : z5.heap.size ≠ z1.heap.size := Nat.ne_of_gt (lt_of_block (hS.blk (z1.heap.size, .cells #[.int .i64 (sSub p.1 p.2).1.1, .int .i64 (sSub p.1 p.2).1.2] 23 (0, 0)) (List.Mem.tail _ (List.Mem.tail _ (List.Mem.head _)))))
                have nON : z5.heap.size ≠ z0.heap.size := Nat.ne_of_gt (lt_of_block (hS.blk (z0.heap.size, .cells #[.int .i64 n.1, .int .i64 n.2] 23 (0, 0)) (List.Mem.tail _ (List.Mem.tail _ (List.Mem.tail _ (List.Mem.head _))))))
                have nOb : z5.heap.size ≠ B := Nat.ne_of_gt (lt_of_block (hS.blk (B, .cells #[.int .i64 p.2.1, .int .i64 p.2.2] 23 (0, 0)) (List.Mem.tail _ (List.Mem.tail _ (List.Mem.tail _ (List.Mem.tail _ (List.Mem.head _)))))))
                have nOa : z5.heap.size ≠ A := Nat.ne_of_gt (lt_of_block (hS.blk (A, .cells #[.int .i64 p.1.1, .int .i64 p.1.2] 23 (0, 0)) (List.Mem.tail _ (List.Mem.tail _ (List.Mem.tail _ (List.Mem.tail _ (List.Mem.tail _ (List.Mem.head _))))))))
                have nOP : z5.heap.size ≠ P9 := Nat.ne_of_gt (lt_of_block (hS.blk (P9, .cells #[.int .i64 p.1.1, .int .i64 p.1.2, .int .i64 p.2.1, .int .i64 p.2.2] 29 (0, 0)) (List.Mem.tail _ (List.Mem.tail _ (List.Mem.tail _ (List.Mem.tail _ (List.Mem.tail _ (List.Mem.tail _ (List.Mem.head _)))))))))
                have nOg : z5.heap.size ≠ g := Nat.ne_of_gt (lt_of_block (hS.blk (g, prObj prs) (List.Mem.tail _ (List.Mem.tail _ (List.Mem.tail _ (List.Mem.tail _ (List.Mem.tail _ (List.Mem.tail _ (List.Mem.tail _ (List.Mem.head _))))))))))
                replace hS := hS.al (.cells #[.int .i64 4294967296, .int .i64 4294967296] 23 (0, 0))
                refine (hS.call (Hc5.out _)).mono ?_; rintro e z6 ⟨rfl, hS⟩
                have lS := lt_of_block (hS.blk (z1.heap.size, .cells #[.int .i64 (sSub p.1 p.2).1.1, .int .i64 (sSub p.1 p.2).1.2] 23 (0, 0)) (List.Mem.tail _ (List.Mem.tail _ (List.Mem.tail _ (List.Mem.head _)))))
                have cS0 := cell_two0 (hS.blk (z1.heap.size, .cells #[.int .i64 (sSub p.1 p.2).1.1, .int .i64 (sSub p.1 p.2).1.2] 23 (0, 0)) (List.Mem.tail _ (List.Mem.tail _ (List.Mem.tail _ (List.Mem.head _)))))
                have cS1 := cell_two1 (hS.blk (z1.heap.size, .cells #[.int .i64 (sSub p.1 p.2).1.1, .int .i64 (sSub p.1 p.2).1.2] 23 (0, 0)) (List.Mem.tail _ (List.Mem.tail _ (List.Mem.tail _ (List.Mem.head _)))))
                have la := lt_of_block (hS.blk (A, .cells #[.int .i64 p.1.1, .int .i64 p.1.2] 23 (0, 0)) (List.Mem.tail _ (List.Mem.tail _ (List.Mem.tail _ (List.Mem.tail _ (List.Mem.tail _ (List.Mem.tail _ (List.Mem.head _))))))))
                have ca0 := cell_two0 (hS.blk (A, .cells #[.int .i64 p.1.1, .int .i64 p.1.2] 23 (0, 0)) (List.Mem.tail _ (List.Mem.tail _ (List.Mem.tail _ (List.Mem.tail _ (List.Mem.tail _ (List.Mem.tail _ (List.Mem.head _))))))))
                have ca1 := cell_two1 (hS.blk (A, .cells #[.int .i64 p.1.1, .int .i64 p.1.2] 23 (0, 0)) (List.Mem.tail _ (List.Mem.tail _ (List.Mem.tail _ (List.Mem.tail _ (List.Mem.tail _ (List.Mem.tail _ (List.Mem.head _))))))))
                have lO := lt_of_block (hS.blk (z5.heap.size, .cells #[.int .i64 4294967296, .int .i64 4294967296] 23 (0, 0)) (List.Mem.head _))
                have cO0 := cell_two0 (hS.blk (z5.heap.size, .cells #[.int .i64 4294967296, .int .i64 4294967296] 23 (0, 0)) (List.Mem.head _))
                have cO1 := cell_two1 (hS.blk (z5.heap.size, .cells #[.int .i64 4294967296, .int .i64 4294967296] 23 (0, 0)) (List.Mem.head _))
                have fS0 := free_two (i := 0) (hS.blk (z1.heap.size, .cells #[.int .i64 (sSub p.1 p.2).1.1, .int .i64 (sSub p.1 p.2).1.2] 23 (0, 0)) (List.Mem.tail _ (List.Mem.tail _ (List.Mem.tail _ (List.Mem.head _)))))
                have fS1 := free_two (i := 1) (hS.blk (z1.heap.size, .cells #[.int .i64 (sSub p.1 p.2).1.1, .int .i64 (sSub p.1 p.2).1.2] 23 (0, 0)) (List.Mem.tail _ (List.Mem.tail _ (List.Mem.tail _ (List.Mem.head _)))))
                have q0 := nSa
                have r0 := (Ne.symm nSa)
                have q1 := (Ne.symm nOS)
                have r1 := nOS
                go_wp2_with fail
                clear lS cS0 cS1 la ca0 ca1 lO cO0 cO1 fS0 fS1 q0 r0 q1 r1
                replace hS := hS.st (u := .int .i64 p.1.1) (v := .int .i64 p.1.2) (List.Mem.tail _ (List.Mem.tail _ (List.Mem.tail _ (List.Mem.head _)))) gS (List.forall_mem_cons.2 ⟨⟨(List.Mem.head _), nOS⟩, (List.forall_mem_cons.2 ⟨⟨(List.Mem.tail _ (List.Mem.head _)), nKS⟩, (List.forall_mem_cons.2 ⟨⟨(List.Mem.tail _ (List.Mem.tail _ (List.Mem.head _))), nDS⟩, (List.forall_mem_cons.2 ⟨⟨(List.Mem.tail _ (List.Mem.tail _ (List.Mem.tail _ (List.Mem.tail _ (List.Mem.head _))))), (Ne.symm nSN)⟩, (List.forall_mem_cons.2 ⟨⟨(List.Mem.tail _ (List.Mem.tail _ (List.Mem.tail _ (List.Mem.tail _ (List.Mem.tail _ (List.Mem.head _)))))), (Ne.symm nSb)⟩, (List.forall_mem_cons.2 ⟨⟨(List.Mem.tail _ (List.Mem.tail _ (List.Mem.tail _ (List.Mem.tail _ (List.Mem.tail _ (List.Mem.tail _ (List.Mem.head _))))))), (Ne.symm nSa)⟩, (List.forall_mem_cons.2 ⟨⟨(List.Mem.tail _ (List.Mem.tail _ (List.Mem.tail _ (List.Mem.tail _ (List.Mem.tail _ (List.Mem.tail _ (List.Mem.tail _ (List.Mem.head _)))))))), (Ne.symm nSP)⟩, (List.forall_mem_cons.2 ⟨⟨(List.Mem.tail _ (List.Mem.tail _ (List.Mem.tail _ (List.Mem.tail _ (List.Mem.tail _ (List.Mem.tail _ (List.Mem.tail _ (List.Mem.tail _ (List.Mem.head _))))))))), (Ne.symm nSg)⟩, (List.forall_mem_nil _)⟩)⟩)⟩)⟩)⟩)⟩)⟩)⟩)
                refine (hS.call (Hc6.out _)).mono ?_; rintro e z7 ⟨rfl, hS⟩
                have lD := lt_of_block (hS.blk (z2.heap.size, .cells #[.int .i64 (sSub p.1 p.2).1.1, .int .i64 (sSub p.1 p.2).1.2] 23 (0, 0)) (List.Mem.tail _ (List.Mem.tail _ (List.Mem.tail _ (List.Mem.head _)))))
                have cD0 := cell_two0 (hS.blk (z2.heap.size, .cells #[.int .i64 (sSub p.1 p.2).1.1, .int .i64 (sSub p.1 p.2).1.2] 23 (0, 0)) (List.Mem.tail _ (List.Mem.tail _ (List.Mem.tail _ (List.Mem.head _)))))
                have cD1 := cell_two1 (hS.blk (z2.heap.size, .cells #[.int .i64 (sSub p.1 p.2).1.1, .int .i64 (sSub p.1 p.2).1.2] 23 (0, 0)) (List.Mem.tail _ (List.Mem.tail _ (List.Mem.tail _ (List.Mem.head _)))))
                have lS := lt_of_block (hS.blk (z1.heap.size, .cells #[.int .i64 p.1.1, .int .i64 p.1.2] 23 (0, 0)) (List.Mem.head _))
                have cS0 := cell_two0 (hS.blk (z1.heap.size, .cells #[.int .i64 p.1.1, .int .i64 p.1.2] 23 (0, 0)) (List.Mem.head _))
                have cS1 := cell_two1 (hS.blk (z1.heap.size, .cells #[.int .i64 p.1.1, .int .i64 p.1.2] 23 (0, 0)) (List.Mem.head _))
                have la := lt_of_block (hS.blk (A, .cells #[.int .i64 p.1.1, .int .i64 p.1.2] 23 (0, 0)) (List.Mem.tail _ (List.Mem.tail _ (List.Mem.tail _ (List.Mem.tail _ (List.Mem.tail _ (List.Mem.tail _ (List.Mem.head _))))))))
                have ca0 := cell_two0 (hS.blk (A, .cells #[.int .i64 p.1.1, .int .i64 p.1.2] 23 (0, 0)) (List.Mem.tail _ (List.Mem.tail _ (List.Mem.tail _ (List.Mem.tail _ (List.Mem.tail _ (List.Mem.tail _ (List.Mem.head _))))))))
                have ca1 := cell_two1 (hS.blk (A, .cells #[.int .i64 p.1.1, .int .i64 p.1.2] 23 (0, 0)) (List.Mem.tail _ (List.Mem.tail _ (List.Mem.tail _ (List.Mem.tail _ (List.Mem.tail _ (List.Mem.tail _ (List.Mem.head _))))))))
                have fD0 := free_two (i := 0) (hS.blk (z2.heap.size, .cells #[.int .i64 (sSub p.1 p.2).1.1, .int .i64 (sSub p.1 p.2).1.2] 23 (0, 0)) (List.Mem.tail _ (List.Mem.tail _ (List.Mem.tail _ (List.Mem.head _)))))
                have fD1 := free_two (i := 1) (hS.blk (z2.heap.size, .cells #[.int .i64 (sSub p.1 p.2).1.1, .int .i64 (sSub p.1 p.2).1.2] 23 (0, 0)) (List.Mem.tail _ (List.Mem.tail _ (List.Mem.tail _ (List.Mem.head _)))))
                have q0 := nDS
                have r0 := (Ne.symm nDS)
                have q1 := nDa
                have r1 := (Ne.symm nDa)
                go_wp2_with fail
                clear lD cD0 cD1 lS cS0 cS1 la ca0 ca1 fD0 fD1 q0 r0 q1 r1
                replace hS := hS.st (u := .int .i64 p.1.1) (v := .int .i64 p.1.2) (List.Mem.tail _ (List.Mem.tail _ (List.Mem.tail _ (List.Mem.head _)))) gD (List.forall_mem_cons.2 ⟨⟨(List.Mem.head _), (Ne.symm nDS)⟩, (List.forall_mem_cons.2 ⟨⟨(List.Mem.tail _ (List.Mem.head _)), nOD⟩, (List.forall_mem_cons.2 ⟨⟨(List.Mem.tail _ (List.Mem.tail _ (List.Mem.head _))), nKD⟩, (List.forall_mem_cons.2 ⟨⟨(List.Mem.tail _ (List.Mem.tail _ (List.Mem.tail _ (List.Mem.tail _ (List.Mem.head _))))), (Ne.symm nDN)⟩, (List.forall_mem_cons.2 ⟨⟨(List.Mem.tail _ (List.Mem.tail _ (List.Mem.tail _ (List.Mem.tail _ (List.Mem.tail _ (List.Mem.head _)))))), (Ne.symm nDb)⟩, (List.forall_mem_cons.2 ⟨⟨(List.Mem.tail _ (List.Mem.tail _ (List.Mem.tail _ (List.Mem.tail _ (List.Mem.tail _ (List.Mem.tail _ (List.Mem.head _))))))), (Ne.symm nDa)⟩, (List.forall_mem_cons.2 ⟨⟨(List.Mem.tail _ (List.Mem.tail _ (List.Mem.tail _ (List.Mem.tail _ (List.Mem.tail _ (List.Mem.tail _ (List.Mem.tail _ (List.Mem.head _)))))))), (Ne.symm nDP)⟩, (List.forall_mem_cons.2 ⟨⟨(List.Mem.tail _ (List.Mem.tail _ (List.Mem.tail _ (List.Mem.tail _ (List.Mem.tail _ (List.Mem.tail _ (List.Mem.tail _ (List.Mem.tail _ (List.Mem.head _))))))))), (Ne.symm nDg)⟩, (List.forall_mem_nil _)⟩)⟩)⟩)⟩)⟩)⟩)⟩)⟩)
                refine (hS.call (span_Sqr p.1 _)).mono ?_; rintro e z8 ⟨rfl, hS⟩
                have lS := lt_of_block (hS.blk (z1.heap.size, .cells #[.int .i64 p.1.1, .int .i64 p.1.2] 23 (0, 0)) (List.Mem.tail _ (List.Mem.head _)))
                have cS0 := cell_two0 (hS.blk (z1.heap.size, .cells #[.int .i64 p.1.1, .int .i64 p.1.2] 23 (0, 0)) (List.Mem.tail _ (List.Mem.head _)))
                have cS1 := cell_two1 (hS.blk (z1.heap.size, .cells #[.int .i64 p.1.1, .int .i64 p.1.2] 23 (0, 0)) (List.Mem.tail _ (List.Mem.head _)))
                have la := lt_of_block (hS.blk (A, .cells #[.int .i64 p.1.1, .int .i64 p.1.2] 23 (0, 0)) (List.Mem.tail _ (List.Mem.tail _ (List.Mem.tail _ (List.Mem.tail _ (List.Mem.tail _ (List.Mem.tail _ (List.Mem.head _))))))))
                have ca0 := cell_two0 (hS.blk (A, .cells #[.int .i64 p.1.1, .int .i64 p.1.2] 23 (0, 0)) (List.Mem.tail _ (List.Mem.tail _ (List.Mem.tail _ (List.Mem.tail _ (List.Mem.tail _ (List.Mem.tail _ (List.Mem.head _))))))))
                have ca1 := cell_two1 (hS.blk (A, .cells #[.int .i64 p.1.1, .int .i64 p.1.2] 23 (0, 0)) (List.Mem.tail _ (List.Mem.tail _ (List.Mem.tail _ (List.Mem.tail _ (List.Mem.tail _ (List.Mem.tail _ (List.Mem.head _))))))))
                have fS0 := free_two (i := 0) (hS.blk (z1.heap.size, .cells #[.int .i64 p.1.1, .int .i64 p.1.2] 23 (0, 0)) (List.Mem.tail _ (List.Mem.head _)))
                have fS1 := free_two (i := 1) (hS.blk (z1.heap.size, .cells #[.int .i64 p.1.1, .int .i64 p.1.2] 23 (0, 0)) (List.Mem.tail _ (List.Mem.head _)))
                have q0 := nSa
                have r0 := (Ne.symm nSa)
                go_wp2_with fail
                clear lS cS0 cS1 la ca0 ca1 fS0 fS1 q0 r0
                replace hS := hS.st (u := .int .i64 (sPow p.1 2).1.1) (v := .int .i64 (sPow p.1 2).1.2) (List.Mem.tail _ (List.Mem.head _)) gS (List.forall_mem_cons.2 ⟨⟨(List.Mem.head _), nDS⟩, (List.forall_mem_cons.2 ⟨⟨(List.Mem.tail _ (List.Mem.tail _ (List.Mem.head _))), nOS⟩, (List.forall_mem_cons.2 ⟨⟨(List.Mem.tail _ (List.Mem.tail _ (List.Mem.tail _ (List.Mem.head _)))), nKS⟩, (List.forall_mem_cons.2 ⟨⟨(List.Mem.tail _ (List.Mem.tail _ (List.Mem.tail _ (List.Mem.tail _ (List.Mem.head _))))), (Ne.symm nSN)⟩, (List.forall_mem_cons.2 ⟨⟨(List.Mem.tail _ (List.Mem.tail _ (List.Mem.tail _ (List.Mem.tail _ (List.Mem.tail _ (List.Mem.head _)))))), (Ne.symm nSb)⟩, (List.forall_mem_cons.2 ⟨⟨(List.Mem.tail _ (List.Mem.tail _ (List.Mem.tail _ (List.Mem.tail _ (List.Mem.tail _ (List.Mem.tail _ (List.Mem.head _))))))), (Ne.symm nSa)⟩, (List.forall_mem_cons.2 ⟨⟨(List.Mem.tail _ (List.Mem.tail _ (List.Mem.tail _ (List.Mem.tail _ (List.Mem.tail _ (List.Mem.tail _ (List.Mem.tail _ (List.Mem.head _)))))))), (Ne.symm nSP)⟩, (List.forall_mem_cons.2 ⟨⟨(List.Mem.tail _ (List.Mem.tail _ (List.Mem.tail _ (List.Mem.tail _ (List.Mem.tail _ (List.Mem.tail _ (List.Mem.tail _ (List.Mem.tail _ (List.Mem.head _))))))))), (Ne.symm nSg)⟩, (List.forall_mem_nil _)⟩)⟩)⟩)⟩)⟩)⟩)⟩)⟩)
                refine (hS.call (span_Mul p.1 p.1 _)).mono ?_; rintro e z9 ⟨rfl, hS⟩
                have lS := lt_of_block (hS.blk (z1.heap.size, .cells #[.int .i64 (sPow p.1 2).1.1, .int .i64 (sPow p.1 2).1.2] 23 (0, 0)) (List.Mem.head _))
                have cS0 := cell_two0 (hS.blk (z1.heap.size, .cells #[.int .i64 (sPow p.1 2).1.1, .int .i64 (sPow p.1 2).1.2] 23 (0, 0)) (List.Mem.head _))
                have cS1 := cell_two1 (hS.blk (z1.heap.size, .cells #[.int .i64 (sPow p.1 2).1.1, .int .i64 (sPow p.1 2).1.2] 23 (0, 0)) (List.Mem.head _))
                have lD := lt_of_block (hS.blk (z2.heap.size, .cells #[.int .i64 p.1.1, .int .i64 p.1.2] 23 (0, 0)) (List.Mem.tail _ (List.Mem.head _)))
                have cD0 := cell_two0 (hS.blk (z2.heap.size, .cells #[.int .i64 p.1.1, .int .i64 p.1.2] 23 (0, 0)) (List.Mem.tail _ (List.Mem.head _)))
                have cD1 := cell_two1 (hS.blk (z2.heap.size, .cells #[.int .i64 p.1.1, .int .i64 p.1.2] 23 (0, 0)) (List.Mem.tail _ (List.Mem.head _)))
                have fD0 := free_two (i := 0) (hS.blk (z2.heap.size, .cells #[.int .i64 p.1.1, .int .i64 p.1.2] 23 (0, 0)) (List.Mem.tail _ (List.Mem.head _)))
                have fD1 := free_two (i := 1) (hS.blk (z2.heap.size, .cells #[.int .i64 p.1.1, .int .i64 p.1.2] 23 (0, 0)) (List.Mem.tail _ (List.Mem.head _)))
                have q0 := nDS
                have r0 := (Ne.symm nDS)
                go_wp2_with fail
                clear lS cS0 cS1 lD cD0 cD1 fD0 fD1 q0 r0
                replace hS := hS.st (u := .int .i64 (sMul p.1 p.1).1.1) (v := .int .i64 (sMul p.1 p.1).1.2) (List.Mem.tail _ (List.Mem.head _)) gD (List.forall_mem_cons.2 ⟨⟨(List.Mem.head _), (Ne.symm nDS)⟩, (List.forall_mem_cons.2 ⟨⟨(List.Mem.tail _ (List.Mem.tail _ (List.Mem.head _))), nOD⟩, (List.forall_mem_cons.2 ⟨⟨(List.Mem.tail _ (List.Mem.tail _ (List.Mem.tail _ (List.Mem.head _)))), nKD⟩, (List.forall_mem_cons.2 ⟨⟨(List.Mem.tail _ (List.Mem.tail _ (List.Mem.tail _ (List.Mem.tail _ (List.Mem.head _))))), (Ne.symm nDN)⟩, (List.forall_mem_cons.2 ⟨⟨(List.Mem.tail _ (List.Mem.tail _ (List.Mem.tail _ (List.Mem.tail _ (List.Mem.tail _ (List.Mem.head _)))))), (Ne.symm nDb)⟩, (List.forall_mem_cons.2 ⟨⟨(List.Mem.tail _ (List.Mem.tail _ (List.Mem.tail _ (List.Mem.tail _ (List.Mem.tail _ (List.Mem.tail _ (List.Mem.head _))))))), (Ne.symm nDa)⟩, (List.forall_mem_cons.2 ⟨⟨(List.Mem.tail _ (List.Mem.tail _ (List.Mem.tail _ (List.Mem.tail _ (List.Mem.tail _ (List.Mem.tail _ (List.Mem.tail _ (List.Mem.head _)))))))), (Ne.symm nDP)⟩, (List.forall_mem_cons.2 ⟨⟨(List.Mem.tail _ (List.Mem.tail _ (List.Mem.tail _ (List.Mem.tail _ (List.Mem.tail _ (List.Mem.tail _ (List.Mem.tail _ (List.Mem.tail _ (List.Mem.head _))))))))), (Ne.symm nDg)⟩, (List.forall_mem_nil _)⟩)⟩)⟩)⟩)⟩)⟩)⟩)⟩)
                refine (hS.call (law2_inside (sSqr_in HAok.out) _)).mono ?_; rintro e z10 ⟨rfl, hS⟩
                go_wp2_with fail
                go_roundw
                case rel => exact ⟨k + 1, by omega, by go_num, Lib.hid (hS.sub (by simp))⟩
                case measure => simp [intOf]; omega
          · have HAok := Lib.hid ha
            have HBok := Lib.hid hb
            clear ha hb
            have HM := Lib.hid (show sMul p.1 p.2 = ((0, 0), 20) from on2_bad (fun g => HBok.out g.2))
            have c1 := fun W => span_Mul p.1 p.2 W
            rw [HM.out] at c1
            have Hc1 := Lib.hid c1
            clear c1
            have la := lt_of_block (hS.blk (A, .cells #[.int .i64 p.1.1, .int .i64 p.1.2] 23 (0, 0)) (List.Mem.tail _ (List.Mem.head _)))
            have ca0 := cell_two0 (hS.blk (A, .cells #[.int .i64 p.1.1, .int .i64 p.1.2] 23 (0, 0)) (List.Mem.tail _ (List.Mem.head _)))
            have ca1 := cell_two1 (hS.blk (A, .cells #[.int .i64 p.1.1, .int .i64 p.1.2] 23 (0, 0)) (List.Mem.tail _ (List.Mem.head _)))
            have lb := lt_of_block (hS.blk (B, .cells #[.int .i64 p.2.1, .int .i64 p.2.2] 23 (0, 0)) (List.Mem.head _))
            have cb0 := cell_two0 (hS.blk (B, .cells #[.int .i64 p.2.1, .int .i64 p.2.2] 23 (0, 0)) (List.Mem.head _))
            have cb1 := cell_two1 (hS.blk (B, .cells #[.int .i64 p.2.1, .int .i64 p.2.2] 23 (0, 0)) (List.Mem.head _))
            go_wp2_with fail
            clear la ca0 ca1 lb cb0 cb1
            refine (hS.call (span_Check_ok HAok.out _)).mono ?_; rintro e v0 ⟨rfl, hS⟩
            have la := lt_of_block (hS.blk (A, .cells #[.int .i64 p.1.1, .int .i64 p.1.2] 23 (0, 0)) (List.Mem.tail _ (List.Mem.head _)))
            have ca0 := cell_two0 (hS.blk (A, .cells #[.int .i64 p.1.1, .int .i64 p.1.2] 23 (0, 0)) (List.Mem.tail _ (List.Mem.head _)))
            have ca1 := cell_two1 (hS.blk (A, .cells #[.int .i64 p.1.1, .int .i64 p.1.2] 23 (0, 0)) (List.Mem.tail _ (List.Mem.head _)))
            have lb := lt_of_block (hS.blk (B, .cells #[.int .i64 p.2.1, .int .i64 p.2.2] 23 (0, 0)) (List.Mem.head _))
            have cb0 := cell_two0 (hS.blk (B, .cells #[.int .i64 p.2.1, .int .i64 p.2.2] 23 (0, 0)) (List.Mem.head _))
            have cb1 := cell_two1 (hS.blk (B, .cells #[.int .i64 p.2.1, .int .i64 p.2.2] 23 (0, 0)) (List.Mem.head _))
            go_wp2_with fail
            clear la ca0 ca1 lb cb0 cb1
            refine (hS.call (span_Check_bad HBok.out _)).mono ?_; rintro e v1 ⟨rfl, hS⟩
            have la := lt_of_block (hS.blk (A, .cells #[.int .i64 p.1.1, .int .i64 p.1.2] 23 (0, 0)) (List.Mem.tail _ (List.Mem.head _)))
            have ca0 := cell_two0 (hS.blk (A, .cells #[.int .i64 p.1.1, .int .i64 p.1.2] 23 (0, 0)) (List.Mem.tail _ (List.Mem.head _)))
            have ca1 := cell_two1 (hS.blk (A, .cells #[.int .i64 p.1.1, .int .i64 p.1.2] 23 (0, 0)) (List.Mem.tail _ (List.Mem.head _)))
            have lb := lt_of_block (hS.blk (B, .cells #[.int .i64 p.2.1, .int .i64 p.2.2] 23 (0, 0)) (List.Mem.head _))
            have cb0 := cell_two0 (hS.blk (B, .cells #[.int .i64 p.2.1, .int .i64 p.2.2] 23 (0, 0)) (List.Mem.head _))
            have cb1 := cell_two1 (hS.blk (B, .cells #[.int .i64 p.2.1, .int .i64 p.2.2] 23 (0, 0)) (List.Mem.head _))
            go_wp2_with fail
            clear la ca0 ca1 lb cb0 cb1
            refine (hS.call (Hc1.out _)).mono ?_; rintro e v9 ⟨rfl, hS⟩
            replace hS := hS.al (.cells #[.int .i64 0, .int .i64 0] 23 (0, 0))
            go_wp2_with fail
            go_roundw
            case rel => exact ⟨k + 1, by omega, by go_num, Lib.hid (hS.sub (by simp))⟩
            case measure => simp [intOf]; omega
        · have HAok := Lib.hid ha
          clear ha
          have HM := Lib.hid (show sMul p.1 p.2 = ((0, 0), 20) from on2_bad (fun g => HAok.out g.1))
          have c1 := fun W => span_Mul p.1 p.2 W
          rw [HM.out] at c1
          have Hc1 := Lib.hid c1
          clear c1
          have la := lt_of_block (hS.blk (A, .cells #[.int .i64 p.1.1, .int .i64 p.1.2] 23 (0, 0)) (List.Mem.tail _ (List.Mem.head _)))
          have ca0 := cell_two0 (hS.blk (A, .cells #[.int .i64 p.1.1, .int .i64 p.1.2] 23 (0, 0)) (List.Mem.tail _ (List.Mem.head _)))
          have ca1 := cell_two1 (hS.blk (A, .cells #[.int .i64 p.1.1, .int .i64 p.1.2] 23 (0, 0)) (List.Mem.tail _ (List.Mem.head _)))
          have lb := lt_of_block (hS.blk (B, .cells #[.int .i64 p.2.1, .int .i64 p.2.2] 23 (0, 0)) (List.Mem.head _))
          have cb0 := cell_two0 (hS.blk (B, .cells #[.int .i64 p.2.1, .int .i64 p.2.2] 23 (0, 0)) (List.Mem.head _))
          have cb1 := cell_two1 (hS.blk (B, .cells #[.int .i64 p.2.1, .int .i64 p.2.2] 23 (0, 0)) (List.Mem.head _))
          go_wp2_with fail
          clear la ca0 ca1 lb cb0 cb1
          refine (hS.call (span_Check_bad HAok.out _)).mono ?_; rintro e v0 ⟨rfl, hS⟩
          have la := lt_of_block (hS.blk (A, .cells #[.int .i64 p.1.1, .int .i64 p.1.2] 23 (0, 0)) (List.Mem.tail _ (List.Mem.head _)))
          have ca0 := cell_two0 (hS.blk (A, .cells #[.int .i64 p.1.1, .int .i64 p.1.2] 23 (0, 0)) (List.Mem.tail _ (List.Mem.head _)))
          have ca1 := cell_two1 (hS.blk (A, .cells #[.int .i64 p.1.1, .int .i64 p.1.2] 23 (0, 0)) (List.Mem.tail _ (List.Mem.head _)))
          have lb := lt_of_block (hS.blk (B, .cells #[.int .i64 p.2.1, .int .i64 p.2.2] 23 (0, 0)) (List.Mem.head _))
          have cb0 := cell_two0 (hS.blk (B, .cells #[.int .i64 p.2.1, .int .i64 p.2.2] 23 (0, 0)) (List.Mem.head _))
          have cb1 := cell_two1 (hS.blk (B, .cells #[.int .i64 p.2.1, .int .i64 p.2.2] 23 (0, 0)) (List.Mem.head _))
          go_wp2_with fail
          clear la ca0 ca1 lb cb0 cb1
          refine (hS.call (Hc1.out _)).mono ?_; rintro e v9 ⟨rfl, hS⟩
          replace hS := hS.al (.cells #[.int .i64 0, .int .i64 0] 23 (0, 0))
          go_wp2_with fail
          go_roundw
          case rel => exact ⟨k + 1, by omega, by go_num, Lib.hid (hS.sub (by simp))⟩
          case measure => simp [intOf]; omega
    · obtain rfl : k = 5 := by omega
      go_wp2_with fail
      go_ret
      exact ⟨rfl, HA.out.bel⟩
end Go.Proofs.YtjphhdfkkkdppaaDoor
