/- The walk of monoclelaw02.SpanParts. Printed by a generator. -/
import Derived.Deep.DeepCutAuto
import Derived.Test.YtjphhdfkkkdppaaDoorLawU
import Derived.Test.YtjphhdfkkkdppaaDoorRefSE
namespace Go.Proofs.YtjphhdfkkkdppaaDoor
open Go.RowKit Mnc
attribute [local go_sem] RunS_value RunS_skip RunS_enter evS_tmp evS_const evS_global evS_func

structure PtA (W : World) (P : Nat) (p : (Int × Int) × (Int × Int)) (L : Nat → Bool) (s : Nat → Value) (w : World) : Prop where
  bel : Below W.heap.size W w
  e0 : L 0 = true → s 41 = .pointer (some ⟨P, 0, none⟩)
  e1 : L 1 = true → s 42 = .agg #[.int .i64 p.1.1, .int .i64 p.1.2]
  e2 : L 2 = true → s 43 = .pointer (some ⟨P, 2, none⟩)
  e3 : L 3 = true → s 44 = .agg #[.int .i64 p.2.1, .int .i64 p.2.2]
  e4 : L 4 = true → Bx w W.heap.size (s 7) (L 6 = true) p.1
  e5 : L 5 = true → Bx w W.heap.size (s 8) (L 7 = true) p.2
  ne : L 4 = true → L 5 = true → s 7 ≠ s 8
  d6 : L 6 = true → L 4 = true
  d7 : L 7 = true → L 5 = true

set_option maxRecDepth 100000 in
set_option maxHeartbeats 8000000 in
theorem law2_SpanParts (T : Tw) (hT : T.ok) (v : Int) (w : World) (hP : Pows w) :
    Calls Tryd.prog 10 #[T.val, .int .i64 v] w fun e w' => e = .returned (.bool true) ∧ Below w.heap.size w w' := by
  have HP := Lib.hid (hP.below (below_alloc (Below.refl _ _) T.obj))
  have HT := Lib.hid hT
  clear hP hT
  have hS := (Kn.start w).al T.obj
  unfold Tw.val
  go_enter Tryd.func10, Tryd.ntmps10
  go_wp2_with fail
  refine (hS.call (law2_works _ HP.out)).mono ?_; rintro e w1 ⟨rfl, hS⟩
  obtain ⟨k0, k1, k2, k3, k4, k5, k6, k7, k8, k9⟩ := tw_all (hS.blk (w.heap.size, T.obj) (by simp))
  go_wp2_with fail
  refine (hS.pairs T HT.out).mono ?_; rintro e w2 ⟨g, rfl, hS⟩
  have HS := Lib.hid (hS.sub (cs := [(g, prObj (prsOf T))]) (by simp))
  have HL := Lib.hid (show (prsOf T).length = 5 from rfl)
  have HOK := Lib.hid (prs_ok HT.out)
  clear hS k0 k1 k2 k3 k4 k5 k6 k7 k8 k9 HP
  generalize prsOf T = prs at *
  go_wp2_with fail
  go_loopw [37] (fun i wr => ∃ k : Nat, k ≤ 3 ∧ i = .int .i64 k ∧ Hid (Kn w wr [(g, prObj prs)])) (fun i _ => 3 - (intOf i).toNat)
  case atStart => exact ⟨0, by omega, rfl, HS⟩
  case round =>
    clear HS
    obtain ⟨k, hk, rfl, HA⟩ := hrel
    rcases Nat.lt_or_ge k 3 with hk' | hk'
    · obtain ⟨p, hp⟩ : ∃ p, prs[k + 1]? = some p := ⟨_, List.getElem?_eq_getElem (by rw [HL.out]; omega)⟩
      obtain ⟨c0, c1, c2, c3⟩ := pr_cells4 (HA.out.blk (g, prObj prs) (by simp)) hp
      obtain ⟨ha, hb⟩ := HOK.out k p hk' hp
      have HAok := Lib.hid ha
      have HBok := Lib.hid hb
      have hS := HA.out
      clear hp ha hb
      have HK := Lib.hid (hS.al (.cells #[.int .i64 p.1.1, .int .i64 p.1.2, .int .i64 p.2.1, .int .i64 p.2.2] 29 (0, 0)))
      clear hS
      go_upto_region 6 with (fail)
      clear c0 c1 c2 c3
      have HPB := Lib.hid (HK.out.blk (wr.heap.size, .cells #[.int .i64 p.1.1, .int .i64 p.1.2, .int .i64 p.2.1, .int .i64 p.2.2] 29 (0, 0)) (List.Mem.head _))
      obtain ⟨W9, hW9⟩ : ∃ W9, W9 = wr.alloc (.cells #[.int .i64 p.1.1, .int .i64 p.1.2, .int .i64 p.2.1, .int .i64 p.2.2] 29 (0, 0)) := ⟨_, rfl⟩
      obtain ⟨P9, hP9⟩ : ∃ P9, P9 = wr.heap.size := ⟨_, rfl⟩
      rw [← hW9] at HK HPB ⊢
      rw [← hP9] at HK HPB ⊢
      clear hW9 hP9
      go_cut [7, 8] (fun a b wx => ∃ A B : Nat, a = .pointer (some ⟨A, 0, none⟩) ∧ b = .pointer (some ⟨B, 0, none⟩) ∧ Hid (Kn w wx [(B, .cells #[.int .i64 p.2.1, .int .i64 p.2.2] 23 (0, 0)), (A, .cells #[.int .i64 p.1.1, .int .i64 p.1.2] 23 (0, 0)), (P9, .cells #[.int .i64 p.1.1, .int .i64 p.1.2, .int .i64 p.2.1, .int .i64 p.2.2] 29 (0, 0)), (g, prObj prs)]))
      case first =>
        refine wp_region_inv (PtA W9 P9 p) (by kernel_rfl) (by kernel_rfl) ?_ ?_ ?_
        · exact ⟨(Below.refl _ _).drew, fun h => absurd h Bool.false_ne_true, fun h => absurd h Bool.false_ne_true, fun h => absurd h Bool.false_ne_true, fun h => absurd h Bool.false_ne_true, fun h => absurd h Bool.false_ne_true, fun h => absurd h Bool.false_ne_true, fun h => absurd h Bool.false_ne_true, fun h => absurd h Bool.false_ne_true, fun h => absurd h Bool.false_ne_true⟩
        · refine AllS.cons ?_ (AllS.cons ?_ (AllS.cons ?_ (AllS.cons ?_ (AllS.cons ?_ (AllS.cons ?_ (AllS.cons ?_ (AllS.cons ?_ AllS.nil)))))))
          · intro L s w2 h hk hd hn
            have s6 : s 6 = _ := hk 6 (by kernel_rfl)
            refine stepS rfl fun K hK => ?_
            go_simp
            exact hK _ _ { h with e0 := fun _ => rfl }
          · intro L s w2 h hk hd hn
            have s41 := h.e0 hd.1
            obtain ⟨c0, c1, c2, c3⟩ := cell_four ((h.bel.block _ (lt_of_block HPB.out)).trans HPB.out)
            refine stepS rfl fun K hK => ?_
            go_simp
            exact hK _ _ { h with e1 := fun _ => rfl }
          · intro L s w2 h hk hd hn
            have s6 : s 6 = _ := hk 6 (by kernel_rfl)
            refine stepS rfl fun K hK => ?_
            go_simp
            exact hK _ _ { h with e2 := fun _ => rfl }
          · intro L s w2 h hk hd hn
            have s43 := h.e2 hd.1
            obtain ⟨c0, c1, c2, c3⟩ := cell_four ((h.bel.block _ (lt_of_block HPB.out)).trans HPB.out)
            refine stepS rfl fun K hK => ?_
            go_simp
            exact hK _ _ { h with e3 := fun _ => rfl }
          · intro L s w2 h hk hd hn
            refine stepS rfl fun K hK => ?_
            go_simp
            exact hK _ _ { h with bel := below_alloc h.bel _, e4 := fun _ => Bx.new h.bel.size (fun g => by rw [h.d6 g] at hn; cases hn), e5 := fun d => (h.e5 d).al _, ne := fun _ d => fun g => (h.e5 d).lt g.symm, d6 := fun _ => rfl }
          · intro L s w2 h hk hd hn
            refine stepS rfl fun K hK => ?_
            go_simp
            exact hK _ _ { h with bel := below_alloc h.bel _, e5 := fun _ => Bx.new h.bel.size (fun g => by rw [h.d7 g] at hn; cases hn), e4 := fun d => (h.e4 d).al _, ne := fun d _ => (h.e4 d).lt, d7 := fun _ => rfl }
          · intro L s w2 h hk hd hn
            obtain ⟨g, s7, hg, u, hu, -⟩ := h.e4 hd.1
            have s42 := h.e1 hd.2.1
            have c0 := cell_two0 hu
            have c1 := cell_two1 hu
            have f0 := free_two (i := 0) hu
            have f1 := free_two (i := 1) hu
            have l := lt_of_block hu
            refine stepS rfl fun K hK => ?_
            go_simp
            exact hK _ _ { h with bel := below_set2 h.bel hg _ _, e4 := fun _ => ⟨g, s7, hg, _, bx_set2 hu, fun _ => rfl⟩, e5 := fun d => (h.e5 d).set (by rw [← s7]; exact (h.ne hd.1 d).symm), d6 := fun _ => hd.1 }
          · intro L s w2 h hk hd hn
            obtain ⟨g, s8, hg, u, hu, -⟩ := h.e5 hd.1
            have s44 := h.e3 hd.2.1
            have c0 := cell_two0 hu
            have c1 := cell_two1 hu
            have f0 := free_two (i := 0) hu
            have f1 := free_two (i := 1) hu
            have l := lt_of_block hu
            refine stepS rfl fun K hK => ?_
            go_simp
            exact hK _ _ { h with bel := below_set2 h.bel hg _ _, e5 := fun _ => ⟨g, s8, hg, _, bx_set2 hu, fun _ => rfl⟩, e4 := fun d => (h.e4 d).set (by rw [← s8]; exact h.ne d hd.1), d7 := fun _ => hd.1 }
        · intro L s w2 h hk hl
          obtain ⟨ga, sa, ha1, ua, ha2, za⟩ := h.e4 (hl 4 (by decide))
          obtain rfl := za (hl 6 (by decide))
          obtain ⟨gb, sb, hb1, ub, hb2, zb⟩ := h.e5 (hl 5 (by decide))
          obtain rfl := zb (hl 7 (by decide))
          rename_i J K' hR hM
          refine hM _ _ (Met.intro (hR _ _ ?_))
          repeat apply Exists.intro
          refine ⟨⟨ga, gb, sa, sb, Lib.hid ⟨(HK.out.on h.bel).bel, fun q hq => by
          rcases List.mem_cons.1 hq with rfl | hq
          · exact hb2
          rcases List.mem_cons.1 hq with rfl | hq
          · exact ha2
          exact (HK.out.on h.bel).blk q hq⟩⟩, ?_⟩
          refine congrArg (fun l => (⟨List.toArray l, []⟩ : Act)) ?_
          show [s 0, s 1, s 2, s 3, s 4, s 5, s 6, s 7, s 8, s 9, s 10, s 11, s 12, s 13, s 14, s 15, s 16, s 17, s 18, s 19, s 20, s 21, s 22, s 23, s 24, s 25, s 26, s 27, s 28, s 29, s 30, s 31, s 32, s 33, s 34, s 35, s 36, s 37, s 38, s 39, s 40, s 41, s 42, s 43, s 44, s 45, s 46, s 47, s 48, s 49, s 50, s 51, s 52, s 53, s 54, s 55, s 56, s 57, s 58, s 59, s 60, s 61, s 62, s 63, s 64, s 65, s 66, s 67, s 68, s 69, s 70, s 71, s 72, s 73, s 74, s 75, s 76, s 77, s 78, s 79, s 80, s 81, s 82, s 83, s 84, s 85, s 86, s 87, s 88, s 89, s 90, s 91, s 92, s 93, s 94, s 95, s 96, s 97, s 98, s 99, s 100, s 101, s 102, s 103, s 104, s 105, s 106, s 107, s 108, s 109, s 110, s 111, s 112, s 113, s 114, s 115, s 116, s 117, s 118, s 119, s 120, s 121, s 122, s 123, s 124, s 125, s 126, s 127, s 128, s 129, s 130, s 131, s 132, s 133, s 134, s 135, s 136, s 137, s 138, s 139, s 140, s 141, s 142, s 143, s 144, s 145, s 146, s 147, s 148, s 149, s 150, s 151, s 152, s 153, s 154, s 155, s 156, s 157, s 158, s 159, s 160, s 161, s 162, s 163, s 164, s 165, s 166, s 167, s 168, s 169, s 170, s 171, s 172, s 173, s 174, s 175, s 176, s 177, s 178, s 179, s 180, s 181, s 182, s 183, s 184, s 185, s 186, s 187, s 188, s 189, s 190, s 191, s 192, s 193, s 194, s 195, s 196, s 197, s 198, s 199, s 200, s 201, s 202, s 203, s 204, s 205, s 206, s 207, s 208, s 209, s 210, s 211, s 212, s 213, s 214, s 215, s 216] = _
          exact lc (hk 0 (by kernel_rfl)) (lc (hk 1 (by kernel_rfl)) (lc (hk 2 (by kernel_rfl)) (lc (hk 3 (by kernel_rfl)) (lc (hk 4 (by kernel_rfl)) (lc (hk 5 (by kernel_rfl)) (lc (hk 6 (by kernel_rfl)) (lc rfl (lc rfl (lc (hk 9 (by kernel_rfl)) (lc (hk 10 (by kernel_rfl)) (lc (hk 11 (by kernel_rfl)) (lc (hk 12 (by kernel_rfl)) (lc (hk 13 (by kernel_rfl)) (lc (hk 14 (by kernel_rfl)) (lc (hk 15 (by kernel_rfl)) (lc (hk 16 (by kernel_rfl)) (lc (hk 17 (by kernel_rfl)) (lc (hk 18 (by kernel_rfl)) (lc (hk 19 (by kernel_rfl)) (lc (hk 20 (by kernel_rfl)) (lc (hk 21 (by kernel_rfl)) (lc (hk 22 (by kernel_rfl)) (lc (hk 23 (by kernel_rfl)) (lc (hk 24 (by kernel_rfl)) (lc (hk 25 (by kernel_rfl)) (lc (hk 26 (by kernel_rfl)) (lc (hk 27 (by kernel_rfl)) (lc (hk 28 (by kernel_rfl)) (lc (hk 29 (by kernel_rfl)) (lc (hk 30 (by kernel_rfl)) (lc (hk 31 (by kernel_rfl)) (lc (hk 32 (by kernel_rfl)) (lc (hk 33 (by kernel_rfl)) (lc (hk 34 (by kernel_rfl)) (lc (hk 35 (by kernel_rfl)) (lc (hk 36 (by kernel_rfl)) (lc (hk 37 (by kernel_rfl)) (lc (hk 38 (by kernel_rfl)) (lc (hk 39 (by kernel_rfl)) (lc (hk 40 (by kernel_rfl)) (lc rfl (lc rfl (lc rfl (lc rfl (lc (hk 45 (by kernel_rfl)) (lc (hk 46 (by kernel_rfl)) (lc (hk 47 (by kernel_rfl)) (lc (hk 48 (by kernel_rfl)) (lc (hk 49 (by kernel_rfl)) (lc (hk 50 (by kernel_rfl)) (lc (hk 51 (by kernel_rfl)) (lc (hk 52 (by kernel_rfl)) (lc (hk 53 (by kernel_rfl)) (lc (hk 54 (by kernel_rfl)) (lc (hk 55 (by kernel_rfl)) (lc (hk 56 (by kernel_rfl)) (lc (hk 57 (by kernel_rfl)) (lc (hk 58 (by kernel_rfl)) (lc (hk 59 (by kernel_rfl)) (lc (hk 60 (by kernel_rfl)) (lc (hk 61 (by kernel_rfl)) (lc (hk 62 (by kernel_rfl)) (lc (hk 63 (by kernel_rfl)) (lc (hk 64 (by kernel_rfl)) (lc (hk 65 (by kernel_rfl)) (lc (hk 66 (by kernel_rfl)) (lc (hk 67 (by kernel_rfl)) (lc (hk 68 (by kernel_rfl)) (lc (hk 69 (by kernel_rfl)) (lc (hk 70 (by kernel_rfl)) (lc (hk 71 (by kernel_rfl)) (lc (hk 72 (by kernel_rfl)) (lc (hk 73 (by kernel_rfl)) (lc (hk 74 (by kernel_rfl)) (lc (hk 75 (by kernel_rfl)) (lc (hk 76 (by kernel_rfl)) (lc (hk 77 (by kernel_rfl)) (lc (hk 78 (by kernel_rfl)) (lc (hk 79 (by kernel_rfl)) (lc (hk 80 (by kernel_rfl)) (lc (hk 81 (by kernel_rfl)) (lc (hk 82 (by kernel_rfl)) (lc (hk 83 (by kernel_rfl)) (lc (hk 84 (by kernel_rfl)) (lc (hk 85 (by kernel_rfl)) (lc (hk 86 (by kernel_rfl)) (lc (hk 87 (by kernel_rfl)) (lc (hk 88 (by kernel_rfl)) (lc (hk 89 (by kernel_rfl)) (lc (hk 90 (by kernel_rfl)) (lc (hk 91 (by kernel_rfl)) (lc (hk 92 (by kernel_rfl)) (lc (hk 93 (by kernel_rfl)) (lc (hk 94 (by kernel_rfl)) (lc (hk 95 (by kernel_rfl)) (lc (hk 96 (by kernel_rfl)) (lc (hk 97 (by kernel_rfl)) (lc (hk 98 (by kernel_rfl)) (lc (hk 99 (by kernel_rfl)) (lc (hk 100 (by kernel_rfl)) (lc (hk 101 (by kernel_rfl)) (lc (hk 102 (by kernel_rfl)) (lc (hk 103 (by kernel_rfl)) (lc (hk 104 (by kernel_rfl)) (lc (hk 105 (by kernel_rfl)) (lc (hk 106 (by kernel_rfl)) (lc (hk 107 (by kernel_rfl)) (lc (hk 108 (by kernel_rfl)) (lc (hk 109 (by kernel_rfl)) (lc (hk 110 (by kernel_rfl)) (lc (hk 111 (by kernel_rfl)) (lc (hk 112 (by kernel_rfl)) (lc (hk 113 (by kernel_rfl)) (lc (hk 114 (by kernel_rfl)) (lc (hk 115 (by kernel_rfl)) (lc (hk 116 (by kernel_rfl)) (lc (hk 117 (by kernel_rfl)) (lc (hk 118 (by kernel_rfl)) (lc (hk 119 (by kernel_rfl)) (lc (hk 120 (by kernel_rfl)) (lc (hk 121 (by kernel_rfl)) (lc (hk 122 (by kernel_rfl)) (lc (hk 123 (by kernel_rfl)) (lc (hk 124 (by kernel_rfl)) (lc (hk 125 (by kernel_rfl)) (lc (hk 126 (by kernel_rfl)) (lc (hk 127 (by kernel_rfl)) (lc (hk 128 (by kernel_rfl)) (lc (hk 129 (by kernel_rfl)) (lc (hk 130 (by kernel_rfl)) (lc (hk 131 (by kernel_rfl)) (lc (hk 132 (by kernel_rfl)) (lc (hk 133 (by kernel_rfl)) (lc (hk 134 (by kernel_rfl)) (lc (hk 135 (by kernel_rfl)) (lc (hk 136 (by kernel_rfl)) (lc (hk 137 (by kernel_rfl)) (lc (hk 138 (by kernel_rfl)) (lc (hk 139 (by kernel_rfl)) (lc (hk 140 (by kernel_rfl)) (lc (hk 141 (by kernel_rfl)) (lc (hk 142 (by kernel_rfl)) (lc (hk 143 (by kernel_rfl)) (lc (hk 144 (by kernel_rfl)) (lc (hk 145 (by kernel_rfl)) (lc (hk 146 (by kernel_rfl)) (lc (hk 147 (by kernel_rfl)) (lc (hk 148 (by kernel_rfl)) (lc (hk 149 (by kernel_rfl)) (lc (hk 150 (by kernel_rfl)) (lc (hk 151 (by kernel_rfl)) (lc (hk 152 (by kernel_rfl)) (lc (hk 153 (by kernel_rfl)) (lc (hk 154 (by kernel_rfl)) (lc (hk 155 (by kernel_rfl)) (lc (hk 156 (by kernel_rfl)) (lc (hk 157 (by kernel_rfl)) (lc (hk 158 (by kernel_rfl)) (lc (hk 159 (by kernel_rfl)) (lc (hk 160 (by kernel_rfl)) (lc (hk 161 (by kernel_rfl)) (lc (hk 162 (by kernel_rfl)) (lc (hk 163 (by kernel_rfl)) (lc (hk 164 (by kernel_rfl)) (lc (hk 165 (by kernel_rfl)) (lc (hk 166 (by kernel_rfl)) (lc (hk 167 (by kernel_rfl)) (lc (hk 168 (by kernel_rfl)) (lc (hk 169 (by kernel_rfl)) (lc (hk 170 (by kernel_rfl)) (lc (hk 171 (by kernel_rfl)) (lc (hk 172 (by kernel_rfl)) (lc (hk 173 (by kernel_rfl)) (lc (hk 174 (by kernel_rfl)) (lc (hk 175 (by kernel_rfl)) (lc (hk 176 (by kernel_rfl)) (lc (hk 177 (by kernel_rfl)) (lc (hk 178 (by kernel_rfl)) (lc (hk 179 (by kernel_rfl)) (lc (hk 180 (by kernel_rfl)) (lc (hk 181 (by kernel_rfl)) (lc (hk 182 (by kernel_rfl)) (lc (hk 183 (by kernel_rfl)) (lc (hk 184 (by kernel_rfl)) (lc (hk 185 (by kernel_rfl)) (lc (hk 186 (by kernel_rfl)) (lc (hk 187 (by kernel_rfl)) (lc (hk 188 (by kernel_rfl)) (lc (hk 189 (by kernel_rfl)) (lc (hk 190 (by kernel_rfl)) (lc (hk 191 (by kernel_rfl)) (lc (hk 192 (by kernel_rfl)) (lc (hk 193 (by kernel_rfl)) (lc (hk 194 (by kernel_rfl)) (lc (hk 195 (by kernel_rfl)) (lc (hk 196 (by kernel_rfl)) (lc (hk 197 (by kernel_rfl)) (lc (hk 198 (by kernel_rfl)) (lc (hk 199 (by kernel_rfl)) (lc (hk 200 (by kernel_rfl)) (lc (hk 201 (by kernel_rfl)) (lc (hk 202 (by kernel_rfl)) (lc (hk 203 (by kernel_rfl)) (lc (hk 204 (by kernel_rfl)) (lc (hk 205 (by kernel_rfl)) (lc (hk 206 (by kernel_rfl)) (lc (hk 207 (by kernel_rfl)) (lc (hk 208 (by kernel_rfl)) (lc (hk 209 (by kernel_rfl)) (lc (hk 210 (by kernel_rfl)) (lc (hk 211 (by kernel_rfl)) (lc (hk 212 (by kernel_rfl)) (lc (hk 213 (by kernel_rfl)) (lc (hk 214 (by kernel_rfl)) (lc (hk 215 (by kernel_rfl)) (lc (hk 216 (by kernel_rfl)) rfl))))))))))))))))))))))))))))))))))))))))))))))))))))))))))))))))))))))))))))))))))))))))))))))))))))))))))))))))))))))))))))))))))))))))))))))))))))))))))))))))))))))))))))))))))))))))))))))))))))))))))))))))))))))))

      case rest =>
        clear HK HPB
        obtain ⟨A, B, rfl, rfl, HC⟩ := hcut
        have hS := HC.out
        obtain ⟨hl, hhl⟩ : ∃ hl, sHull p.1 p.2 = (hl, 0) := ⟨_, Prod.ext rfl (sHull_zero HAok.out HBok.out)⟩
        have c1 := fun W => span_Hull p.1 p.2 W
        rw [hhl] at c1
        have Hc1 := Lib.hid c1
        have HH := Lib.hid hhl
        clear c1 hhl
        have la := lt_of_block (hS.blk (A, .cells #[.int .i64 p.1.1, .int .i64 p.1.2] 23 (0, 0)) (List.Mem.tail _ (List.Mem.head _)))
        have ca0 := cell_two0 (hS.blk (A, .cells #[.int .i64 p.1.1, .int .i64 p.1.2] 23 (0, 0)) (List.Mem.tail _ (List.Mem.head _)))
        have ca1 := cell_two1 (hS.blk (A, .cells #[.int .i64 p.1.1, .int .i64 p.1.2] 23 (0, 0)) (List.Mem.tail _ (List.Mem.head _)))
        have lb := lt_of_block (hS.blk (B, .cells #[.int .i64 p.2.1, .int .i64 p.2.2] 23 (0, 0)) (List.Mem.head _))
        have cb0 := cell_two0 (hS.blk (B, .cells #[.int .i64 p.2.1, .int .i64 p.2.2] 23 (0, 0)) (List.Mem.head _))
        have cb1 := cell_two1 (hS.blk (B, .cells #[.int .i64 p.2.1, .int .i64 p.2.2] 23 (0, 0)) (List.Mem.head _))
        go_wp2_with fail
        clear la ca0 ca1 lb cb0 cb1
        refine (hS.call (span_Meet p.1 p.2 _)).mono ?_; rintro e x0 ⟨rfl, hS⟩
        have la := lt_of_block (hS.blk (A, .cells #[.int .i64 p.1.1, .int .i64 p.1.2] 23 (0, 0)) (List.Mem.tail _ (List.Mem.head _)))
        have ca0 := cell_two0 (hS.blk (A, .cells #[.int .i64 p.1.1, .int .i64 p.1.2] 23 (0, 0)) (List.Mem.tail _ (List.Mem.head _)))
        have ca1 := cell_two1 (hS.blk (A, .cells #[.int .i64 p.1.1, .int .i64 p.1.2] 23 (0, 0)) (List.Mem.tail _ (List.Mem.head _)))
        have lb := lt_of_block (hS.blk (B, .cells #[.int .i64 p.2.1, .int .i64 p.2.2] 23 (0, 0)) (List.Mem.head _))
        have cb0 := cell_two0 (hS.blk (B, .cells #[.int .i64 p.2.1, .int .i64 p.2.2] 23 (0, 0)) (List.Mem.head _))
        have cb1 := cell_two1 (hS.blk (B, .cells #[.int .i64 p.2.1, .int .i64 p.2.2] 23 (0, 0)) (List.Mem.head _))
        go_wp2_with fail
        clear la ca0 ca1 lb cb0 cb1
        have gC : w.heap.size ≤ x0.heap.size := hS.bel.size
        have nCb : x0.heap.size ≠ B := Nat.ne_of_gt (lt_of_block (hS.blk (B, .cells #[.int .i64 p.2.1, .int .i64 p.2.2] 23 (0, 0)) (List.Mem.head _)))
        have nCa : x0.heap.size ≠ A := Nat.ne_of_gt (lt_of_block (hS.blk (A, .cells #[.int .i64 p.1.1, .int .i64 p.1.2] 23 (0, 0)) (List.Mem.tail _ (List.Mem.head _))))
        have nCP : x0.heap.size ≠ P9 := Nat.ne_of_gt (lt_of_block (hS.blk (P9, .cells #[.int .i64 p.1.1, .int .i64 p.1.2, .int .i64 p.2.1, .int .i64 p.2.2] 29 (0, 0)) (List.Mem.tail _ (List.Mem.tail _ (List.Mem.head _)))))
        have nCg : x0.heap.size ≠ g := Nat.ne_of_gt (lt_of_block (hS.blk (g, prObj prs) (List.Mem.tail _ (List.Mem.tail _ (List.Mem.tail _ (List.Mem.head _))))))
        replace hS := hS.al (.cells #[.int .i64 (sMeet p.1 p.2).1.1, .int .i64 (sMeet p.1 p.2).1.2] 23 (0, 0))
        refine (hS.call (Hc1.out _)).mono ?_; rintro e x1 ⟨rfl, hS⟩
        have la := lt_of_block (hS.blk (A, .cells #[.int .i64 p.1.1, .int .i64 p.1.2] 23 (0, 0)) (List.Mem.tail _ (List.Mem.tail _ (List.Mem.head _))))
        have ca0 := cell_two0 (hS.blk (A, .cells #[.int .i64 p.1.1, .int .i64 p.1.2] 23 (0, 0)) (List.Mem.tail _ (List.Mem.tail _ (List.Mem.head _))))
        have ca1 := cell_two1 (hS.blk (A, .cells #[.int .i64 p.1.1, .int .i64 p.1.2] 23 (0, 0)) (List.Mem.tail _ (List.Mem.tail _ (List.Mem.head _))))
        have lb := lt_of_block (hS.blk (B, .cells #[.int .i64 p.2.1, .int .i64 p.2.2] 23 (0, 0)) (List.Mem.tail _ (List.Mem.head _)))
        have cb0 := cell_two0 (hS.blk (B, .cells #[.int .i64 p.2.1, .int .i64 p.2.2] 23 (0, 0)) (List.Mem.tail _ (List.Mem.head _)))
        have cb1 := cell_two1 (hS.blk (B, .cells #[.int .i64 p.2.1, .int .i64 p.2.2] 23 (0, 0)) (List.Mem.tail _ (List.Mem.head _)))
        have lC := lt_of_block (hS.blk (x0.heap.size, .cells #[.int .i64 (sMeet p.1 p.2).1.1, .int .i64 (sMeet p.1 p.2).1.2] 23 (0, 0)) (List.Mem.head _))
        have cC0 := cell_two0 (hS.blk (x0.heap.size, .cells #[.int .i64 (sMeet p.1 p.2).1.1, .int .i64 (sMeet p.1 p.2).1.2] 23 (0, 0)) (List.Mem.head _))
        have cC1 := cell_two1 (hS.blk (x0.heap.size, .cells #[.int .i64 (sMeet p.1 p.2).1.1, .int .i64 (sMeet p.1 p.2).1.2] 23 (0, 0)) (List.Mem.head _))
        go_wp2_with fail
        clear la ca0 ca1 lb cb0 cb1 lC cC0 cC1
        have gH : w.heap.size ≤ x1.heap.size := hS.bel.size
        have nHC : x1.heap.size ≠ x0.heap.size := Nat.ne_of_gt (lt_of_block (hS.blk (x0.heap.size, .cells #[.int .i64 (sMeet p.1 p.2).1.1, .int .i64 (sMeet p.1 p.2).1.2] 23 (0, 0)) (List.Mem.head _)))
        have nHb : x1.heap.size ≠ B := Nat.ne_of_gt (lt_of_block (hS.blk (B, .cells #[.int .i64 p.2.1, .int .i64 p.2.2] 23 (0, 0)) (List.Mem.tail _ (List.Mem.head _))))
        have nHa : x1.heap.size ≠ A := Nat.ne_of_gt (lt_of_block (hS.blk (A, .cells #[.int .i64 p.1.1, .int .i64 p.1.2] 23 (0, 0)) (List.Mem.tail _ (List.Mem.tail _ (List.Mem.head _)))))
        have nHP : x1.heap.size ≠ P9 := Nat.ne_of_gt (lt_of_block (hS.blk (P9, .cells #[.int .i64 p.1.1, .int .i64 p.1.2, .int .i64 p.2.1, .int .i64 p.2.2] 29 (0, 0)) (List.Mem.tail _ (List.Mem.tail _ (List.Mem.tail _ (List.Mem.head _))))))
        have nHg : x1.heap.size ≠ g := Nat.ne_of_gt (lt_of_block (hS.blk (g, prObj prs) (List.Mem.tail _ (List.Mem.tail _ (List.Mem.tail _ (List.Mem.tail _ (List.Mem.head _)))))))
        replace hS := hS.al (.cells #[.int .i64 hl.1, .int .i64 hl.2] 23 (0, 0))
        clear gC gH nCg nCP nCa nCb nHg nHP nHa nHb nHC
        have HS6 := Lib.hid (hS.sub (cs := [(x1.heap.size, .cells #[.int .i64 hl.1, .int .i64 hl.2] 23 (0, 0)), (x0.heap.size, .cells #[.int .i64 (sMeet p.1 p.2).1.1, .int .i64 (sMeet p.1 p.2).1.2] 23 (0, 0)), (B, .cells #[.int .i64 p.2.1, .int .i64 p.2.2] 23 (0, 0)), (A, .cells #[.int .i64 p.1.1, .int .i64 p.1.2] 23 (0, 0)), (g, prObj prs)]) (by simp))
        clear hS
        obtain ⟨H6, hH6⟩ : ∃ H6, H6 = x1.heap.size := ⟨_, rfl⟩
        obtain ⟨C6, hC6⟩ : ∃ C6, C6 = x0.heap.size := ⟨_, rfl⟩
        rw [← hH6, ← hC6] at HS6
        rw [← hH6, ← hC6]
        clear hH6 hC6
        generalize wrap64 (p.1.1 - 1) = q at *
        go_loopw [70] (fun i wx => ∃ j : Nat, j ≤ 6 ∧ i = .int .i64 j ∧ Hid (Kn w wx [(H6, .cells #[.int .i64 hl.1, .int .i64 hl.2] 23 (0, 0)), (C6, .cells #[.int .i64 (sMeet p.1 p.2).1.1, .int .i64 (sMeet p.1 p.2).1.2] 23 (0, 0)), (B, .cells #[.int .i64 p.2.1, .int .i64 p.2.2] 23 (0, 0)), (A, .cells #[.int .i64 p.1.1, .int .i64 p.1.2] 23 (0, 0)), (g, prObj prs)])) (fun i _ => 6 - (intOf i).toNat)
        case atStart => exact ⟨0, by omega, rfl, HS6⟩
        case round =>
          clear HS6
          obtain ⟨j, hj, rfl, HB⟩ := hrel
          have hS := HB.out
          rename_i wx
          rcases Nat.lt_or_ge j 6 with hj' | hj'
          · obtain ⟨n, hn⟩ : ∃ n : Int, ∀ W, (Instr.index 60 (.agg #[.int .i64 v, .int .i64 p.1.1, .int .i64 p.1.2, .int .i64 p.2.1, .int .i64 p.2.2, .int .i64 q]) (.int .i64 j)).run Tryd.prog W = .ok (.int .i64 n) W := by
              rcases (by omega : j = 0 ∨ j = 1 ∨ j = 2 ∨ j = 3 ∨ j = 4 ∨ j = 5) with rfl | rfl | rfl | rfl | rfl | rfl
              · exact ⟨v, fun W => by kernel_rfl⟩
              · exact ⟨p.1.1, fun W => by kernel_rfl⟩
              · exact ⟨p.1.2, fun W => by kernel_rfl⟩
              · exact ⟨p.2.1, fun W => by kernel_rfl⟩
              · exact ⟨p.2.2, fun W => by kernel_rfl⟩
              · exact ⟨q, fun W => by kernel_rfl⟩
            obtain ⟨e1, e2, e3, e4⟩ := sHas_parts HAok.out HBok.out n
            rw [HH.out] at e2 e4
            obtain ⟨x, hx⟩ : ∃ z, sHas p.1 n = (z, 0) := ⟨_, Prod.ext rfl (sHas_zero HAok.out n)⟩
            have dx := fun W => span_Has p.1 n W
            rw [hx] at dx e3 e4
            have Dx := Lib.hid dx
            clear dx hx
            obtain ⟨y, hy⟩ : ∃ z, sHas p.2 n = (z, 0) := ⟨_, Prod.ext rfl (sHas_zero HBok.out n)⟩
            have dy := fun W => span_Has p.2 n W
            rw [hy] at dy e3 e4
            have Dy := Lib.hid dy
            clear dy hy
            obtain ⟨bo, hbo⟩ : ∃ z, sHas (sMeet p.1 p.2).1 n = (z, 0) := ⟨_, Prod.ext rfl e1⟩
            have dbo := fun W => span_Has (sMeet p.1 p.2).1 n W
            rw [hbo] at dbo e3
            have Dbo := Lib.hid dbo
            clear dbo hbo
            obtain ⟨an, han⟩ : ∃ z, sHas hl n = (z, 0) := ⟨_, Prod.ext rfl e2⟩
            have dan := fun W => span_Has hl n W
            rw [han] at dan e4
            have Dan := Lib.hid dan
            clear dan han
            clear e1 e2
            have E3 := Lib.hid e3
            have E4 := Lib.hid e4
            clear e3 e4
            generalize (sMeet p.1 p.2).2 = me at *
            have la := lt_of_block (hS.blk (A, .cells #[.int .i64 p.1.1, .int .i64 p.1.2] 23 (0, 0)) (List.Mem.tail _ (List.Mem.tail _ (List.Mem.tail _ (List.Mem.head _)))))
            have ca0 := cell_two0 (hS.blk (A, .cells #[.int .i64 p.1.1, .int .i64 p.1.2] 23 (0, 0)) (List.Mem.tail _ (List.Mem.tail _ (List.Mem.tail _ (List.Mem.head _)))))
            have ca1 := cell_two1 (hS.blk (A, .cells #[.int .i64 p.1.1, .int .i64 p.1.2] 23 (0, 0)) (List.Mem.tail _ (List.Mem.tail _ (List.Mem.tail _ (List.Mem.head _)))))
            go_wp2_with fail
            clear la ca0 ca1
            refine (hS.call (Dx.out _)).mono ?_; rintro e y0 ⟨rfl, hS⟩
            have lb := lt_of_block (hS.blk (B, .cells #[.int .i64 p.2.1, .int .i64 p.2.2] 23 (0, 0)) (List.Mem.tail _ (List.Mem.tail _ (List.Mem.head _))))
            have cb0 := cell_two0 (hS.blk (B, .cells #[.int .i64 p.2.1, .int .i64 p.2.2] 23 (0, 0)) (List.Mem.tail _ (List.Mem.tail _ (List.Mem.head _))))
            have cb1 := cell_two1 (hS.blk (B, .cells #[.int .i64 p.2.1, .int .i64 p.2.2] 23 (0, 0)) (List.Mem.tail _ (List.Mem.tail _ (List.Mem.head _))))
            go_wp2_with fail
            clear lb cb0 cb1
            refine (hS.call (Dy.out _)).mono ?_; rintro e y1 ⟨rfl, hS⟩
            have lC := lt_of_block (hS.blk (C6, .cells #[.int .i64 (sMeet p.1 p.2).1.1, .int .i64 (sMeet p.1 p.2).1.2] 23 (0, 0)) (List.Mem.tail _ (List.Mem.head _)))
            have cC0 := cell_two0 (hS.blk (C6, .cells #[.int .i64 (sMeet p.1 p.2).1.1, .int .i64 (sMeet p.1 p.2).1.2] 23 (0, 0)) (List.Mem.tail _ (List.Mem.head _)))
            have cC1 := cell_two1 (hS.blk (C6, .cells #[.int .i64 (sMeet p.1 p.2).1.1, .int .i64 (sMeet p.1 p.2).1.2] 23 (0, 0)) (List.Mem.tail _ (List.Mem.head _)))
            go_wp2_with fail
            clear lC cC0 cC1
            refine (hS.call (Dbo.out _)).mono ?_; rintro e y2 ⟨rfl, hS⟩
            have lH := lt_of_block (hS.blk (H6, .cells #[.int .i64 hl.1, .int .i64 hl.2] 23 (0, 0)) (List.Mem.head _))
            have cH0 := cell_two0 (hS.blk (H6, .cells #[.int .i64 hl.1, .int .i64 hl.2] 23 (0, 0)) (List.Mem.head _))
            have cH1 := cell_two1 (hS.blk (H6, .cells #[.int .i64 hl.1, .int .i64 hl.2] 23 (0, 0)) (List.Mem.head _))
            go_wp2_with fail
            clear lH cH0 cH1
            refine (hS.call (Dan.out _)).mono ?_; rintro e y3 ⟨rfl, hS⟩
            clear Dx Dy Dbo Dan HAok HBok hn
            have e3 := E3.out
            have e4 := E4.out
            clear E3 E4
            cases hme : (me == 0)
            · rw [hme] at e3
              cases x
              · cases y
                · skip
                  clear e3 e4
                  go_wp2_with fail
                  go_roundw
                  case rel => exact ⟨j + 1, by omega, by go_num, Lib.hid (hS.sub (by simp))⟩
                  case measure => simp [intOf]; omega
                · obtain rfl : an = true := by revert e4; cases an <;> decide
                  clear e3 e4
                  go_wp2_with fail
                  go_roundw
                  case rel => exact ⟨j + 1, by omega, by go_num, Lib.hid (hS.sub (by simp))⟩
                  case measure => simp [intOf]; omega
              · obtain rfl : y = false := by revert e3; cases y <;> cases bo <;> decide
                obtain rfl : an = true := by revert e4; cases an <;> decide
                clear e3 e4
                go_wp2_with fail
                go_roundw
                case rel => exact ⟨j + 1, by omega, by go_num, Lib.hid (hS.sub (by simp))⟩
                case measure => simp [intOf]; omega
            · rw [hme] at e3
              cases x
              · obtain rfl : bo = false := by revert e3; cases bo <;> cases y <;> decide
                cases y
                · skip
                  clear e3 e4
                  go_wp2_with fail
                  go_roundw
                  case rel => exact ⟨j + 1, by omega, by go_num, Lib.hid (hS.sub (by simp))⟩
                  case measure => simp [intOf]; omega
                · obtain rfl : an = true := by revert e4; cases an <;> decide
                  clear e3 e4
                  go_wp2_with fail
                  go_roundw
                  case rel => exact ⟨j + 1, by omega, by go_num, Lib.hid (hS.sub (by simp))⟩
                  case measure => simp [intOf]; omega
              · obtain rfl : bo = y := by revert e3; cases bo <;> cases y <;> decide
                obtain rfl : an = true := by revert e4; cases an <;> cases bo <;> decide
                clear e3 e4
                go_wp2_with fail
                go_roundw
                case rel => exact ⟨j + 1, by omega, by go_num, Lib.hid (hS.sub (by simp))⟩
                case measure => simp [intOf]; omega
          · obtain rfl : j = 6 := by omega
            obtain ⟨m, wd, hm, hw, w0, w1, e5, e6⟩ := sMid_parts HAok.out
            obtain ⟨s, t, hs, ht, hst⟩ := sSign_parts HAok.out
            obtain ⟨nn, hn⟩ : ∃ n : Int × Int, n = (-p.1.2, -p.1.1) := ⟨_, rfl⟩
            have HN := Lib.hid (show sNeg p.1 = (nn, 0) by rw [hn]; exact sNeg_ok HAok.out)
            rw [← hn] at ht
            clear hn
            have HST := Lib.hid hst
            clear hst
            have d1 := fun W => span_Mid p.1 W
            rw [hm] at d1
            have Hd1 := Lib.hid d1
            clear d1
            have d2 := fun W => span_Width p.1 W
            rw [hw] at d2
            have Hd2 := Lib.hid d2
            clear d2
            have d3 := fun W => span_Sign p.1 W
            rw [hs] at d3
            have Hd3 := Lib.hid d3
            clear d3
            have d4 := fun W => span_Neg p.1 W
            rw [HN.out] at d4
            have Hd4 := Lib.hid d4
            clear d4
            have d5 := fun W => span_Sign nn W
            rw [ht] at d5
            have Hd5 := Lib.hid d5
            clear d5
            clear hm hw hs ht
            have b1 : -4503599627370496 ≤ p.1.1 := HAok.out.1
            have b2 : p.1.1 ≤ p.1.2 := HAok.out.2.1
            have b3 : p.1.2 ≤ 4503599627370496 := HAok.out.2.2
            have la := lt_of_block (hS.blk (A, .cells #[.int .i64 p.1.1, .int .i64 p.1.2] 23 (0, 0)) (List.Mem.tail _ (List.Mem.tail _ (List.Mem.tail _ (List.Mem.head _)))))
            have ca0 := cell_two0 (hS.blk (A, .cells #[.int .i64 p.1.1, .int .i64 p.1.2] 23 (0, 0)) (List.Mem.tail _ (List.Mem.tail _ (List.Mem.tail _ (List.Mem.head _)))))
            have ca1 := cell_two1 (hS.blk (A, .cells #[.int .i64 p.1.1, .int .i64 p.1.2] 23 (0, 0)) (List.Mem.tail _ (List.Mem.tail _ (List.Mem.tail _ (List.Mem.head _)))))
            go_wp2_with fail
            clear la ca0 ca1
            refine (hS.call (Hd1.out _)).mono ?_; rintro e z0 ⟨rfl, hS⟩
            have la := lt_of_block (hS.blk (A, .cells #[.int .i64 p.1.1, .int .i64 p.1.2] 23 (0, 0)) (List.Mem.tail _ (List.Mem.tail _ (List.Mem.tail _ (List.Mem.head _)))))
            have ca0 := cell_two0 (hS.blk (A, .cells #[.int .i64 p.1.1, .int .i64 p.1.2] 23 (0, 0)) (List.Mem.tail _ (List.Mem.tail _ (List.Mem.tail _ (List.Mem.head _)))))
            have ca1 := cell_two1 (hS.blk (A, .cells #[.int .i64 p.1.1, .int .i64 p.1.2] 23 (0, 0)) (List.Mem.tail _ (List.Mem.tail _ (List.Mem.tail _ (List.Mem.head _)))))
            go_wp2_with fail
            clear la ca0 ca1
            refine (hS.call (Hd2.out _)).mono ?_; rintro e z1 ⟨rfl, hS⟩
            have la := lt_of_block (hS.blk (A, .cells #[.int .i64 p.1.1, .int .i64 p.1.2] 23 (0, 0)) (List.Mem.tail _ (List.Mem.tail _ (List.Mem.tail _ (List.Mem.head _)))))
            have ca0 := cell_two0 (hS.blk (A, .cells #[.int .i64 p.1.1, .int .i64 p.1.2] 23 (0, 0)) (List.Mem.tail _ (List.Mem.tail _ (List.Mem.tail _ (List.Mem.head _)))))
            have ca1 := cell_two1 (hS.blk (A, .cells #[.int .i64 p.1.1, .int .i64 p.1.2] 23 (0, 0)) (List.Mem.tail _ (List.Mem.tail _ (List.Mem.tail _ (List.Mem.head _)))))
            go_wp2_with fail
            clear la ca0 ca1
            refine (hS.call (Hd3.out _)).mono ?_; rintro e z2 ⟨rfl, hS⟩
            clear b1 b2 b3 w0 w1 e5 e6
            have la := lt_of_block (hS.blk (A, .cells #[.int .i64 p.1.1, .int .i64 p.1.2] 23 (0, 0)) (List.Mem.tail _ (List.Mem.tail _ (List.Mem.tail _ (List.Mem.head _)))))
            have ca0 := cell_two0 (hS.blk (A, .cells #[.int .i64 p.1.1, .int .i64 p.1.2] 23 (0, 0)) (List.Mem.tail _ (List.Mem.tail _ (List.Mem.tail _ (List.Mem.head _)))))
            have ca1 := cell_two1 (hS.blk (A, .cells #[.int .i64 p.1.1, .int .i64 p.1.2] 23 (0, 0)) (List.Mem.tail _ (List.Mem.tail _ (List.Mem.tail _ (List.Mem.head _)))))
            go_wp2_with fail
            clear la ca0 ca1
            refine (hS.call (Hd4.out _)).mono ?_; rintro e z3 ⟨rfl, hS⟩
            go_wp2_with fail
            replace hS := hS.al (.cells #[.int .i64 nn.1, .int .i64 nn.2] 23 (0, 0))
            refine (hS.call (Hd5.out _)).mono ?_; rintro e z4 ⟨rfl, hS⟩
            rcases HST.out with ⟨rfl, rfl⟩ | ⟨h1, h2, rfl, h3, h4⟩
            · clear HST Hd1 Hd2 Hd3 Hd4 Hd5
              go_wp2_with fail
              go_roundw
              case rel => exact ⟨k + 1, by omega, by go_num, Lib.hid (hS.sub (by simp))⟩
              case measure => simp [intOf]; omega
            · rcases (by omega : s = -1 ∨ s = 0 ∨ s = 1) with rfl | rfl | rfl <;> (
                clear HST h1 h2 h3 h4 Hd1 Hd2 Hd3 Hd4 Hd5
                go_wp2_with fail
                go_roundw
                case rel => exact ⟨k + 1, by omega, by go_num, Lib.hid (hS.sub (by simp))⟩
                case measure => simp [intOf]; omega)
    · obtain rfl : k = 3 := by omega
      go_wp2_with fail
      go_ret
      exact ⟨rfl, HA.out.bel⟩
end Go.Proofs.YtjphhdfkkkdppaaDoor
