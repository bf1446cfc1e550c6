/- The walk of monoclelaw02.SpanMakes. Printed by wip/genMK.py. -/
import Derived.Deep.DeepCutAuto
import Derived.Test.YtjphhdfkkkdppaaDoorLawT
import Derived.Test.YtjphhdfkkkdppaaDoorRefDec
namespace Go.Proofs.YtjphhdfkkkdppaaDoor
open Go.RowKit Mnc
attribute [local go_sem] RunS_value RunS_skip RunS_enter evS_tmp evS_const evS_global evS_func


theorem cell_thr {w : World} {n : Nat} {a b c : Value} {t : TypeId} (h : w.heap[n]? = some (.cells #[a, b, c] t (0, 0))) : w.cell? ⟨n, 0, none⟩ = some a ∧ w.cell? ⟨n, 1, none⟩ = some b ∧ w.cell? ⟨n, 2, none⟩ = some c := by
  simp [World.cell?, h]
structure MkA (W : World) (A D : Nat) (a : Int × Int) (x0 x1 x2 : Int) (L : Nat → Bool) (s : Nat → Value) (w : World) : Prop where
  bel : Below W.heap.size W w
  e0 : L 0 = true → s 27 = .agg #[.int .i64 a.1, .int .i64 a.2]
  e1 : L 1 = true → s 28 = .agg #[.int .i64 x0, .int .u8 x1, .int .u32 x2]
  e2 : L 2 = true → s 29 = .agg #[.int .i64 (dSpan x0 x1 x2).1, .int .i64 (dSpan x0 x1 x2).2]
  e3 : L 3 = true → s 30 = .agg #[.int .i64 a.1, .int .i64 a.2, .int .i64 (dSpan x0 x1 x2).1, .int .i64 (dSpan x0 x1 x2).2]
  e4 : L 4 = true → s 31 = .int .i64 0
structure MkB (W : World) (S B C D E : Nat) (z : Int × Int) (L : Nat → Bool) (s : Nat → Value) (w : World) : Prop where
  bel : Below W.heap.size W w
  e0 : L 0 = true → s 62 = .agg #[.int .i64 z.1, .int .i64 z.2]
  e1 : L 1 = true → s 63 = .int .i64 (sChk z)
  e2 : L 2 = true → s 64 = .agg #[.int .i64 z.1, .int .i64 z.2]
  e3 : L 3 = true → s 65 = .int .i64 (sChk z)
  e4 : L 4 = true → s 66 = .bool false
  e5 : L 5 = true → s 67 = .bool false
  e6 : L 6 = true → s 68 = .agg #[.int .i64 (sOf z.1 z.2).1.1, .int .i64 (sOf z.1 z.2).1.2]
  e7 : L 7 = true → s 69 = .int .i64 (sOf z.1 z.2).2
  e8 : L 8 = true → s 70 = .agg #[.int .i64 (sOf z.1 z.2).1.1, .int .i64 (sOf z.1 z.2).1.2]
  e9 : L 9 = true → s 71 = .int .i64 (sOf z.1 z.2).2
  e10 : L 10 = true → s 72 = .bool true
  e11 : L 11 = true → s 73 = .bool false
  e12 : L 12 = true → s 74 = .bool false
  e13 : L 13 = true → s 75 = .bool false
  e14 : L 14 = true → s 76 = .agg #[.int .i64 (sOf z.1 z.1).1.1, .int .i64 (sOf z.1 z.1).1.2]
  e15 : L 15 = true → s 77 = .int .i64 (sOf z.1 z.1).2
  e16 : L 16 = true → s 78 = .agg #[.int .i64 (sOf z.1 z.1).1.1, .int .i64 (sOf z.1 z.1).1.2]
  e17 : L 17 = true → s 79 = .int .i64 (sOf z.1 z.1).2
  e18 : L 18 = true → s 80 = .bool true
  e19 : L 19 = true → s 81 = .bool false
  e20 : L 20 = true → s 82 = .bool false

set_option maxRecDepth 100000 in
set_option maxHeartbeats 600000 in
theorem law2_SpanMakes (a : Int × Int) (n d : Int) (hn : -9223372036854775808 ≤ n ∧ n ≤ 9223372036854775807) (x0 x1 x2 : Int) (hx : (0 ≤ x1 ∧ x1 < 256) ∧ (0 ≤ x2 ∧ x2 < 4294967296)) (w : World) (hP : Pows w) :
    Calls Tryd.prog 3 #[.agg #[.int .i64 a.1, .int .i64 a.2], .int .i64 n, .int .i64 d, .agg #[.int .i64 x0, .int .u8 x1, .int .u32 x2]] w fun e w' => e = .returned (.bool true) ∧ Below w.heap.size w w' := by
  have HP := Lib.hid hP
  have Hx := Lib.hid hx
  have Hn := Lib.hid hn
  clear hP hx hn
  have hS := ((Kn.start w).al (.cells #[.int .i64 a.1, .int .i64 a.2] 23 (0, 0))).alN (.cells #[.int .i64 x0, .int .u8 x1, .int .u32 x2] 26 (0, 0)) (n := w.heap.size + 1) (by simp)
  go_enter Tryd.func3, Tryd.ntmps3
  go_wp2_with fail
  refine (hS.call (law2_works _ (HP.out.below hS.bel))).mono ?_; rintro e w1 ⟨rfl, hS⟩
  have HBa := Lib.hid (hS.blk (w.heap.size, .cells #[.int .i64 a.1, .int .i64 a.2] 23 (0, 0)) (.tail _ (.head _)))
  have HBd := Lib.hid (hS.blk (w.heap.size + 1, .cells #[.int .i64 x0, .int .u8 x1, .int .u32 x2] 26 (0, 0)) (.head _))
  have HK := Lib.hid (hS.sub (cs := []) (by simp))
  clear hS
  go_upto_region 3 with (fail)
  generalize w.heap.size + 1 = D at *
  obtain ⟨A, hA⟩ : ∃ A, A = w.heap.size := ⟨_, rfl⟩
  rw [← hA] at HBa
  rw [← hA]
  clear hA
  go_cut [30, 31] (fun v i wx => v = .agg #[.int .i64 a.1, .int .i64 a.2, .int .i64 (dSpan x0 x1 x2).1, .int .i64 (dSpan x0 x1 x2).2] ∧ i = .int .i64 0 ∧ Hid (Kn w wx []))
  case first =>
    refine wp_region_inv (MkA w1 A D a x0 x1 x2) (by kernel_rfl) (by kernel_rfl) ?_ ?_ ?_
    · exact ⟨(Below.refl _ _).drew, fun h => absurd h Bool.false_ne_true, fun h => absurd h Bool.false_ne_true, fun h => absurd h Bool.false_ne_true, fun h => absurd h Bool.false_ne_true, fun h => absurd h Bool.false_ne_true⟩
    · refine AllS.cons ?_ (AllS.cons ?_ (AllS.cons ?_ (AllS.cons ?_ (AllS.cons ?_ AllS.nil))))
      · intro L s w2 h hk hd hn
        have s4 : s 4 = _ := hk 4 (by kernel_rfl)
        have b := (h.bel.block _ (lt_of_block HBa.out)).trans HBa.out
        have c0 := cell_two0 b
        have c1 := cell_two1 b
        refine stepS rfl fun K hK => ?_
        go_simp
        exact hK _ _ { h with e0 := fun _ => rfl }
      · intro L s w2 h hk hd hn
        have s7 : s 7 = _ := hk 7 (by kernel_rfl)
        have b := (h.bel.block _ (lt_of_block HBd.out)).trans HBd.out
        obtain ⟨c0, c1, c2⟩ := cell_thr b
        refine stepS rfl fun K hK => ?_
        go_simp
        exact hK _ _ { h with e1 := fun _ => rfl }
      · intro L s w2 h hk hd hn
        have s28 := h.e1 hd.1
        refine stepS rfl fun K hK => ?_
        go_simp
        refine (draft_Span x0 x1 x2 Hx.out.1 Hx.out.2 _).mono ?_
        rintro e w3 ⟨rfl, hb⟩
        exact ⟨_, rfl, hK _ _ { h with bel := below_step h.bel hb, e2 := fun _ => rfl }⟩
      · intro L s w2 h hk hd hn
        have s27 := h.e0 hd.1
        have s29 := h.e2 hd.2.1
        refine stepS rfl fun K hK => ?_
        go_simp
        exact hK _ _ { h with e3 := fun _ => rfl }
      · intro L s w2 h hk hd hn
        refine stepS rfl fun K hK => ?_
        go_simp
        exact hK _ _ { h with e4 := fun _ => rfl }
    · intro L s w2 h hk hl
      rename_i J K' hR hM
      refine hM _ _ (Met.intro (hR _ _ ?_))
      repeat apply Exists.intro
      refine ⟨⟨h.e3 (hl 3 (by decide)), h.e4 (hl 4 (by decide)), Lib.hid (HK.out.on h.bel)⟩, ?_⟩
      refine congrArg (fun l => (⟨List.toArray l, []⟩ : Act)) ?_
      show [s 0, s 1, s 2, s 3, s 4, s 5, s 6, s 7, s 8, s 9, s 10, s 11, s 12, s 13, s 14, s 15, s 16, s 17, s 18, s 19, s 20, s 21, s 22, s 23, s 24, s 25, s 26, s 27, s 28, s 29, s 30, s 31, s 32, s 33, s 34, s 35, s 36, s 37, s 38, s 39, s 40, s 41, s 42, s 43, s 44, s 45, s 46, s 47, s 48, s 49, s 50, s 51, s 52, s 53, s 54, s 55, s 56, s 57, s 58, s 59, s 60, s 61, s 62, s 63, s 64, s 65, s 66, s 67, s 68, s 69, s 70, s 71, s 72, s 73, s 74, s 75, s 76, s 77, s 78, s 79, s 80, s 81, s 82, s 83, s 84, s 85, s 86, s 87, s 88, s 89, s 90, s 91, s 92, s 93, s 94, s 95, s 96, s 97, s 98, s 99, s 100, s 101, s 102, s 103, s 104, s 105, s 106, s 107, s 108, s 109, s 110, s 111] = _
      exact lc (hk 0 (by kernel_rfl)) (lc (hk 1 (by kernel_rfl)) (lc (hk 2 (by kernel_rfl)) (lc (hk 3 (by kernel_rfl)) (lc (hk 4 (by kernel_rfl)) (lc (hk 5 (by kernel_rfl)) (lc (hk 6 (by kernel_rfl)) (lc (hk 7 (by kernel_rfl)) (lc (hk 8 (by kernel_rfl)) (lc (hk 9 (by kernel_rfl)) (lc (hk 10 (by kernel_rfl)) (lc (hk 11 (by kernel_rfl)) (lc (hk 12 (by kernel_rfl)) (lc (hk 13 (by kernel_rfl)) (lc (hk 14 (by kernel_rfl)) (lc (hk 15 (by kernel_rfl)) (lc (hk 16 (by kernel_rfl)) (lc (hk 17 (by kernel_rfl)) (lc (hk 18 (by kernel_rfl)) (lc (hk 19 (by kernel_rfl)) (lc (hk 20 (by kernel_rfl)) (lc (hk 21 (by kernel_rfl)) (lc (hk 22 (by kernel_rfl)) (lc (hk 23 (by kernel_rfl)) (lc (hk 24 (by kernel_rfl)) (lc (hk 25 (by kernel_rfl)) (lc (hk 26 (by kernel_rfl)) (lc rfl (lc rfl (lc rfl (lc rfl (lc rfl (lc (hk 32 (by kernel_rfl)) (lc (hk 33 (by kernel_rfl)) (lc (hk 34 (by kernel_rfl)) (lc (hk 35 (by kernel_rfl)) (lc (hk 36 (by kernel_rfl)) (lc (hk 37 (by kernel_rfl)) (lc (hk 38 (by kernel_rfl)) (lc (hk 39 (by kernel_rfl)) (lc (hk 40 (by kernel_rfl)) (lc (hk 41 (by kernel_rfl)) (lc (hk 42 (by kernel_rfl)) (lc (hk 43 (by kernel_rfl)) (lc (hk 44 (by kernel_rfl)) (lc (hk 45 (by kernel_rfl)) (lc (hk 46 (by kernel_rfl)) (lc (hk 47 (by kernel_rfl)) (lc (hk 48 (by kernel_rfl)) (lc (hk 49 (by kernel_rfl)) (lc (hk 50 (by kernel_rfl)) (lc (hk 51 (by kernel_rfl)) (lc (hk 52 (by kernel_rfl)) (lc (hk 53 (by kernel_rfl)) (lc (hk 54 (by kernel_rfl)) (lc (hk 55 (by kernel_rfl)) (lc (hk 56 (by kernel_rfl)) (lc (hk 57 (by kernel_rfl)) (lc (hk 58 (by kernel_rfl)) (lc (hk 59 (by kernel_rfl)) (lc (hk 60 (by kernel_rfl)) (lc (hk 61 (by kernel_rfl)) (lc (hk 62 (by kernel_rfl)) (lc (hk 63 (by kernel_rfl)) (lc (hk 64 (by kernel_rfl)) (lc (hk 65 (by kernel_rfl)) (lc (hk 66 (by kernel_rfl)) (lc (hk 67 (by kernel_rfl)) (lc (hk 68 (by kernel_rfl)) (lc (hk 69 (by kernel_rfl)) (lc (hk 70 (by kernel_rfl)) (lc (hk 71 (by kernel_rfl)) (lc (hk 72 (by kernel_rfl)) (lc (hk 73 (by kernel_rfl)) (lc (hk 74 (by kernel_rfl)) (lc (hk 75 (by kernel_rfl)) (lc (hk 76 (by kernel_rfl)) (lc (hk 77 (by kernel_rfl)) (lc (hk 78 (by kernel_rfl)) (lc (hk 79 (by kernel_rfl)) (lc (hk 80 (by kernel_rfl)) (lc (hk 81 (by kernel_rfl)) (lc (hk 82 (by kernel_rfl)) (lc (hk 83 (by kernel_rfl)) (lc (hk 84 (by kernel_rfl)) (lc (hk 85 (by kernel_rfl)) (lc (hk 86 (by kernel_rfl)) (lc (hk 87 (by kernel_rfl)) (lc (hk 88 (by kernel_rfl)) (lc (hk 89 (by kernel_rfl)) (lc (hk 90 (by kernel_rfl)) (lc (hk 91 (by kernel_rfl)) (lc (hk 92 (by kernel_rfl)) (lc (hk 93 (by kernel_rfl)) (lc (hk 94 (by kernel_rfl)) (lc (hk 95 (by kernel_rfl)) (lc (hk 96 (by kernel_rfl)) (lc (hk 97 (by kernel_rfl)) (lc (hk 98 (by kernel_rfl)) (lc (hk 99 (by kernel_rfl)) (lc (hk 100 (by kernel_rfl)) (lc (hk 101 (by kernel_rfl)) (lc (hk 102 (by kernel_rfl)) (lc (hk 103 (by kernel_rfl)) (lc (hk 104 (by kernel_rfl)) (lc (hk 105 (by kernel_rfl)) (lc (hk 106 (by kernel_rfl)) (lc (hk 107 (by kernel_rfl)) (lc (hk 108 (by kernel_rfl)) (lc (hk 109 (by kernel_rfl)) (lc (hk 110 (by kernel_rfl)) (lc (hk 111 (by kernel_rfl)) rfl)))))))))))))))))))))))))))))))))))))))))))))))))))))))))))))))))))))))))))))))))))))))))))))))))))))))))))))))
  case rest =>
    clear HK HBa HBd
    obtain ⟨rfl, rfl, HK⟩ := hcut
    generalize (dSpan x0 x1 x2) = xs at *
    go_wp2_with fail
    go_loopw [31] (fun i wr => ∃ k : Nat, k ≤ 2 ∧ i = .int .i64 k ∧ Hid (Kn w wr [])) (fun i _ => 2 - (intOf i).toNat)
    case atStart => exact ⟨0, by omega, rfl, HK⟩
    case round =>
      clear HK
      obtain ⟨k, hk, rfl, HA⟩ := hrel
      have hS := HA.out
      rcases Nat.lt_or_ge k 2 with hk' | hk'
      · obtain ⟨z, hz⟩ : ∃ z : Int × Int, ∀ W, (Instr.index 29 (.agg #[.int .i64 a.1, .int .i64 a.2, .int .i64 xs.1, .int .i64 xs.2]) (.int .i64 k)).run Tryd.prog W = .ok (.agg #[.int .i64 z.1, .int .i64 z.2]) W := by
          rcases (by omega : k = 0 ∨ k = 1) with rfl | rfl
          · exact ⟨a, fun W => by kernel_rfl⟩
          · exact ⟨xs, fun W => by kernel_rfl⟩
        go_wp2_with fail
        replace hS := hS.al (.cells #[.int .i64 z.1, .int .i64 z.2] 23 (0, 0))
        refine (hS.call (span_Of z.1 z.2 _)).mono ?_; rintro e x0 ⟨rfl, hS⟩
        have lS := lt_of_block (hS.blk (wr.heap.size, .cells #[.int .i64 z.1, .int .i64 z.2] 23 (0, 0)) (List.Mem.head _))
        have cS0 := cell_two0 (hS.blk (wr.heap.size, .cells #[.int .i64 z.1, .int .i64 z.2] 23 (0, 0)) (List.Mem.head _))
        have cS1 := cell_two1 (hS.blk (wr.heap.size, .cells #[.int .i64 z.1, .int .i64 z.2] 23 (0, 0)) (List.Mem.head _))
        go_wp2_with fail
        clear lS cS0 cS1
        replace hS := hS.al (.cells #[.int .i64 (sOf z.1 z.2).1.1, .int .i64 (sOf z.1 z.2).1.2] 23 (0, 0))
        refine (hS.call (ref2_Of z.1 z.2 _)).mono ?_; rintro e x1 ⟨rfl, hS⟩
        have lS := lt_of_block (hS.blk (wr.heap.size, .cells #[.int .i64 z.1, .int .i64 z.2] 23 (0, 0)) (List.Mem.tail _ (List.Mem.head _)))
        have cS0 := cell_two0 (hS.blk (wr.heap.size, .cells #[.int .i64 z.1, .int .i64 z.2] 23 (0, 0)) (List.Mem.tail _ (List.Mem.head _)))
        have cS1 := cell_two1 (hS.blk (wr.heap.size, .cells #[.int .i64 z.1, .int .i64 z.2] 23 (0, 0)) (List.Mem.tail _ (List.Mem.head _)))
        go_wp2_with fail
        clear lS cS0 cS1
        replace hS := hS.al (.cells #[.int .i64 (sOf z.1 z.2).1.1, .int .i64 (sOf z.1 z.2).1.2] 23 (0, 0))
        refine (hS.call (span_Point z.1 _)).mono ?_; rintro e x2 ⟨rfl, hS⟩
        have lS := lt_of_block (hS.blk (wr.heap.size, .cells #[.int .i64 z.1, .int .i64 z.2] 23 (0, 0)) (List.Mem.tail _ (List.Mem.tail _ (List.Mem.head _))))
        have cS0 := cell_two0 (hS.blk (wr.heap.size, .cells #[.int .i64 z.1, .int .i64 z.2] 23 (0, 0)) (List.Mem.tail _ (List.Mem.tail _ (List.Mem.head _))))
        have cS1 := cell_two1 (hS.blk (wr.heap.size, .cells #[.int .i64 z.1, .int .i64 z.2] 23 (0, 0)) (List.Mem.tail _ (List.Mem.tail _ (List.Mem.head _))))
        go_wp2_with fail
        clear lS cS0 cS1
        replace hS := hS.al (.cells #[.int .i64 (sOf z.1 z.1).1.1, .int .i64 (sOf z.1 z.1).1.2] 23 (0, 0))
        refine (hS.call (ref2_Point z.1 _)).mono ?_; rintro e x3 ⟨rfl, hS⟩
        replace hS := hS.al (.cells #[.int .i64 (sOf z.1 z.1).1.1, .int .i64 (sOf z.1 z.1).1.2] 23 (0, 0))
        go_upto_region 10 with (fail)
        obtain ⟨W9, hW9⟩ : ∃ W9, W9 = x3.alloc (.cells #[.int .i64 (sOf z.1 z.1).1.1, .int .i64 (sOf z.1 z.1).1.2] 23 (0, 0)) := ⟨_, rfl⟩
        rw [← hW9] at hS ⊢
        clear hW9
        have HS1 := Lib.hid (hS.blk (wr.heap.size, .cells #[.int .i64 z.1, .int .i64 z.2] 23 (0, 0)) (List.Mem.tail _ (List.Mem.tail _ (List.Mem.tail _ (List.Mem.tail _ (List.Mem.head _))))))
        have HS2 := Lib.hid (hS.blk (x0.heap.size, .cells #[.int .i64 (sOf z.1 z.2).1.1, .int .i64 (sOf z.1 z.2).1.2] 23 (0, 0)) (List.Mem.tail _ (List.Mem.tail _ (List.Mem.tail _ (List.Mem.head _)))))
        have HS3 := Lib.hid (hS.blk (x1.heap.size, .cells #[.int .i64 (sOf z.1 z.2).1.1, .int .i64 (sOf z.1 z.2).1.2] 23 (0, 0)) (List.Mem.tail _ (List.Mem.tail _ (List.Mem.head _))))
        have HS4 := Lib.hid (hS.blk (x2.heap.size, .cells #[.int .i64 (sOf z.1 z.1).1.1, .int .i64 (sOf z.1 z.1).1.2] 23 (0, 0)) (List.Mem.tail _ (List.Mem.head _)))
        have HS5 := Lib.hid (hS.blk (x3.heap.size, .cells #[.int .i64 (sOf z.1 z.1).1.1, .int .i64 (sOf z.1 z.1).1.2] 23 (0, 0)) (List.Mem.head _))
        have HK := Lib.hid (hS.sub (cs := []) (by simp))
        clear hS
        obtain ⟨S9, hS9⟩ : ∃ u, u = wr.heap.size := ⟨_, rfl⟩
        obtain ⟨B9, hB9⟩ : ∃ u, u = x0.heap.size := ⟨_, rfl⟩
        obtain ⟨C9, hC9⟩ : ∃ u, u = x1.heap.size := ⟨_, rfl⟩
        obtain ⟨D9, hD9⟩ : ∃ u, u = x2.heap.size := ⟨_, rfl⟩
        obtain ⟨E9, hE9⟩ : ∃ u, u = x3.heap.size := ⟨_, rfl⟩
        rw [← hS9] at HS1 ⊢
        rw [← hB9] at HS2 ⊢
        rw [← hC9] at HS3 ⊢
        rw [← hD9] at HS4 ⊢
        rw [← hE9] at HS5 ⊢
        clear hS9 hB9 hC9 hD9 hE9
        go_cut [82] (fun v wx => v = .bool false ∧ Hid (Kn w wx []))
        case first =>
          refine wp_region_inv (MkB W9 S9 B9 C9 D9 E9 z) (by kernel_rfl) (by kernel_rfl) ?_ ?_ ?_
          · exact ⟨(Below.refl _ _).drew, fun h => absurd h Bool.false_ne_true, fun h => absurd h Bool.false_ne_true, fun h => absurd h Bool.false_ne_true, fun h => absurd h Bool.false_ne_true, fun h => absurd h Bool.false_ne_true, fun h => absurd h Bool.false_ne_true, fun h => absurd h Bool.false_ne_true, fun h => absurd h Bool.false_ne_true, fun h => absurd h Bool.false_ne_true, fun h => absurd h Bool.false_ne_true, fun h => absurd h Bool.false_ne_true, fun h => absurd h Bool.false_ne_true, fun h => absurd h Bool.false_ne_true, fun h => absurd h Bool.false_ne_true, fun h => absurd h Bool.false_ne_true, fun h => absurd h Bool.false_ne_true, fun h => absurd h Bool.false_ne_true, fun h => absurd h Bool.false_ne_true, fun h => absurd h Bool.false_ne_true, fun h => absurd h Bool.false_ne_true, fun h => absurd h Bool.false_ne_true⟩
          · refine AllS.cons ?_ (AllS.cons ?_ (AllS.cons ?_ (AllS.cons ?_ (AllS.cons ?_ (AllS.cons ?_ (AllS.cons ?_ (AllS.cons ?_ (AllS.cons ?_ (AllS.cons ?_ (AllS.cons ?_ (AllS.cons ?_ (AllS.cons ?_ (AllS.cons ?_ (AllS.cons ?_ (AllS.cons ?_ (AllS.cons ?_ (AllS.cons ?_ (AllS.cons ?_ (AllS.cons ?_ (AllS.cons ?_ AllS.nil))))))))))))))))))))
            · intro L s w2 h hk hd hn
              have s10 : s 10 = _ := hk 10 (by kernel_rfl)
              have b := (h.bel.block _ (lt_of_block HS1.out)).trans HS1.out
              have c0 := cell_two0 b
              have c1 := cell_two1 b
              refine stepS rfl fun K hK => ?_
              go_simp
              exact hK _ _ { h with e0 := fun _ => rfl }
            · intro L s w2 h hk hd hn
              have s62 := h.e0 hd.1
              refine stepS rfl fun K hK => ?_
              go_simp
              refine (span_Check z _).mono ?_
              rintro e w3 ⟨rfl, hb⟩
              exact ⟨_, rfl, hK _ _ { h with bel := below_step h.bel hb, e1 := fun _ => rfl }⟩
            · intro L s w2 h hk hd hn
              have s10 : s 10 = _ := hk 10 (by kernel_rfl)
              have b := (h.bel.block _ (lt_of_block HS1.out)).trans HS1.out
              have c0 := cell_two0 b
              have c1 := cell_two1 b
              refine stepS rfl fun K hK => ?_
              go_simp
              exact hK _ _ { h with e2 := fun _ => rfl }
            · intro L s w2 h hk hd hn
              have s64 := h.e2 hd.1
              refine stepS rfl fun K hK => ?_
              go_simp
              refine (ref2_Check z _).mono ?_
              rintro e w3 ⟨rfl, hb⟩
              exact ⟨_, rfl, hK _ _ { h with bel := below_step h.bel hb, e3 := fun _ => rfl }⟩
            · intro L s w2 h hk hd hn
              have s63 := h.e1 hd.1
              have s65 := h.e3 hd.2.1
              refine stepS rfl fun K hK => ?_
              go_simp
              exact hK _ _ { h with e4 := fun _ => rfl }
            · intro L s w2 h hk hd hn
              have s66 := h.e4 hd.1
              refine stepS rfl fun K hK => ?_
              go_simp
              exact hK _ _ { h with e5 := fun _ => rfl }
            · intro L s w2 h hk hd hn
              have gq := h.e5 hd.1
              have s11 : s 11 = _ := hk 11 (by kernel_rfl)
              have b := (h.bel.block _ (lt_of_block HS2.out)).trans HS2.out
              have c0 := cell_two0 b
              have c1 := cell_two1 b
              refine stepS (by simp [Region.wanted, yieldS, gq]) fun K hK => ?_
              go_simp
              exact hK _ _ { h with e6 := fun _ => rfl }
            · intro L s w2 h hk hd hn
              have gq := h.e5 hd.1
              have s12 : s 12 = _ := hk 12 (by kernel_rfl)
              refine stepS (by simp [Region.wanted, yieldS, gq]) fun K hK => ?_
              go_simp
              exact hK _ _ { h with e7 := fun _ => rfl }
            · intro L s w2 h hk hd hn
              have gq := h.e5 hd.1
              have s13 : s 13 = _ := hk 13 (by kernel_rfl)
              have b := (h.bel.block _ (lt_of_block HS3.out)).trans HS3.out
              have c0 := cell_two0 b
              have c1 := cell_two1 b
              refine stepS (by simp [Region.wanted, yieldS, gq]) fun K hK => ?_
              go_simp
              exact hK _ _ { h with e8 := fun _ => rfl }
            · intro L s w2 h hk hd hn
              have gq := h.e5 hd.1
              have s14 : s 14 = _ := hk 14 (by kernel_rfl)
              refine stepS (by simp [Region.wanted, yieldS, gq]) fun K hK => ?_
              go_simp
              exact hK _ _ { h with e9 := fun _ => rfl }
            · intro L s w2 h hk hd hn
              have gq := h.e5 hd.2.2.2.2.1
              have s68 := h.e6 hd.1
              have s69 := h.e7 hd.2.1
              have s70 := h.e8 hd.2.2.1
              have s71 := h.e9 hd.2.2.2.1
              refine stepS (by simp [Region.wanted, yieldS, gq]) fun K hK => ?_
              go_simp
              refine (law2_alike (sOf z.1 z.2) _).mono ?_
              rintro e w3 ⟨rfl, hb⟩
              exact ⟨_, rfl, hK _ _ { h with bel := below_step h.bel hb, e10 := fun _ => rfl }⟩
            · intro L s w2 h hk hd hn
              have gq := h.e5 hd.2.1
              have s72 := h.e10 hd.1
              refine stepS (by simp [Region.wanted, yieldS, gq]) fun K hK => ?_
              go_simp
              exact hK _ _ { h with e11 := fun _ => rfl }
            · intro L s w2 h hk hd hn
              have s67 := h.e5 hd.1
              have s73 := h.e11 hd.2.1
              refine stepS rfl fun K hK => ?_
              go_simp
              exact hK _ _ { h with e12 := fun _ => rfl }
            · intro L s w2 h hk hd hn
              have s74 := h.e12 hd.1
              refine stepS rfl fun K hK => ?_
              go_simp
              exact hK _ _ { h with e13 := fun _ => rfl }
            · intro L s w2 h hk hd hn
              have gq := h.e13 hd.1
              have s15 : s 15 = _ := hk 15 (by kernel_rfl)
              have b := (h.bel.block _ (lt_of_block HS4.out)).trans HS4.out
              have c0 := cell_two0 b
              have c1 := cell_two1 b
              refine stepS (by simp [Region.wanted, yieldS, gq]) fun K hK => ?_
              go_simp
              exact hK _ _ { h with e14 := fun _ => rfl }
            · intro L s w2 h hk hd hn
              have gq := h.e13 hd.1
              have s16 : s 16 = _ := hk 16 (by kernel_rfl)
              refine stepS (by simp [Region.wanted, yieldS, gq]) fun K hK => ?_
              go_simp
              exact hK _ _ { h with e15 := fun _ => rfl }
            · intro L s w2 h hk hd hn
              have gq := h.e13 hd.1
              have s17 : s 17 = _ := hk 17 (by kernel_rfl)
              have b := (h.bel.block _ (lt_of_block HS5.out)).trans HS5.out
              have c0 := cell_two0 b
              have c1 := cell_two1 b
              refine stepS (by simp [Region.wanted, yieldS, gq]) fun K hK => ?_
              go_simp
              exact hK _ _ { h with e16 := fun _ => rfl }
            · intro L s w2 h hk hd hn
              have gq := h.e13 hd.1
              have s18 : s 18 = _ := hk 18 (by kernel_rfl)
              refine stepS (by simp [Region.wanted, yieldS, gq]) fun K hK => ?_
              go_simp
              exact hK _ _ { h with e17 := fun _ => rfl }
            · intro L s w2 h hk hd hn
              have gq := h.e13 hd.2.2.2.2.1
              have s76 := h.e14 hd.1
              have s77 := h.e15 hd.2.1
              have s78 := h.e16 hd.2.2.1
              have s79 := h.e17 hd.2.2.2.1
              refine stepS (by simp [Region.wanted, yieldS, gq]) fun K hK => ?_
              go_simp
              refine (law2_alike (sOf z.1 z.1) _).mono ?_
              rintro e w3 ⟨rfl, hb⟩
              exact ⟨_, rfl, hK _ _ { h with bel := below_step h.bel hb, e18 := fun _ => rfl }⟩
            · intro L s w2 h hk hd hn
              have gq := h.e13 hd.2.1
              have s80 := h.e18 hd.1
              refine stepS (by simp [Region.wanted, yieldS, gq]) fun K hK => ?_
              go_simp
              exact hK _ _ { h with e19 := fun _ => rfl }
            · intro L s w2 h hk hd hn
              have s75 := h.e13 hd.1
              have s81 := h.e19 hd.2.1
              refine stepS rfl fun K hK => ?_
              go_simp
              exact hK _ _ { h with e20 := fun _ => rfl }
          · intro L s w2 h hk hl
            rename_i J K' hR hM
            refine hM _ _ (Met.intro (hR _ _ ?_))
            repeat apply Exists.intro
            refine ⟨⟨h.e20 (hl 20 (by decide)), Lib.hid (HK.out.on h.bel)⟩, ?_⟩
            refine congrArg (fun l => (⟨List.toArray l, []⟩ : Act)) ?_
            show [s 0, s 1, s 2, s 3, s 4, s 5, s 6, s 7, s 8, s 9, s 10, s 11, s 12, s 13, s 14, s 15, s 16, s 17, s 18, s 19, s 20, s 21, s 22, s 23, s 24, s 25, s 26, s 27, s 28, s 29, s 30, s 31, s 32, s 33, s 34, s 35, s 36, s 37, s 38, s 39, s 40, s 41, s 42, s 43, s 44, s 45, s 46, s 47, s 48, s 49, s 50, s 51, s 52, s 53, s 54, s 55, s 56, s 57, s 58, s 59, s 60, s 61, s 62, s 63, s 64, s 65, s 66, s 67, s 68, s 69, s 70, s 71, s 72, s 73, s 74, s 75, s 76, s 77, s 78, s 79, s 80, s 81, s 82, s 83, s 84, s 85, s 86, s 87, s 88, s 89, s 90, s 91, s 92, s 93, s 94, s 95, s 96, s 97, s 98, s 99, s 100, s 101, s 102, s 103, s 104, s 105, s 106, s 107, s 108, s 109, s 110, s 111] = _
            exact lc (hk 0 (by kernel_rfl)) (lc (hk 1 (by kernel_rfl)) (lc (hk 2 (by kernel_rfl)) (lc (hk 3 (by kernel_rfl)) (lc (hk 4 (by kernel_rfl)) (lc (hk 5 (by kernel_rfl)) (lc (hk 6 (by kernel_rfl)) (lc (hk 7 (by kernel_rfl)) (lc (hk 8 (by kernel_rfl)) (lc (hk 9 (by kernel_rfl)) (lc (hk 10 (by kernel_rfl)) (lc (hk 11 (by kernel_rfl)) (lc (hk 12 (by kernel_rfl)) (lc (hk 13 (by kernel_rfl)) (lc (hk 14 (by kernel_rfl)) (lc (hk 15 (by kernel_rfl)) (lc (hk 16 (by kernel_rfl)) (lc (hk 17 (by kernel_rfl)) (lc (hk 18 (by kernel_rfl)) (lc (hk 19 (by kernel_rfl)) (lc (hk 20 (by kernel_rfl)) (lc (hk 21 (by kernel_rfl)) (lc (hk 22 (by kernel_rfl)) (lc (hk 23 (by kernel_rfl)) (lc (hk 24 (by kernel_rfl)) (lc (hk 25 (by kernel_rfl)) (lc (hk 26 (by kernel_rfl)) (lc (hk 27 (by kernel_rfl)) (lc (hk 28 (by kernel_rfl)) (lc (hk 29 (by kernel_rfl)) (lc (hk 30 (by kernel_rfl)) (lc (hk 31 (by kernel_rfl)) (lc (hk 32 (by kernel_rfl)) (lc (hk 33 (by kernel_rfl)) (lc (hk 34 (by kernel_rfl)) (lc (hk 35 (by kernel_rfl)) (lc (hk 36 (by kernel_rfl)) (lc (hk 37 (by kernel_rfl)) (lc (hk 38 (by kernel_rfl)) (lc (hk 39 (by kernel_rfl)) (lc (hk 40 (by kernel_rfl)) (lc (hk 41 (by kernel_rfl)) (lc (hk 42 (by kernel_rfl)) (lc (hk 43 (by kernel_rfl)) (lc (hk 44 (by kernel_rfl)) (lc (hk 45 (by kernel_rfl)) (lc (hk 46 (by kernel_rfl)) (lc (hk 47 (by kernel_rfl)) (lc (hk 48 (by kernel_rfl)) (lc (hk 49 (by kernel_rfl)) (lc (hk 50 (by kernel_rfl)) (lc (hk 51 (by kernel_rfl)) (lc (hk 52 (by kernel_rfl)) (lc (hk 53 (by kernel_rfl)) (lc (hk 54 (by kernel_rfl)) (lc (hk 55 (by kernel_rfl)) (lc (hk 56 (by kernel_rfl)) (lc (hk 57 (by kernel_rfl)) (lc (hk 58 (by kernel_rfl)) (lc (hk 59 (by kernel_rfl)) (lc (hk 60 (by kernel_rfl)) (lc (hk 61 (by kernel_rfl)) (lc rfl (lc rfl (lc rfl (lc rfl (lc rfl (lc rfl (lc rfl (lc rfl (lc rfl (lc rfl (lc rfl (lc rfl (lc rfl (lc rfl (lc rfl (lc rfl (lc rfl (lc rfl (lc rfl (lc rfl (lc rfl (lc (hk 83 (by kernel_rfl)) (lc (hk 84 (by kernel_rfl)) (lc (hk 85 (by kernel_rfl)) (lc (hk 86 (by kernel_rfl)) (lc (hk 87 (by kernel_rfl)) (lc (hk 88 (by kernel_rfl)) (lc (hk 89 (by kernel_rfl)) (lc (hk 90 (by kernel_rfl)) (lc (hk 91 (by kernel_rfl)) (lc (hk 92 (by kernel_rfl)) (lc (hk 93 (by kernel_rfl)) (lc (hk 94 (by kernel_rfl)) (lc (hk 95 (by kernel_rfl)) (lc (hk 96 (by kernel_rfl)) (lc (hk 97 (by kernel_rfl)) (lc (hk 98 (by kernel_rfl)) (lc (hk 99 (by kernel_rfl)) (lc (hk 100 (by kernel_rfl)) (lc (hk 101 (by kernel_rfl)) (lc (hk 102 (by kernel_rfl)) (lc (hk 103 (by kernel_rfl)) (lc (hk 104 (by kernel_rfl)) (lc (hk 105 (by kernel_rfl)) (lc (hk 106 (by kernel_rfl)) (lc (hk 107 (by kernel_rfl)) (lc (hk 108 (by kernel_rfl)) (lc (hk 109 (by kernel_rfl)) (lc (hk 110 (by kernel_rfl)) (lc (hk 111 (by kernel_rfl)) rfl)))))))))))))))))))))))))))))))))))))))))))))))))))))))))))))))))))))))))))))))))))))))))))))))))))))))))))))))
        case rest =>
          clear HK HS1 HS2 HS3 HS4 HS5
          obtain ⟨rfl, HK⟩ := hcut
          go_wp2_with fail
          go_roundw
          case rel => exact ⟨k + 1, by omega, by go_num, HK⟩
          case measure => simp [intOf]; omega
      · obtain rfl : k = 2 := by omega
        have HS2 := HA
        go_wp2_with fail
        clear hS
        generalize wrap64 ((IntKind.u64.wrap d).tmod 14) = K at *
        go_loopw [90] (fun i wx => ∃ j : Nat, j ≤ 2 ∧ i = .int .i64 j ∧ Hid (Kn w wx [])) (fun i _ => 2 - (intOf i).toNat)
        case atStart => exact ⟨0, by omega, rfl, HS2⟩
        case round =>
          clear HS2
          obtain ⟨j, hj, rfl, HB⟩ := hrel
          have hS := HB.out
          rename_i wx
          rcases Nat.lt_or_ge j 2 with hj' | hj'
          · obtain ⟨q, hq⟩ : ∃ q : Int, ∀ W, (Instr.index 37 (.agg #[.int .i64 d, .int .i64 K]) (.int .i64 j)).run Tryd.prog W = .ok (.int .i64 q) W := by
              rcases (by omega : j = 0 ∨ j = 1) with rfl | rfl
              · exact ⟨d, fun W => by kernel_rfl⟩
              · exact ⟨K, fun W => by kernel_rfl⟩
            go_wp2_with fail
            refine (hS.call (span_Dec n q Hn.out _ (HP.out.below hS.bel))).mono ?_; rintro e y0 ⟨rfl, hS⟩
            go_wp2_with fail
            replace hS := hS.al (.cells #[.int .i64 (sDec n q).1.1, .int .i64 (sDec n q).1.2] 23 (0, 0))
            refine (hS.call (ref2_Dec n q Hn.out _)).mono ?_; rintro e y1 ⟨rfl, hS⟩
            have lR := lt_of_block (hS.blk (y0.heap.size, .cells #[.int .i64 (sDec n q).1.1, .int .i64 (sDec n q).1.2] 23 (0, 0)) (List.Mem.head _))
            have cR0 := cell_two0 (hS.blk (y0.heap.size, .cells #[.int .i64 (sDec n q).1.1, .int .i64 (sDec n q).1.2] 23 (0, 0)) (List.Mem.head _))
            have cR1 := cell_two1 (hS.blk (y0.heap.size, .cells #[.int .i64 (sDec n q).1.1, .int .i64 (sDec n q).1.2] 23 (0, 0)) (List.Mem.head _))
            go_wp2_with fail
            clear lR cR0 cR1
            replace hS := hS.al (.cells #[.int .i64 (sDec n q).1.1, .int .i64 (sDec n q).1.2] 23 (0, 0))
            refine (hS.call (law2_alike (sDec n q) _)).mono ?_; rintro e y2 ⟨rfl, hS⟩
            go_wp2_with fail
            go_roundw
            case rel => ((repeat apply Exists.intro); exact ⟨⟨j + 1, by omega, by go_num, Lib.hid (hS.sub (by simp))⟩, rfl⟩)
            case measure => simp [intOf]; omega
          · obtain rfl : j = 2 := by omega
            go_wp2_with fail
            go_ret
            exact ⟨rfl, HB.out.bel⟩
end Go.Proofs.YtjphhdfkkkdppaaDoor
