/- Law 06's drafts and pairs. Printed by wip/genVP.py. -/
import Derived.Deep.DeepCutAuto
import Derived.Test.YtmnccbhlllnlbaaGreatLawV
import Derived.Test.YtmnccbhlllnlbaaGreatRefY
namespace Mnc
/-- A draft of an interval; of a vector. -/
abbrev Dn := Int × Int × Int
def Dn.wf (d : Dn) : Prop := (0 ≤ d.2.1 ∧ d.2.1 < 256) ∧ (0 ≤ d.2.2 ∧ d.2.2 < 4294967296)
abbrev Dw := Dn × Dn × Dn
def Dw.wf (d : Dw) : Prop := Dn.wf d.1 ∧ Dn.wf d.2.1 ∧ Dn.wf d.2.2
def drV (d : Dw) : V3 := (dSpan d.1.1 d.1.2.1 d.1.2.2, dSpan d.2.1.1 d.2.1.2.1 d.2.1.2.2, dSpan d.2.2.1 d.2.2.2.1 d.2.2.2.2)
def drS (d : Dw) : V3 := (dSmall d.1.1 d.1.2.1 d.1.2.2, dSmall d.2.1.1 d.2.1.2.1 d.2.1.2.2, dSmall d.2.2.1 d.2.2.2.1 d.2.2.2.2)
theorem drV_ok {d : Dw} (h : d.wf) : okV (drV d) := ⟨dSpan_okS _ _ _ h.1.2, dSpan_okS _ _ _ h.2.1.2, dSpan_okS _ _ _ h.2.2.2⟩
theorem drS_ok {d : Dw} (h : d.wf) : okV (drS d) := ⟨(dSmall_sml _ _ _ h.1.2).1, (dSmall_sml _ _ _ h.2.1.2).1, (dSmall_sml _ _ _ h.2.2.2).1⟩
/-- Two vectors and two drafts. -/
structure Tv where
  a : V3
  b : V3
  x : Dw
  y : Dw
structure Tv.ok (T : Tv) : Prop where
  x : T.x.wf
  y : T.y.wf
def pvs (T : Tv) : List (V3 × V3) := [(T.a, T.b), (drV T.x, drS T.y), (drS T.x, drS T.y), (drS T.x, T.b)]
def pvFlat : List (V3 × V3) → List Go.Value
  | [] => []
  | p :: l => .int .i64 p.1.1.1 :: .int .i64 p.1.1.2 :: .int .i64 p.1.2.1.1 :: .int .i64 p.1.2.1.2 :: .int .i64 p.1.2.2.1 :: .int .i64 p.1.2.2.2 :: .int .i64 p.2.1.1 :: .int .i64 p.2.1.2 :: .int .i64 p.2.2.1.1 :: .int .i64 p.2.2.1.2 :: .int .i64 p.2.2.2.1 :: .int .i64 p.2.2.2.2 :: pvFlat l
end Mnc
namespace Go.Proofs.YtmnccbhlllnlbaaGreat
open Go.RowKit Mnc
attribute [local go_sem] RunS_value RunS_skip RunS_enter evS_tmp evS_const evS_global evS_func
structure DvVec (W : World) (K1 K2 : Nat) (d : Dw) (x y z : Int × Int) (L : Nat → Bool) (s : Nat → Value) (w : World) : Prop where
  bel : Below W.heap.size W w
  kd : w.heap[K1]? = some (.cells #[.int .i64 d.1.1, .int .u8 d.1.2.1, .int .u32 d.1.2.2, .int .i64 d.2.1.1, .int .u8 d.2.1.2.1, .int .u32 d.2.1.2.2, .int .i64 d.2.2.1, .int .u8 d.2.2.2.1, .int .u32 d.2.2.2.2] 30 (0, 0))
  kz : L 10 = false → w.heap[K2]? = some (vobj (vl v30))
  kr : L 10 = true → w.heap[K2]? = some (vobj (vl (x, y, z)))
  e0 : L 0 = true → s 3 = .pointer (some ⟨K1, 0, none⟩)
  e1 : L 1 = true → s 4 = .agg #[.int .i64 d.1.1, .int .u8 d.1.2.1, .int .u32 d.1.2.2]
  e2 : L 2 = true → s 5 = .agg #[.int .i64 x.1, .int .i64 x.2]
  e3 : L 3 = true → s 6 = .pointer (some ⟨K1, 3, none⟩)
  e4 : L 4 = true → s 7 = .agg #[.int .i64 d.2.1.1, .int .u8 d.2.1.2.1, .int .u32 d.2.1.2.2]
  e5 : L 5 = true → s 8 = .agg #[.int .i64 y.1, .int .i64 y.2]
  e6 : L 6 = true → s 9 = .pointer (some ⟨K1, 6, none⟩)
  e7 : L 7 = true → s 10 = .agg #[.int .i64 d.2.2.1, .int .u8 d.2.2.2.1, .int .u32 d.2.2.2.2]
  e8 : L 8 = true → s 11 = .agg #[.int .i64 z.1, .int .i64 z.2]
  e9 : L 9 = true → s 12 = .agg #[.int .i64 x.1, .int .i64 x.2, .int .i64 y.1, .int .i64 y.2, .int .i64 z.1, .int .i64 z.2]
set_option maxRecDepth 100000 in
set_option maxHeartbeats 4000000 in
theorem draft6_Vec (d : Dw) (hd : d.wf) (w : World) :
    Calls Tryz.prog 33 #[.agg #[.int .i64 d.1.1, .int .u8 d.1.2.1, .int .u32 d.1.2.2, .int .i64 d.2.1.1, .int .u8 d.2.1.2.1, .int .u32 d.2.1.2.2, .int .i64 d.2.2.1, .int .u8 d.2.2.2.1, .int .u32 d.2.2.2.2]] w fun e w' => e = .returned (.agg #[.int .i64 (drV d).1.1, .int .i64 (drV d).1.2, .int .i64 (drV d).2.1.1, .int .i64 (drV d).2.1.2, .int .i64 (drV d).2.2.1, .int .i64 (drV d).2.2.2]) ∧ Below w.heap.size w w' := by
  have H0 := Lib.hid (fun W => draft_Span d.1.1 d.1.2.1 d.1.2.2 hd.1.1 hd.1.2 W)
  have H1 := Lib.hid (fun W => draft_Span d.2.1.1 d.2.1.2.1 d.2.1.2.2 hd.2.1.1 hd.2.1.2 W)
  have H2 := Lib.hid (fun W => draft_Span d.2.2.1 d.2.2.2.1 d.2.2.2.2 hd.2.2.1 hd.2.2.2 W)
  have hK : Kv w ((w.alloc (.cells #[.int .i64 d.1.1, .int .u8 d.1.2.1, .int .u32 d.1.2.2, .int .i64 d.2.1.1, .int .u8 d.2.1.2.1, .int .u32 d.2.1.2.2, .int .i64 d.2.2.1, .int .u8 d.2.2.2.1, .int .u32 d.2.2.2.2] 30)).alloc (.cells #[.int .i64 0, .int .i64 0, .int .i64 0, .int .i64 0, .int .i64 0, .int .i64 0] 25)) [(w.heap.size + 1, vobj (vl v30)), (w.heap.size, .cells #[.int .i64 d.1.1, .int .u8 d.1.2.1, .int .u32 d.1.2.2, .int .i64 d.2.1.1, .int .u8 d.2.1.2.1, .int .u32 d.2.1.2.2, .int .i64 d.2.2.1, .int .u8 d.2.2.2.1, .int .u32 d.2.2.2.2] 30 (0, 0))] :=
    ((Kv.start w).al (.cells #[.int .i64 d.1.1, .int .u8 d.1.2.1, .int .u32 d.1.2.2, .int .i64 d.2.1.1, .int .u8 d.2.1.2.1, .int .u32 d.2.1.2.2, .int .i64 d.2.2.1, .int .u8 d.2.2.2.1, .int .u32 d.2.2.2.2] 30 (0, 0)) (n := w.heap.size) rfl).al (vobj (vl v30)) (n := w.heap.size + 1) (by simp)
  have HK := Lib.hid hK
  clear hK hd
  have HR : Hid (drV d = (dSpan d.1.1 d.1.2.1 d.1.2.2, dSpan d.2.1.1 d.2.1.2.1 d.2.1.2.2, dSpan d.2.2.1 d.2.2.2.1 d.2.2.2.2)) := Lib.hid rfl
  rw [HR.out]
  clear HR
  generalize dSpan d.1.1 d.1.2.1 d.1.2.2 = x at *
  generalize dSpan d.2.1.1 d.2.1.2.1 d.2.1.2.2 = y at *
  generalize dSpan d.2.2.1 d.2.2.2.1 d.2.2.2.2 = z at *
  dsimp only
  go_enter Tryz.func33, Tryz.ntmps33
  go_wp2_with fail
  generalize (w.alloc (.cells #[.int .i64 d.1.1, .int .u8 d.1.2.1, .int .u32 d.1.2.2, .int .i64 d.2.1.1, .int .u8 d.2.1.2.1, .int .u32 d.2.1.2.2, .int .i64 d.2.2.1, .int .u8 d.2.2.2.1, .int .u32 d.2.2.2.2] 30)).alloc (.cells #[.int .i64 0, .int .i64 0, .int .i64 0, .int .i64 0, .int .i64 0, .int .i64 0] 25) = wc at *
  go_cut [] (fun wx => Hid (Below w.heap.size w wx ∧ wx.heap[w.heap.size + 1]? = some (vobj (vl (x, y, z)))))
  case first =>
    refine wp_region_inv (DvVec w w.heap.size (w.heap.size + 1) d x y z) (by kernel_rfl) (by kernel_rfl) ?_ ?_ ?_
    · exact ⟨HK.out.bel.drew, (HK.out.blk _ (List.mem_cons_of_mem _ (List.mem_cons_self ..))), fun _ => (HK.out.blk _ (List.mem_cons_self ..)), fun h => absurd h Bool.false_ne_true, fun h => absurd h Bool.false_ne_true, fun h => absurd h Bool.false_ne_true, fun h => absurd h Bool.false_ne_true, fun h => absurd h Bool.false_ne_true, fun h => absurd h Bool.false_ne_true, fun h => absurd h Bool.false_ne_true, fun h => absurd h Bool.false_ne_true, fun h => absurd h Bool.false_ne_true, fun h => absurd h Bool.false_ne_true, fun h => absurd h Bool.false_ne_true⟩
    · refine AllS.consN 1 (some 3) rfl rfl ?_ (AllS.consN 2 (some 4) rfl rfl ?_ (AllS.consN 3 (some 5) rfl rfl ?_ (AllS.consN 4 (some 6) rfl rfl ?_ (AllS.consN 5 (some 7) rfl rfl ?_ (AllS.consN 6 (some 8) rfl rfl ?_ (AllS.consN 7 (some 9) rfl rfl ?_ (AllS.consN 8 (some 10) rfl rfl ?_ (AllS.consN 9 (some 11) rfl rfl ?_ (AllS.consN 10 (some 12) rfl rfl ?_ (AllS.consN 11 none rfl rfl ?_ AllS.nil))))))))))
      · intro L s w2 h hk hd hn
        have s1 : s 1 = _ := hk 1 (by kernel_rfl)
        refine stepS rfl fun K hK => ?_
        go_simp
        exact hK _ _ { h with e0 := fun _ => rfl }
      · intro L s w2 h hk hd hn
        have s3 := h.e0 hd.1
        have d := h.kd
        have d0 := cell_of_row _ _ 0 _ _ _ d
        have d1 := cell_of_row _ _ 1 _ _ _ d
        have d2 := cell_of_row _ _ 2 _ _ _ d
        refine stepS rfl fun K hK => ?_
        go_simp
        exact hK _ _ { h with e1 := fun _ => rfl }
      · intro L s w2 h hk hd hn
        have s4 := h.e1 hd.1
        refine stepS rfl fun K hK => ?_
        go_simp
        refine (H0.out _).mono ?_
        rintro e w3 ⟨rfl, hb⟩
        exact ⟨_, rfl, hK _ _ { h with bel := below_step h.bel hb, kd := (hb.block _ (lt_of_block (h.kd))).trans (h.kd), kz := fun a => (hb.block _ (lt_of_block (h.kz a))).trans (h.kz a), kr := fun a => (hb.block _ (lt_of_block (h.kr a))).trans (h.kr a), e2 := fun _ => rfl }⟩
      · intro L s w2 h hk hd hn
        have s1 : s 1 = _ := hk 1 (by kernel_rfl)
        refine stepS rfl fun K hK => ?_
        go_simp
        exact hK _ _ { h with e3 := fun _ => rfl }
      · intro L s w2 h hk hd hn
        have s6 := h.e3 hd.1
        have d := h.kd
        have d3 := cell_of_row _ _ 3 _ _ _ d
        have d4 := cell_of_row _ _ 4 _ _ _ d
        have d5 := cell_of_row _ _ 5 _ _ _ d
        refine stepS rfl fun K hK => ?_
        go_simp
        exact hK _ _ { h with e4 := fun _ => rfl }
      · intro L s w2 h hk hd hn
        have s7 := h.e4 hd.1
        refine stepS rfl fun K hK => ?_
        go_simp
        refine (H1.out _).mono ?_
        rintro e w3 ⟨rfl, hb⟩
        exact ⟨_, rfl, hK _ _ { h with bel := below_step h.bel hb, kd := (hb.block _ (lt_of_block (h.kd))).trans (h.kd), kz := fun a => (hb.block _ (lt_of_block (h.kz a))).trans (h.kz a), kr := fun a => (hb.block _ (lt_of_block (h.kr a))).trans (h.kr a), e5 := fun _ => rfl }⟩
      · intro L s w2 h hk hd hn
        have s1 : s 1 = _ := hk 1 (by kernel_rfl)
        refine stepS rfl fun K hK => ?_
        go_simp
        exact hK _ _ { h with e6 := fun _ => rfl }
      · intro L s w2 h hk hd hn
        have s9 := h.e6 hd.1
        have d := h.kd
        have d6 := cell_of_row _ _ 6 _ _ _ d
        have d7 := cell_of_row _ _ 7 _ _ _ d
        have d8 := cell_of_row _ _ 8 _ _ _ d
        refine stepS rfl fun K hK => ?_
        go_simp
        exact hK _ _ { h with e7 := fun _ => rfl }
      · intro L s w2 h hk hd hn
        have s10 := h.e7 hd.1
        refine stepS rfl fun K hK => ?_
        go_simp
        refine (H2.out _).mono ?_
        rintro e w3 ⟨rfl, hb⟩
        exact ⟨_, rfl, hK _ _ { h with bel := below_step h.bel hb, kd := (hb.block _ (lt_of_block (h.kd))).trans (h.kd), kz := fun a => (hb.block _ (lt_of_block (h.kz a))).trans (h.kz a), kr := fun a => (hb.block _ (lt_of_block (h.kr a))).trans (h.kr a), e8 := fun _ => rfl }⟩
      · intro L s w2 h hk hd hn
        have s5 := h.e2 hd.1
        have s8 := h.e5 hd.2.1
        have s11 := h.e8 hd.2.2.1
        refine stepS rfl fun K hK => ?_
        go_simp
        exact hK _ _ { h with e9 := fun _ => rfl }
      · intro L s w2 h hk hd hn
        have s12 := h.e9 hd.1
        have s2 : s 2 = _ := hk 2 (by kernel_rfl)
        have hv : Kv w w2 [(w.heap.size + 1, vobj (vl v30)), (w.heap.size, .cells #[.int .i64 d.1.1, .int .u8 d.1.2.1, .int .u32 d.1.2.2, .int .i64 d.2.1.1, .int .u8 d.2.1.2.1, .int .u32 d.2.1.2.2, .int .i64 d.2.2.1, .int .u8 d.2.2.2.1, .int .u32 d.2.2.2.2] 30 (0, 0))] := ⟨h.bel, List.forall_mem_cons.2 ⟨h.kz hn, List.forall_mem_cons.2 ⟨h.kd, List.forall_mem_nil _⟩⟩⟩
        have b := h.kz hn
        obtain ⟨c0, c1, c2, c3, c4, c5⟩ := vobj_six b
        have f0 := vobj_free b 0
        have f1 := vobj_free b 1
        have f2 := vobj_free b 2
        have f3 := vobj_free b 3
        have f4 := vobj_free b 4
        have f5 := vobj_free b 5
        have lb := lt_of_block b
        have hv2 := hv.set6 (Nat.le_succ _) (List.forall_mem_cons.2 ⟨by simp only; omega, List.forall_mem_nil _⟩) (x, y, z)
        dsimp only at hv2
        have hb1 := Lib.hid hv2.bel
        have hb2 := Lib.hid (hv2.blk _ (List.mem_cons_of_mem _ (List.mem_cons_self ..)))
        have hb3 := Lib.hid (hv2.blk _ (List.mem_cons_self ..))
        clear hv hv2 b
        refine stepS rfl fun K hK => ?_
        go_simp
        exact hK _ _ { h with bel := hb1.out, kd := hb2.out, kz := fun a => absurd a.symm Bool.false_ne_true, kr := fun _ => hb3.out }
    · intro L s w2 h hk hl
      rename_i J K' hR hM
      refine hM _ _ (Met.intro (hR _ _ ?_))
      repeat apply Exists.intro
      refine ⟨Lib.hid ⟨h.bel, h.kr (hl 10 (by decide))⟩, ?_⟩
      refine congrArg (fun l => (⟨List.toArray l, []⟩ : Act)) ?_
      show [s 0, s 1, s 2, s 3, s 4, s 5, s 6, s 7, s 8, s 9, s 10, s 11, s 12] = _
      exact lc (hk 0 (by kernel_rfl)) (lc (hk 1 (by kernel_rfl)) (lc (hk 2 (by kernel_rfl)) (lc rfl (lc rfl (lc rfl (lc rfl (lc rfl (lc rfl (lc rfl (lc rfl (lc rfl (lc rfl rfl))))))))))))
  case rest =>
    obtain ⟨hbel, hz⟩ := hcut.out
    obtain ⟨g0, g1, g2, g3, g4, g5⟩ := vobj_six hz
    clear hz
    go_wp2_with fail
    exact bodyPost_ret (v := .agg #[.int .i64 x.1, .int .i64 x.2, .int .i64 y.1, .int .i64 y.2, .int .i64 z.1, .int .i64 z.2]) (by simp [results, Tryz.results33, go_sem, g0, g1, g2, g3, g4, g5]) rfl ⟨rfl, hbel⟩
structure DvSmall (W : World) (K1 K2 : Nat) (d : Dw) (x y z : Int × Int) (L : Nat → Bool) (s : Nat → Value) (w : World) : Prop where
  bel : Below W.heap.size W w
  kd : w.heap[K1]? = some (.cells #[.int .i64 d.1.1, .int .u8 d.1.2.1, .int .u32 d.1.2.2, .int .i64 d.2.1.1, .int .u8 d.2.1.2.1, .int .u32 d.2.1.2.2, .int .i64 d.2.2.1, .int .u8 d.2.2.2.1, .int .u32 d.2.2.2.2] 30 (0, 0))
  kz : L 10 = false → w.heap[K2]? = some (vobj (vl v30))
  kr : L 10 = true → w.heap[K2]? = some (vobj (vl (x, y, z)))
  e0 : L 0 = true → s 3 = .pointer (some ⟨K1, 0, none⟩)
  e1 : L 1 = true → s 4 = .agg #[.int .i64 d.1.1, .int .u8 d.1.2.1, .int .u32 d.1.2.2]
  e2 : L 2 = true → s 5 = .agg #[.int .i64 x.1, .int .i64 x.2]
  e3 : L 3 = true → s 6 = .pointer (some ⟨K1, 3, none⟩)
  e4 : L 4 = true → s 7 = .agg #[.int .i64 d.2.1.1, .int .u8 d.2.1.2.1, .int .u32 d.2.1.2.2]
  e5 : L 5 = true → s 8 = .agg #[.int .i64 y.1, .int .i64 y.2]
  e6 : L 6 = true → s 9 = .pointer (some ⟨K1, 6, none⟩)
  e7 : L 7 = true → s 10 = .agg #[.int .i64 d.2.2.1, .int .u8 d.2.2.2.1, .int .u32 d.2.2.2.2]
  e8 : L 8 = true → s 11 = .agg #[.int .i64 z.1, .int .i64 z.2]
  e9 : L 9 = true → s 12 = .agg #[.int .i64 x.1, .int .i64 x.2, .int .i64 y.1, .int .i64 y.2, .int .i64 z.1, .int .i64 z.2]
set_option maxRecDepth 100000 in
set_option maxHeartbeats 4000000 in
theorem draft6_Small (d : Dw) (hd : d.wf) (w : World) :
    Calls Tryz.prog 34 #[.agg #[.int .i64 d.1.1, .int .u8 d.1.2.1, .int .u32 d.1.2.2, .int .i64 d.2.1.1, .int .u8 d.2.1.2.1, .int .u32 d.2.1.2.2, .int .i64 d.2.2.1, .int .u8 d.2.2.2.1, .int .u32 d.2.2.2.2]] w fun e w' => e = .returned (.agg #[.int .i64 (drS d).1.1, .int .i64 (drS d).1.2, .int .i64 (drS d).2.1.1, .int .i64 (drS d).2.1.2, .int .i64 (drS d).2.2.1, .int .i64 (drS d).2.2.2]) ∧ Below w.heap.size w w' := by
  have H0 := Lib.hid (fun W => draft_Small d.1.1 d.1.2.1 d.1.2.2 hd.1.1 hd.1.2 W)
  have H1 := Lib.hid (fun W => draft_Small d.2.1.1 d.2.1.2.1 d.2.1.2.2 hd.2.1.1 hd.2.1.2 W)
  have H2 := Lib.hid (fun W => draft_Small d.2.2.1 d.2.2.2.1 d.2.2.2.2 hd.2.2.1 hd.2.2.2 W)
  have hK : Kv w ((w.alloc (.cells #[.int .i64 d.1.1, .int .u8 d.1.2.1, .int .u32 d.1.2.2, .int .i64 d.2.1.1, .int .u8 d.2.1.2.1, .int .u32 d.2.1.2.2, .int .i64 d.2.2.1, .int .u8 d.2.2.2.1, .int .u32 d.2.2.2.2] 30)).alloc (.cells #[.int .i64 0, .int .i64 0, .int .i64 0, .int .i64 0, .int .i64 0, .int .i64 0] 25)) [(w.heap.size + 1, vobj (vl v30)), (w.heap.size, .cells #[.int .i64 d.1.1, .int .u8 d.1.2.1, .int .u32 d.1.2.2, .int .i64 d.2.1.1, .int .u8 d.2.1.2.1, .int .u32 d.2.1.2.2, .int .i64 d.2.2.1, .int .u8 d.2.2.2.1, .int .u32 d.2.2.2.2] 30 (0, 0))] :=
    ((Kv.start w).al (.cells #[.int .i64 d.1.1, .int .u8 d.1.2.1, .int .u32 d.1.2.2, .int .i64 d.2.1.1, .int .u8 d.2.1.2.1, .int .u32 d.2.1.2.2, .int .i64 d.2.2.1, .int .u8 d.2.2.2.1, .int .u32 d.2.2.2.2] 30 (0, 0)) (n := w.heap.size) rfl).al (vobj (vl v30)) (n := w.heap.size + 1) (by simp)
  have HK := Lib.hid hK
  clear hK hd
  have HR : Hid (drS d = (dSmall d.1.1 d.1.2.1 d.1.2.2, dSmall d.2.1.1 d.2.1.2.1 d.2.1.2.2, dSmall d.2.2.1 d.2.2.2.1 d.2.2.2.2)) := Lib.hid rfl
  rw [HR.out]
  clear HR
  generalize dSmall d.1.1 d.1.2.1 d.1.2.2 = x at *
  generalize dSmall d.2.1.1 d.2.1.2.1 d.2.1.2.2 = y at *
  generalize dSmall d.2.2.1 d.2.2.2.1 d.2.2.2.2 = z at *
  dsimp only
  go_enter Tryz.func34, Tryz.ntmps34
  go_wp2_with fail
  generalize (w.alloc (.cells #[.int .i64 d.1.1, .int .u8 d.1.2.1, .int .u32 d.1.2.2, .int .i64 d.2.1.1, .int .u8 d.2.1.2.1, .int .u32 d.2.1.2.2, .int .i64 d.2.2.1, .int .u8 d.2.2.2.1, .int .u32 d.2.2.2.2] 30)).alloc (.cells #[.int .i64 0, .int .i64 0, .int .i64 0, .int .i64 0, .int .i64 0, .int .i64 0] 25) = wc at *
  go_cut [] (fun wx => Hid (Below w.heap.size w wx ∧ wx.heap[w.heap.size + 1]? = some (vobj (vl (x, y, z)))))
  case first =>
    refine wp_region_inv (DvSmall w w.heap.size (w.heap.size + 1) d x y z) (by kernel_rfl) (by kernel_rfl) ?_ ?_ ?_
    · exact ⟨HK.out.bel.drew, (HK.out.blk _ (List.mem_cons_of_mem _ (List.mem_cons_self ..))), fun _ => (HK.out.blk _ (List.mem_cons_self ..)), fun h => absurd h Bool.false_ne_true, fun h => absurd h Bool.false_ne_true, fun h => absurd h Bool.false_ne_true, fun h => absurd h Bool.false_ne_true, fun h => absurd h Bool.false_ne_true, fun h => absurd h Bool.false_ne_true, fun h => absurd h Bool.false_ne_true, fun h => absurd h Bool.false_ne_true, fun h => absurd h Bool.false_ne_true, fun h => absurd h Bool.false_ne_true, fun h => absurd h Bool.false_ne_true⟩
    · refine AllS.consN 1 (some 3) rfl rfl ?_ (AllS.consN 2 (some 4) rfl rfl ?_ (AllS.consN 3 (some 5) rfl rfl ?_ (AllS.consN 4 (some 6) rfl rfl ?_ (AllS.consN 5 (some 7) rfl rfl ?_ (AllS.consN 6 (some 8) rfl rfl ?_ (AllS.consN 7 (some 9) rfl rfl ?_ (AllS.consN 8 (some 10) rfl rfl ?_ (AllS.consN 9 (some 11) rfl rfl ?_ (AllS.consN 10 (some 12) rfl rfl ?_ (AllS.consN 11 none rfl rfl ?_ AllS.nil))))))))))
      · intro L s w2 h hk hd hn
        have s1 : s 1 = _ := hk 1 (by kernel_rfl)
        refine stepS rfl fun K hK => ?_
        go_simp
        exact hK _ _ { h with e0 := fun _ => rfl }
      · intro L s w2 h hk hd hn
        have s3 := h.e0 hd.1
        have d := h.kd
        have d0 := cell_of_row _ _ 0 _ _ _ d
        have d1 := cell_of_row _ _ 1 _ _ _ d
        have d2 := cell_of_row _ _ 2 _ _ _ d
        refine stepS rfl fun K hK => ?_
        go_simp
        exact hK _ _ { h with e1 := fun _ => rfl }
      · intro L s w2 h hk hd hn
        have s4 := h.e1 hd.1
        refine stepS rfl fun K hK => ?_
        go_simp
        refine (H0.out _).mono ?_
        rintro e w3 ⟨rfl, hb⟩
        exact ⟨_, rfl, hK _ _ { h with bel := below_step h.bel hb, kd := (hb.block _ (lt_of_block (h.kd))).trans (h.kd), kz := fun a => (hb.block _ (lt_of_block (h.kz a))).trans (h.kz a), kr := fun a => (hb.block _ (lt_of_block (h.kr a))).trans (h.kr a), e2 := fun _ => rfl }⟩
      · intro L s w2 h hk hd hn
        have s1 : s 1 = _ := hk 1 (by kernel_rfl)
        refine stepS rfl fun K hK => ?_
        go_simp
        exact hK _ _ { h with e3 := fun _ => rfl }
      · intro L s w2 h hk hd hn
        have s6 := h.e3 hd.1
        have d := h.kd
        have d3 := cell_of_row _ _ 3 _ _ _ d
        have d4 := cell_of_row _ _ 4 _ _ _ d
        have d5 := cell_of_row _ _ 5 _ _ _ d
        refine stepS rfl fun K hK => ?_
        go_simp
        exact hK _ _ { h with e4 := fun _ => rfl }
      · intro L s w2 h hk hd hn
        have s7 := h.e4 hd.1
        refine stepS rfl fun K hK => ?_
        go_simp
        refine (H1.out _).mono ?_
        rintro e w3 ⟨rfl, hb⟩
        exact ⟨_, rfl, hK _ _ { h with bel := below_step h.bel hb, kd := (hb.block _ (lt_of_block (h.kd))).trans (h.kd), kz := fun a => (hb.block _ (lt_of_block (h.kz a))).trans (h.kz a), kr := fun a => (hb.block _ (lt_of_block (h.kr a))).trans (h.kr a), e5 := fun _ => rfl }⟩
      · intro L s w2 h hk hd hn
        have s1 : s 1 = _ := hk 1 (by kernel_rfl)
        refine stepS rfl fun K hK => ?_
        go_simp
        exact hK _ _ { h with e6 := fun _ => rfl }
      · intro L s w2 h hk hd hn
        have s9 := h.e6 hd.1
        have d := h.kd
        have d6 := cell_of_row _ _ 6 _ _ _ d
        have d7 := cell_of_row _ _ 7 _ _ _ d
        have d8 := cell_of_row _ _ 8 _ _ _ d
        refine stepS rfl fun K hK => ?_
        go_simp
        exact hK _ _ { h with e7 := fun _ => rfl }
      · intro L s w2 h hk hd hn
        have s10 := h.e7 hd.1
        refine stepS rfl fun K hK => ?_
        go_simp
        refine (H2.out _).mono ?_
        rintro e w3 ⟨rfl, hb⟩
        exact ⟨_, rfl, hK _ _ { h with bel := below_step h.bel hb, kd := (hb.block _ (lt_of_block (h.kd))).trans (h.kd), kz := fun a => (hb.block _ (lt_of_block (h.kz a))).trans (h.kz a), kr := fun a => (hb.block _ (lt_of_block (h.kr a))).trans (h.kr a), e8 := fun _ => rfl }⟩
      · intro L s w2 h hk hd hn
        have s5 := h.e2 hd.1
        have s8 := h.e5 hd.2.1
        have s11 := h.e8 hd.2.2.1
        refine stepS rfl fun K hK => ?_
        go_simp
        exact hK _ _ { h with e9 := fun _ => rfl }
      · intro L s w2 h hk hd hn
        have s12 := h.e9 hd.1
        have s2 : s 2 = _ := hk 2 (by kernel_rfl)
        have hv : Kv w w2 [(w.heap.size + 1, vobj (vl v30)), (w.heap.size, .cells #[.int .i64 d.1.1, .int .u8 d.1.2.1, .int .u32 d.1.2.2, .int .i64 d.2.1.1, .int .u8 d.2.1.2.1, .int .u32 d.2.1.2.2, .int .i64 d.2.2.1, .int .u8 d.2.2.2.1, .int .u32 d.2.2.2.2] 30 (0, 0))] := ⟨h.bel, List.forall_mem_cons.2 ⟨h.kz hn, List.forall_mem_cons.2 ⟨h.kd, List.forall_mem_nil _⟩⟩⟩
        have b := h.kz hn
        obtain ⟨c0, c1, c2, c3, c4, c5⟩ := vobj_six b
        have f0 := vobj_free b 0
        have f1 := vobj_free b 1
        have f2 := vobj_free b 2
        have f3 := vobj_free b 3
        have f4 := vobj_free b 4
        have f5 := vobj_free b 5
        have lb := lt_of_block b
        have hv2 := hv.set6 (Nat.le_succ _) (List.forall_mem_cons.2 ⟨by simp only; omega, List.forall_mem_nil _⟩) (x, y, z)
        dsimp only at hv2
        have hb1 := Lib.hid hv2.bel
        have hb2 := Lib.hid (hv2.blk _ (List.mem_cons_of_mem _ (List.mem_cons_self ..)))
        have hb3 := Lib.hid (hv2.blk _ (List.mem_cons_self ..))
        clear hv hv2 b
        refine stepS rfl fun K hK => ?_
        go_simp
        exact hK _ _ { h with bel := hb1.out, kd := hb2.out, kz := fun a => absurd a.symm Bool.false_ne_true, kr := fun _ => hb3.out }
    · intro L s w2 h hk hl
      rename_i J K' hR hM
      refine hM _ _ (Met.intro (hR _ _ ?_))
      repeat apply Exists.intro
      refine ⟨Lib.hid ⟨h.bel, h.kr (hl 10 (by decide))⟩, ?_⟩
      refine congrArg (fun l => (⟨List.toArray l, []⟩ : Act)) ?_
      show [s 0, s 1, s 2, s 3, s 4, s 5, s 6, s 7, s 8, s 9, s 10, s 11, s 12] = _
      exact lc (hk 0 (by kernel_rfl)) (lc (hk 1 (by kernel_rfl)) (lc (hk 2 (by kernel_rfl)) (lc rfl (lc rfl (lc rfl (lc rfl (lc rfl (lc rfl (lc rfl (lc rfl (lc rfl (lc rfl rfl))))))))))))
  case rest =>
    obtain ⟨hbel, hz⟩ := hcut.out
    obtain ⟨g0, g1, g2, g3, g4, g5⟩ := vobj_six hz
    clear hz
    go_wp2_with fail
    exact bodyPost_ret (v := .agg #[.int .i64 x.1, .int .i64 x.2, .int .i64 y.1, .int .i64 y.2, .int .i64 z.1, .int .i64 z.2]) (by simp [results, Tryz.results34, go_sem, g0, g1, g2, g3, g4, g5]) rfl ⟨rfl, hbel⟩
def pvObj (l : List (V3 × V3)) : Obj := .cells (pvFlat l).toArray 36 (0, 0)
def _root_.Mnc.Tv.obj (T : Tv) : Obj := .cells #[.int .i64 T.a.1.1, .int .i64 T.a.1.2, .int .i64 T.a.2.1.1, .int .i64 T.a.2.1.2, .int .i64 T.a.2.2.1, .int .i64 T.a.2.2.2, .int .i64 T.b.1.1, .int .i64 T.b.1.2, .int .i64 T.b.2.1.1, .int .i64 T.b.2.1.2, .int .i64 T.b.2.2.1, .int .i64 T.b.2.2.2, .int .i64 T.x.1.1, .int .u8 T.x.1.2.1, .int .u32 T.x.1.2.2, .int .i64 T.x.2.1.1, .int .u8 T.x.2.1.2.1, .int .u32 T.x.2.1.2.2, .int .i64 T.x.2.2.1, .int .u8 T.x.2.2.2.1, .int .u32 T.x.2.2.2.2, .int .i64 T.y.1.1, .int .u8 T.y.1.2.1, .int .u32 T.y.1.2.2, .int .i64 T.y.2.1.1, .int .u8 T.y.2.1.2.1, .int .u32 T.y.2.1.2.2, .int .i64 T.y.2.2.1, .int .u8 T.y.2.2.2.1, .int .u32 T.y.2.2.2.2] 32 (0, 0)
def _root_.Mnc.Tv.val (T : Tv) : Value := .agg #[.int .i64 T.a.1.1, .int .i64 T.a.1.2, .int .i64 T.a.2.1.1, .int .i64 T.a.2.1.2, .int .i64 T.a.2.2.1, .int .i64 T.a.2.2.2, .int .i64 T.b.1.1, .int .i64 T.b.1.2, .int .i64 T.b.2.1.1, .int .i64 T.b.2.1.2, .int .i64 T.b.2.2.1, .int .i64 T.b.2.2.2, .int .i64 T.x.1.1, .int .u8 T.x.1.2.1, .int .u32 T.x.1.2.2, .int .i64 T.x.2.1.1, .int .u8 T.x.2.1.2.1, .int .u32 T.x.2.1.2.2, .int .i64 T.x.2.2.1, .int .u8 T.x.2.2.2.1, .int .u32 T.x.2.2.2.2, .int .i64 T.y.1.1, .int .u8 T.y.1.2.1, .int .u32 T.y.1.2.2, .int .i64 T.y.2.1.1, .int .u8 T.y.2.1.2.1, .int .u32 T.y.2.1.2.2, .int .i64 T.y.2.2.1, .int .u8 T.y.2.2.2.1, .int .u32 T.y.2.2.2.2]
def Sl4 (w : World) (n : Nat) (v : Value) (l : List (V3 × V3)) : Prop := ∃ g : Nat, v = .slice (some ⟨g, 0, none⟩) 4 4 ∧ n ≤ g ∧ w.heap[g]? = some (pvObj l)
theorem Sl4.on {w w' : World} {n : Nat} {v : Value} {l : List (V3 × V3)} (h : Sl4 w n v l) (k : Below w.heap.size w w') : Sl4 w' n v l := by
  obtain ⟨g, h1, h2, h3⟩ := h
  exact ⟨g, h1, h2, (k.block _ (lt_of_block h3)).trans h3⟩
theorem pvFlat_at : ∀ (l : List (V3 × V3)) (i j : Nat) (p : V3 × V3), l[i]? = some p → j < 12 → (pvFlat l)[i * 12 + j]? = (pvFlat [p])[j]?
  | [], i, j, p, h, _ => by simp at h
  | q :: l, 0, j, p, h, hj => by
    obtain rfl : q = p := by simpa using h
    obtain rfl | rfl | rfl | rfl | rfl | rfl | rfl | rfl | rfl | rfl | rfl | rfl : j = 0 ∨ j = 1 ∨ j = 2 ∨ j = 3 ∨ j = 4 ∨ j = 5 ∨ j = 6 ∨ j = 7 ∨ j = 8 ∨ j = 9 ∨ j = 10 ∨ j = 11 := by omega
    all_goals rfl
  | q :: l, i + 1, j, p, h, hj => by
    have e : (i + 1) * 12 + j = i * 12 + j + 12 := by omega
    rw [e]
    exact pvFlat_at l i j p (by simpa using h) hj
theorem pv_cells {W : World} {g i k : Nat} {l : List (V3 × V3)} {p : V3 × V3} (h : W.heap[g]? = some (pvObj l)) (hp : l[i]? = some p) (hk : k = i * 12) :
    W.cell? ⟨g, k, none⟩ = some (.int .i64 p.1.1.1) ∧ W.cell? ⟨g, k + 1, none⟩ = some (.int .i64 p.1.1.2) ∧ W.cell? ⟨g, k + 2, none⟩ = some (.int .i64 p.1.2.1.1) ∧ W.cell? ⟨g, k + 3, none⟩ = some (.int .i64 p.1.2.1.2) ∧ W.cell? ⟨g, k + 4, none⟩ = some (.int .i64 p.1.2.2.1) ∧ W.cell? ⟨g, k + 5, none⟩ = some (.int .i64 p.1.2.2.2) ∧ W.cell? ⟨g, k + 6, none⟩ = some (.int .i64 p.2.1.1) ∧ W.cell? ⟨g, k + 7, none⟩ = some (.int .i64 p.2.1.2) ∧ W.cell? ⟨g, k + 8, none⟩ = some (.int .i64 p.2.2.1.1) ∧ W.cell? ⟨g, k + 9, none⟩ = some (.int .i64 p.2.2.1.2) ∧ W.cell? ⟨g, k + 10, none⟩ = some (.int .i64 p.2.2.2.1) ∧ W.cell? ⟨g, k + 11, none⟩ = some (.int .i64 p.2.2.2.2) := by
  subst hk
  have key : ∀ j, j < 12 → W.cell? ⟨g, i * 12 + j, none⟩ = (pvFlat [p])[j]? := fun j hj => by
    unfold pvObj at h
    rw [cell_of_row W g _ _ _ _ h]
    simp only [List.getElem?_toArray]
    exact pvFlat_at l i j p hp hj
  exact ⟨key 0 (by decide), key 1 (by decide), key 2 (by decide), key 3 (by decide), key 4 (by decide), key 5 (by decide), key 6 (by decide), key 7 (by decide), key 8 (by decide), key 9 (by decide), key 10 (by decide), key 11 (by decide)⟩
structure Pv (W : World) (B : Nat) (T : Tv) (L : Nat → Bool) (s : Nat → Value) (w : World) : Prop where
  bel : Below W.heap.size W w
  e0 : L 0 = true → s 3 = .pointer (some ⟨B, 0, none⟩)
  e1 : L 1 = true → s 4 = .agg #[.int .i64 T.a.1.1, .int .i64 T.a.1.2, .int .i64 T.a.2.1.1, .int .i64 T.a.2.1.2, .int .i64 T.a.2.2.1, .int .i64 T.a.2.2.2]
  e2 : L 2 = true → s 5 = .pointer (some ⟨B, 6, none⟩)
  e3 : L 3 = true → s 6 = .agg #[.int .i64 T.b.1.1, .int .i64 T.b.1.2, .int .i64 T.b.2.1.1, .int .i64 T.b.2.1.2, .int .i64 T.b.2.2.1, .int .i64 T.b.2.2.2]
  e4 : L 4 = true → s 7 = .agg #[.int .i64 T.a.1.1, .int .i64 T.a.1.2, .int .i64 T.a.2.1.1, .int .i64 T.a.2.1.2, .int .i64 T.a.2.2.1, .int .i64 T.a.2.2.2, .int .i64 T.b.1.1, .int .i64 T.b.1.2, .int .i64 T.b.2.1.1, .int .i64 T.b.2.1.2, .int .i64 T.b.2.2.1, .int .i64 T.b.2.2.2]
  e5 : L 5 = true → s 8 = .pointer (some ⟨B, 12, none⟩)
  e6 : L 6 = true → s 9 = .agg #[.int .i64 T.x.1.1, .int .u8 T.x.1.2.1, .int .u32 T.x.1.2.2, .int .i64 T.x.2.1.1, .int .u8 T.x.2.1.2.1, .int .u32 T.x.2.1.2.2, .int .i64 T.x.2.2.1, .int .u8 T.x.2.2.2.1, .int .u32 T.x.2.2.2.2]
  e7 : L 7 = true → s 10 = .agg #[.int .i64 (drV T.x).1.1, .int .i64 (drV T.x).1.2, .int .i64 (drV T.x).2.1.1, .int .i64 (drV T.x).2.1.2, .int .i64 (drV T.x).2.2.1, .int .i64 (drV T.x).2.2.2]
  e8 : L 8 = true → s 11 = .pointer (some ⟨B, 21, none⟩)
  e9 : L 9 = true → s 12 = .agg #[.int .i64 T.y.1.1, .int .u8 T.y.1.2.1, .int .u32 T.y.1.2.2, .int .i64 T.y.2.1.1, .int .u8 T.y.2.1.2.1, .int .u32 T.y.2.1.2.2, .int .i64 T.y.2.2.1, .int .u8 T.y.2.2.2.1, .int .u32 T.y.2.2.2.2]
  e10 : L 10 = true → s 13 = .agg #[.int .i64 (drS T.y).1.1, .int .i64 (drS T.y).1.2, .int .i64 (drS T.y).2.1.1, .int .i64 (drS T.y).2.1.2, .int .i64 (drS T.y).2.2.1, .int .i64 (drS T.y).2.2.2]
  e11 : L 11 = true → s 14 = .agg #[.int .i64 (drV T.x).1.1, .int .i64 (drV T.x).1.2, .int .i64 (drV T.x).2.1.1, .int .i64 (drV T.x).2.1.2, .int .i64 (drV T.x).2.2.1, .int .i64 (drV T.x).2.2.2, .int .i64 (drS T.y).1.1, .int .i64 (drS T.y).1.2, .int .i64 (drS T.y).2.1.1, .int .i64 (drS T.y).2.1.2, .int .i64 (drS T.y).2.2.1, .int .i64 (drS T.y).2.2.2]
  e12 : L 12 = true → s 15 = .pointer (some ⟨B, 12, none⟩)
  e13 : L 13 = true → s 16 = .agg #[.int .i64 T.x.1.1, .int .u8 T.x.1.2.1, .int .u32 T.x.1.2.2, .int .i64 T.x.2.1.1, .int .u8 T.x.2.1.2.1, .int .u32 T.x.2.1.2.2, .int .i64 T.x.2.2.1, .int .u8 T.x.2.2.2.1, .int .u32 T.x.2.2.2.2]
  e14 : L 14 = true → s 17 = .agg #[.int .i64 (drS T.x).1.1, .int .i64 (drS T.x).1.2, .int .i64 (drS T.x).2.1.1, .int .i64 (drS T.x).2.1.2, .int .i64 (drS T.x).2.2.1, .int .i64 (drS T.x).2.2.2]
  e15 : L 15 = true → s 18 = .pointer (some ⟨B, 21, none⟩)
  e16 : L 16 = true → s 19 = .agg #[.int .i64 T.y.1.1, .int .u8 T.y.1.2.1, .int .u32 T.y.1.2.2, .int .i64 T.y.2.1.1, .int .u8 T.y.2.1.2.1, .int .u32 T.y.2.1.2.2, .int .i64 T.y.2.2.1, .int .u8 T.y.2.2.2.1, .int .u32 T.y.2.2.2.2]
  e17 : L 17 = true → s 20 = .agg #[.int .i64 (drS T.y).1.1, .int .i64 (drS T.y).1.2, .int .i64 (drS T.y).2.1.1, .int .i64 (drS T.y).2.1.2, .int .i64 (drS T.y).2.2.1, .int .i64 (drS T.y).2.2.2]
  e18 : L 18 = true → s 21 = .agg #[.int .i64 (drS T.x).1.1, .int .i64 (drS T.x).1.2, .int .i64 (drS T.x).2.1.1, .int .i64 (drS T.x).2.1.2, .int .i64 (drS T.x).2.2.1, .int .i64 (drS T.x).2.2.2, .int .i64 (drS T.y).1.1, .int .i64 (drS T.y).1.2, .int .i64 (drS T.y).2.1.1, .int .i64 (drS T.y).2.1.2, .int .i64 (drS T.y).2.2.1, .int .i64 (drS T.y).2.2.2]
  e19 : L 19 = true → s 22 = .pointer (some ⟨B, 12, none⟩)
  e20 : L 20 = true → s 23 = .agg #[.int .i64 T.x.1.1, .int .u8 T.x.1.2.1, .int .u32 T.x.1.2.2, .int .i64 T.x.2.1.1, .int .u8 T.x.2.1.2.1, .int .u32 T.x.2.1.2.2, .int .i64 T.x.2.2.1, .int .u8 T.x.2.2.2.1, .int .u32 T.x.2.2.2.2]
  e21 : L 21 = true → s 24 = .agg #[.int .i64 (drS T.x).1.1, .int .i64 (drS T.x).1.2, .int .i64 (drS T.x).2.1.1, .int .i64 (drS T.x).2.1.2, .int .i64 (drS T.x).2.2.1, .int .i64 (drS T.x).2.2.2]
  e22 : L 22 = true → s 25 = .pointer (some ⟨B, 6, none⟩)
  e23 : L 23 = true → s 26 = .agg #[.int .i64 T.b.1.1, .int .i64 T.b.1.2, .int .i64 T.b.2.1.1, .int .i64 T.b.2.1.2, .int .i64 T.b.2.2.1, .int .i64 T.b.2.2.2]
  e24 : L 24 = true → s 27 = .agg #[.int .i64 (drS T.x).1.1, .int .i64 (drS T.x).1.2, .int .i64 (drS T.x).2.1.1, .int .i64 (drS T.x).2.1.2, .int .i64 (drS T.x).2.2.1, .int .i64 (drS T.x).2.2.2, .int .i64 T.b.1.1, .int .i64 T.b.1.2, .int .i64 T.b.2.1.1, .int .i64 T.b.2.1.2, .int .i64 T.b.2.2.1, .int .i64 T.b.2.2.2]
  e25 : L 25 = true → Sl4 w W.heap.size (s 28) (pvs T)
  e26 : L 26 = true → Sl4 w W.heap.size (s 2) (pvs T)
set_option maxRecDepth 100000 in
set_option maxHeartbeats 8000000 in
theorem law6_pairs (T : Tv) (hT : T.ok) (w : World) :
    Calls Tryz.prog 7 #[T.val] w fun e w' => (∃ v, e = .returned v ∧ Sl4 w' w.heap.size v (pvs T)) ∧ Below w.heap.size w w' := by
  have HXV := Lib.hid (fun W => draft6_Vec T.x hT.x W)
  have HXS := Lib.hid (fun W => draft6_Small T.x hT.x W)
  have HYS := Lib.hid (fun W => draft6_Small T.y hT.y W)
  have HBO := Lib.hid (show (w.alloc T.obj).heap[w.heap.size]? = some (.cells #[.int .i64 T.a.1.1, .int .i64 T.a.1.2, .int .i64 T.a.2.1.1, .int .i64 T.a.2.1.2, .int .i64 T.a.2.2.1, .int .i64 T.a.2.2.2, .int .i64 T.b.1.1, .int .i64 T.b.1.2, .int .i64 T.b.2.1.1, .int .i64 T.b.2.1.2, .int .i64 T.b.2.2.1, .int .i64 T.b.2.2.2, .int .i64 T.x.1.1, .int .u8 T.x.1.2.1, .int .u32 T.x.1.2.2, .int .i64 T.x.2.1.1, .int .u8 T.x.2.1.2.1, .int .u32 T.x.2.1.2.2, .int .i64 T.x.2.2.1, .int .u8 T.x.2.2.2.1, .int .u32 T.x.2.2.2.2, .int .i64 T.y.1.1, .int .u8 T.y.1.2.1, .int .u32 T.y.1.2.2, .int .i64 T.y.2.1.1, .int .u8 T.y.2.1.2.1, .int .u32 T.y.2.1.2.2, .int .i64 T.y.2.2.1, .int .u8 T.y.2.2.2.1, .int .u32 T.y.2.2.2.2] 32 (0, 0)) from heap_at _ rfl)
  have HBL := Lib.hid (below_alloc (Below.refl w.heap.size w) T.obj)
  unfold Tv.val
  go_enter Tryz.func7, Tryz.ntmps7
  go_wp2_with fail
  change Code.wp _ _ _ _ (w.alloc T.obj)
  generalize w.alloc T.obj = wc at *
  go_cut [2] (fun v wx => Sl4 wx wc.heap.size v (pvs T) ∧ Hid (Below wc.heap.size wc wx))
  case first =>
    refine wp_region_inv (Pv wc w.heap.size T) (by kernel_rfl) (by kernel_rfl) ?_ ?_ ?_
    · exact ⟨(Below.refl _ _).drew, fun h => absurd h Bool.false_ne_true, fun h => absurd h Bool.false_ne_true, fun h => absurd h Bool.false_ne_true, fun h => absurd h Bool.false_ne_true, fun h => absurd h Bool.false_ne_true, fun h => absurd h Bool.false_ne_true, fun h => absurd h Bool.false_ne_true, fun h => absurd h Bool.false_ne_true, fun h => absurd h Bool.false_ne_true, fun h => absurd h Bool.false_ne_true, fun h => absurd h Bool.false_ne_true, fun h => absurd h Bool.false_ne_true, fun h => absurd h Bool.false_ne_true, fun h => absurd h Bool.false_ne_true, fun h => absurd h Bool.false_ne_true, fun h => absurd h Bool.false_ne_true, fun h => absurd h Bool.false_ne_true, fun h => absurd h Bool.false_ne_true, fun h => absurd h Bool.false_ne_true, fun h => absurd h Bool.false_ne_true, fun h => absurd h Bool.false_ne_true, fun h => absurd h Bool.false_ne_true, fun h => absurd h Bool.false_ne_true, fun h => absurd h Bool.false_ne_true, fun h => absurd h Bool.false_ne_true, fun h => absurd h Bool.false_ne_true, fun h => absurd h Bool.false_ne_true⟩
    · refine AllS.consN 1 (some 3) rfl rfl ?_ (AllS.consN 2 (some 4) rfl rfl ?_ (AllS.consN 3 (some 5) rfl rfl ?_ (AllS.consN 4 (some 6) rfl rfl ?_ (AllS.consN 5 (some 7) rfl rfl ?_ (AllS.consN 6 (some 8) rfl rfl ?_ (AllS.consN 7 (some 9) rfl rfl ?_ (AllS.consN 8 (some 10) rfl rfl ?_ (AllS.consN 9 (some 11) rfl rfl ?_ (AllS.consN 10 (some 12) rfl rfl ?_ (AllS.consN 11 (some 13) rfl rfl ?_ (AllS.consN 12 (some 14) rfl rfl ?_ (AllS.consN 13 (some 15) rfl rfl ?_ (AllS.consN 14 (some 16) rfl rfl ?_ (AllS.consN 15 (some 17) rfl rfl ?_ (AllS.consN 16 (some 18) rfl rfl ?_ (AllS.consN 17 (some 19) rfl rfl ?_ (AllS.consN 18 (some 20) rfl rfl ?_ (AllS.consN 19 (some 21) rfl rfl ?_ (AllS.consN 20 (some 22) rfl rfl ?_ (AllS.consN 21 (some 23) rfl rfl ?_ (AllS.consN 22 (some 24) rfl rfl ?_ (AllS.consN 23 (some 25) rfl rfl ?_ (AllS.consN 24 (some 26) rfl rfl ?_ (AllS.consN 25 (some 27) rfl rfl ?_ (AllS.consN 26 (some 28) rfl rfl ?_ (AllS.consN 27 (some 2) rfl rfl ?_ AllS.nil))))))))))))))))))))))))))
      · intro L s w2 h hk hd hn
        have s1 : s 1 = _ := hk 1 (by kernel_rfl)
        refine stepS rfl fun K hK => ?_
        go_simp
        exact hK _ _ { h with e0 := fun _ => rfl }
      · intro L s w2 h hk hd hn
        have s3 := h.e0 hd.1
        have d := ((h.bel.block _ (lt_of_block HBO.out)).trans HBO.out)
        have d0 := cell_of_row _ _ 0 _ _ _ d
        have d1 := cell_of_row _ _ 1 _ _ _ d
        have d2 := cell_of_row _ _ 2 _ _ _ d
        have d3 := cell_of_row _ _ 3 _ _ _ d
        have d4 := cell_of_row _ _ 4 _ _ _ d
        have d5 := cell_of_row _ _ 5 _ _ _ d
        refine stepS rfl fun K hK => ?_
        go_simp
        exact hK _ _ { h with e1 := fun _ => rfl }
      · intro L s w2 h hk hd hn
        have s1 : s 1 = _ := hk 1 (by kernel_rfl)
        refine stepS rfl fun K hK => ?_
        go_simp
        exact hK _ _ { h with e2 := fun _ => rfl }
      · intro L s w2 h hk hd hn
        have s5 := h.e2 hd.1
        have d := ((h.bel.block _ (lt_of_block HBO.out)).trans HBO.out)
        have d6 := cell_of_row _ _ 6 _ _ _ d
        have d7 := cell_of_row _ _ 7 _ _ _ d
        have d8 := cell_of_row _ _ 8 _ _ _ d
        have d9 := cell_of_row _ _ 9 _ _ _ d
        have d10 := cell_of_row _ _ 10 _ _ _ d
        have d11 := cell_of_row _ _ 11 _ _ _ d
        refine stepS rfl fun K hK => ?_
        go_simp
        exact hK _ _ { h with e3 := fun _ => rfl }
      · intro L s w2 h hk hd hn
        have s4 := h.e1 hd.1
        have s6 := h.e3 hd.2.1
        refine stepS rfl fun K hK => ?_
        go_simp
        exact hK _ _ { h with e4 := fun _ => rfl }
      · intro L s w2 h hk hd hn
        have s1 : s 1 = _ := hk 1 (by kernel_rfl)
        refine stepS rfl fun K hK => ?_
        go_simp
        exact hK _ _ { h with e5 := fun _ => rfl }
      · intro L s w2 h hk hd hn
        have s8 := h.e5 hd.1
        have d := ((h.bel.block _ (lt_of_block HBO.out)).trans HBO.out)
        have d12 := cell_of_row _ _ 12 _ _ _ d
        have d13 := cell_of_row _ _ 13 _ _ _ d
        have d14 := cell_of_row _ _ 14 _ _ _ d
        have d15 := cell_of_row _ _ 15 _ _ _ d
        have d16 := cell_of_row _ _ 16 _ _ _ d
        have d17 := cell_of_row _ _ 17 _ _ _ d
        have d18 := cell_of_row _ _ 18 _ _ _ d
        have d19 := cell_of_row _ _ 19 _ _ _ d
        have d20 := cell_of_row _ _ 20 _ _ _ d
        refine stepS rfl fun K hK => ?_
        go_simp
        exact hK _ _ { h with e6 := fun _ => rfl }
      · intro L s w2 h hk hd hn
        have s9 := h.e6 hd.1
        refine stepS rfl fun K hK => ?_
        go_simp
        refine (HXV.out _).mono ?_
        rintro e w3 ⟨rfl, hb⟩
        exact ⟨_, rfl, hK _ _ { h with bel := below_step h.bel hb, e25 := fun d => (h.e25 d).on hb, e26 := fun d => (h.e26 d).on hb, e7 := fun _ => rfl }⟩
      · intro L s w2 h hk hd hn
        have s1 : s 1 = _ := hk 1 (by kernel_rfl)
        refine stepS rfl fun K hK => ?_
        go_simp
        exact hK _ _ { h with e8 := fun _ => rfl }
      · intro L s w2 h hk hd hn
        have s11 := h.e8 hd.1
        have d := ((h.bel.block _ (lt_of_block HBO.out)).trans HBO.out)
        have d21 := cell_of_row _ _ 21 _ _ _ d
        have d22 := cell_of_row _ _ 22 _ _ _ d
        have d23 := cell_of_row _ _ 23 _ _ _ d
        have d24 := cell_of_row _ _ 24 _ _ _ d
        have d25 := cell_of_row _ _ 25 _ _ _ d
        have d26 := cell_of_row _ _ 26 _ _ _ d
        have d27 := cell_of_row _ _ 27 _ _ _ d
        have d28 := cell_of_row _ _ 28 _ _ _ d
        have d29 := cell_of_row _ _ 29 _ _ _ d
        refine stepS rfl fun K hK => ?_
        go_simp
        exact hK _ _ { h with e9 := fun _ => rfl }
      · intro L s w2 h hk hd hn
        have s12 := h.e9 hd.1
        refine stepS rfl fun K hK => ?_
        go_simp
        refine (HYS.out _).mono ?_
        rintro e w3 ⟨rfl, hb⟩
        exact ⟨_, rfl, hK _ _ { h with bel := below_step h.bel hb, e25 := fun d => (h.e25 d).on hb, e26 := fun d => (h.e26 d).on hb, e10 := fun _ => rfl }⟩
      · intro L s w2 h hk hd hn
        have s10 := h.e7 hd.1
        have s13 := h.e10 hd.2.1
        refine stepS rfl fun K hK => ?_
        go_simp
        exact hK _ _ { h with e11 := fun _ => rfl }
      · intro L s w2 h hk hd hn
        have s1 : s 1 = _ := hk 1 (by kernel_rfl)
        refine stepS rfl fun K hK => ?_
        go_simp
        exact hK _ _ { h with e12 := fun _ => rfl }
      · intro L s w2 h hk hd hn
        have s15 := h.e12 hd.1
        have d := ((h.bel.block _ (lt_of_block HBO.out)).trans HBO.out)
        have d12 := cell_of_row _ _ 12 _ _ _ d
        have d13 := cell_of_row _ _ 13 _ _ _ d
        have d14 := cell_of_row _ _ 14 _ _ _ d
        have d15 := cell_of_row _ _ 15 _ _ _ d
        have d16 := cell_of_row _ _ 16 _ _ _ d
        have d17 := cell_of_row _ _ 17 _ _ _ d
        have d18 := cell_of_row _ _ 18 _ _ _ d
        have d19 := cell_of_row _ _ 19 _ _ _ d
        have d20 := cell_of_row _ _ 20 _ _ _ d
        refine stepS rfl fun K hK => ?_
        go_simp
        exact hK _ _ { h with e13 := fun _ => rfl }
      · intro L s w2 h hk hd hn
        have s16 := h.e13 hd.1
        refine stepS rfl fun K hK => ?_
        go_simp
        refine (HXS.out _).mono ?_
        rintro e w3 ⟨rfl, hb⟩
        exact ⟨_, rfl, hK _ _ { h with bel := below_step h.bel hb, e25 := fun d => (h.e25 d).on hb, e26 := fun d => (h.e26 d).on hb, e14 := fun _ => rfl }⟩
      · intro L s w2 h hk hd hn
        have s1 : s 1 = _ := hk 1 (by kernel_rfl)
        refine stepS rfl fun K hK => ?_
        go_simp
        exact hK _ _ { h with e15 := fun _ => rfl }
      · intro L s w2 h hk hd hn
        have s18 := h.e15 hd.1
        have d := ((h.bel.block _ (lt_of_block HBO.out)).trans HBO.out)
        have d21 := cell_of_row _ _ 21 _ _ _ d
        have d22 := cell_of_row _ _ 22 _ _ _ d
        have d23 := cell_of_row _ _ 23 _ _ _ d
        have d24 := cell_of_row _ _ 24 _ _ _ d
        have d25 := cell_of_row _ _ 25 _ _ _ d
        have d26 := cell_of_row _ _ 26 _ _ _ d
        have d27 := cell_of_row _ _ 27 _ _ _ d
        have d28 := cell_of_row _ _ 28 _ _ _ d
        have d29 := cell_of_row _ _ 29 _ _ _ d
        refine stepS rfl fun K hK => ?_
        go_simp
        exact hK _ _ { h with e16 := fun _ => rfl }
      · intro L s w2 h hk hd hn
        have s19 := h.e16 hd.1
        refine stepS rfl fun K hK => ?_
        go_simp
        refine (HYS.out _).mono ?_
        rintro e w3 ⟨rfl, hb⟩
        exact ⟨_, rfl, hK _ _ { h with bel := below_step h.bel hb, e25 := fun d => (h.e25 d).on hb, e26 := fun d => (h.e26 d).on hb, e17 := fun _ => rfl }⟩
      · intro L s w2 h hk hd hn
        have s17 := h.e14 hd.1
        have s20 := h.e17 hd.2.1
        refine stepS rfl fun K hK => ?_
        go_simp
        exact hK _ _ { h with e18 := fun _ => rfl }
      · intro L s w2 h hk hd hn
        have s1 : s 1 = _ := hk 1 (by kernel_rfl)
        refine stepS rfl fun K hK => ?_
        go_simp
        exact hK _ _ { h with e19 := fun _ => rfl }
      · intro L s w2 h hk hd hn
        have s22 := h.e19 hd.1
        have d := ((h.bel.block _ (lt_of_block HBO.out)).trans HBO.out)
        have d12 := cell_of_row _ _ 12 _ _ _ d
        have d13 := cell_of_row _ _ 13 _ _ _ d
        have d14 := cell_of_row _ _ 14 _ _ _ d
        have d15 := cell_of_row _ _ 15 _ _ _ d
        have d16 := cell_of_row _ _ 16 _ _ _ d
        have d17 := cell_of_row _ _ 17 _ _ _ d
        have d18 := cell_of_row _ _ 18 _ _ _ d
        have d19 := cell_of_row _ _ 19 _ _ _ d
        have d20 := cell_of_row _ _ 20 _ _ _ d
        refine stepS rfl fun K hK => ?_
        go_simp
        exact hK _ _ { h with e20 := fun _ => rfl }
      · intro L s w2 h hk hd hn
        have s23 := h.e20 hd.1
        refine stepS rfl fun K hK => ?_
        go_simp
        refine (HXS.out _).mono ?_
        rintro e w3 ⟨rfl, hb⟩
        exact ⟨_, rfl, hK _ _ { h with bel := below_step h.bel hb, e25 := fun d => (h.e25 d).on hb, e26 := fun d => (h.e26 d).on hb, e21 := fun _ => rfl }⟩
      · intro L s w2 h hk hd hn
        have s1 : s 1 = _ := hk 1 (by kernel_rfl)
        refine stepS rfl fun K hK => ?_
        go_simp
        exact hK _ _ { h with e22 := fun _ => rfl }
      · intro L s w2 h hk hd hn
        have s25 := h.e22 hd.1
        have d := ((h.bel.block _ (lt_of_block HBO.out)).trans HBO.out)
        have d6 := cell_of_row _ _ 6 _ _ _ d
        have d7 := cell_of_row _ _ 7 _ _ _ d
        have d8 := cell_of_row _ _ 8 _ _ _ d
        have d9 := cell_of_row _ _ 9 _ _ _ d
        have d10 := cell_of_row _ _ 10 _ _ _ d
        have d11 := cell_of_row _ _ 11 _ _ _ d
        refine stepS rfl fun K hK => ?_
        go_simp
        exact hK _ _ { h with e23 := fun _ => rfl }
      · intro L s w2 h hk hd hn
        have s24 := h.e21 hd.1
        have s26 := h.e23 hd.2.1
        refine stepS rfl fun K hK => ?_
        go_simp
        exact hK _ _ { h with e24 := fun _ => rfl }
      · intro L s w2 h hk hd hn
        have s7 := h.e4 hd.1
        have s14 := h.e11 hd.2.1
        have s21 := h.e18 hd.2.2.1
        have s27 := h.e24 hd.2.2.2.1
        refine stepS rfl fun K hK => ?_
        go_simp
        exact hK _ _ { h with bel := below_alloc h.bel _, e25 := fun _ => ⟨_, rfl, h.bel.size, heap_at _ rfl⟩, e26 := fun d => (h.e26 d).on (below_alloc (Below.refl _ _) _) }
      · intro L s w2 h hk hd hn
        have z := h.e25 hd.1
        refine stepS rfl fun K hK => ?_
        go_simp
        exact hK _ _ { h with e26 := fun _ => z }
    · intro L s w2 h hk hl
      rename_i J K' hR hM
      refine hM _ _ (Met.intro (hR _ _ ?_))
      repeat apply Exists.intro
      refine ⟨⟨h.e26 (hl 26 (by decide)), Lib.hid h.bel⟩, ?_⟩
      refine congrArg (fun l => (⟨List.toArray l, []⟩ : Act)) ?_
      show [s 0, s 1, s 2, s 3, s 4, s 5, s 6, s 7, s 8, s 9, s 10, s 11, s 12, s 13, s 14, s 15, s 16, s 17, s 18, s 19, s 20, s 21, s 22, s 23, s 24, s 25, s 26, s 27, s 28] = _
      exact lc (hk 0 (by kernel_rfl)) (lc (hk 1 (by kernel_rfl)) (lc rfl (lc rfl (lc rfl (lc rfl (lc rfl (lc rfl (lc rfl (lc rfl (lc rfl (lc rfl (lc rfl (lc rfl (lc rfl (lc rfl (lc rfl (lc rfl (lc rfl (lc rfl (lc rfl (lc rfl (lc rfl (lc rfl (lc rfl (lc rfl (lc rfl (lc rfl (lc rfl rfl))))))))))))))))))))))))))))
  case rest =>
    obtain ⟨⟨g, rfl, hg, hb⟩, hbel⟩ := hcut
    go_wp2_with fail
    go_ret
    exact ⟨⟨_, rfl, ⟨g, rfl, Nat.le_trans HBL.out.size hg, hb⟩⟩, below_step HBL.out hbel.out⟩
end Go.Proofs.YtmnccbhlllnlbaaGreat
