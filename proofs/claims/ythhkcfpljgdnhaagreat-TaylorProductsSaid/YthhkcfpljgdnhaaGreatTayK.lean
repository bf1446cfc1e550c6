/- Package taylor: right. Printed by wip/genTK.py. -/
import Derived.Laws.Append
import Derived.Test.YthhkcfpljgdnhaaGreatTayJ
namespace Go.Proofs.YthhkcfpljgdnhaaGreat
open Go.RowKit Mnc
attribute [local go_sem] RunSP_value RunSP_skip RunSP_enter evS_tmp evS_const evS_global evS_func
/-- Block q begins with the cells of a. -/
def SlA (W : World) (q : Nat) (a : List (Int × Int)) : Prop := ∃ cs : Array Value, W.heap[q]? = some (.cells cs 31 (0, 0)) ∧ ∀ j, j < 2 * a.length → cs[j]? = (mc a)[j]?
theorem SlA.up {W : World} {q : Nat} {a : List (Int × Int)} (h : SlA W q a) (o : Obj) : SlA (W.alloc o) q a := let ⟨cs, h1, h2⟩ := h; ⟨cs, heap_up _ h1, h2⟩
theorem SlA.mut {W w : World} {q : Nat} {a : List (Int × Int)} (h : SlA W q a) (m : Mut [] W w) : SlA w q a := let ⟨cs, h1, h2⟩ := h; ⟨cs, (m.same _ (lt_of_block h1) (by simp)).trans h1, h2⟩
theorem SlA.load {W : World} {q p : Nat} {a : List (Int × Int)} (h : SlA W q a) (hl : a.length = 22) (hp : p < 22) : (Instr.loadAt 31 (.pointer (some ⟨q, p * 2, none⟩))).run Tryz.prog W = .ok (sval (tAt a p)) W := by
 obtain ⟨cs, h1, h2⟩ := h
 obtain ⟨d, hd⟩ := Option.isSome_iff_exists.1 (show (Tryz.prog.underlying 31).isSome = true by kernel_rfl)
 have hr : d.isRow = true := by
  have hm : (Tryz.prog.underlying 31).map TypeDesc.isRow = some true := by kernel_rfl
  rw [hd] at hm
  exact Option.some.inj hm
 obtain ⟨g0, g1⟩ := mc_get a p (by omega)
 refine run_loadAt_mid W q (p * 2) _ [.int .i64 (tAt a p).1, .int .i64 (tAt a p).2] d ?_ hd hr (by kernel_rfl)
 intro j v hv
 rw [cell_of_row W q _ _ _ _ h1]
 rcases j with _ | _ | j
 ·rw [h2 _ (by omega)]; simpa [g0] using hv
 ·rw [h2 _ (by omega)]; simpa [g1] using hv
 ·simp at hv
theorem md_load_at {W : World} {B k : Nat} {t : TypeId} {ml a : List (Int × Int)} (h : W.heap[B]? = some (cobj t ml)) (hs : ∀ j, j < 44 → (mc ml)[k * 44 + j]? = (mc a)[j]?) (hl : a.length = 22) : (Instr.loadAt 34 (.pointer (some ⟨B, k * 44, none⟩))).run Tryz.prog W = .ok (mval a) W := by
 obtain ⟨d, hd⟩ := Option.isSome_iff_exists.1 (show (Tryz.prog.underlying 34).isSome = true by kernel_rfl)
 have hr : d.isRow = true := by
  have hm : (Tryz.prog.underlying 34).map TypeDesc.isRow = some true := by kernel_rfl
  rw [hd] at hm
  exact Option.some.inj hm
 refine run_loadAt_mid W B (k * 44) _ _ d ?_ hd hr (by rw [mc_length, hl]; kernel_rfl)
 intro j v hv
 have hj : j < 44 := by
  have := (List.getElem?_eq_some_iff.1 hv).1
  rw [mc_length, hl] at this
  exact this
 rw [cobj_cell h, hs j hj]
 exact hv
theorem ix_models {W : World} (B n c k : Nat) (hk : k < n) : (Instr.indexAt 86 (.slice (some ⟨B, 0, none⟩) n c) (.int .i64 (k : Int))).run Tryz.prog W = .ok (.pointer (some ⟨B, k * 44, none⟩)) W := by
 rw [run_indexAt_slice (h := by kernel_rfl)]
 have hs : (sizeOf (Tryz.prog.elem 86)).run Tryz.prog W = .ok 44 W := by kernel_rfl
 rw [if_pos (by omega), hs]
 simp only [Result.andThen, Int.toNat_natCast, Addr.add_mid, Nat.zero_add]
theorem ix_spans {W : World} (B n c k : Nat) (hk : k < n) : (Instr.indexAt 87 (.slice (some ⟨B, 0, none⟩) n c) (.int .i64 (k : Int))).run Tryz.prog W = .ok (.pointer (some ⟨B, k * 2, none⟩)) W := by
 rw [run_indexAt_slice (h := by kernel_rfl)]
 have hs : (sizeOf (Tryz.prog.elem 87)).run Tryz.prog W = .ok 2 W := by kernel_rfl
 rw [if_pos (by omega), hs]
 simp only [Result.andThen, Int.toNat_natCast, Addr.add_mid, Nat.zero_add]
theorem sl_model (B : Nat) (W : World) : (Instr.sliceAt 32 (.pointer (some ⟨B, 0, none⟩)) none none none).run Tryz.prog W = .ok (.slice (some ⟨B, 0, none⟩) 21 21) W := by
 kernel_rfl
theorem bs_span (x : Int × Int) (W : World) : (Instr.buildSlice 87 1 #[(0, sval x)]).run Tryz.prog W = .ok (.slice (some ⟨W.heap.size, 0, none⟩) 1 1) (W.alloc (cobj 31 [x])) := by
 kernel_rfl
theorem ap_model {W : World} {g q : Nat} {t : TypeId} {a : List (Int × Int)} (h : W.heap[g]? = some (cobj t a)) (hl : a.length = 22) (hq : W.heap[q]? = some (cobj 31 [tAt a 21])) : ∃ z, (Builtin.append_ #[87, 87] 87 #[.slice (some ⟨g, 0, none⟩) 21 21, .slice (some ⟨q, 0, none⟩) 1 1]).run Tryz.prog W =
  .ok (.slice (some ⟨W.heap.size, 0, none⟩) 22 (grownCap W 22 21 31)) (W.drew.alloc (.cells (((mc a).take 42).toArray ++ #[.int .i64 (tAt a 21).1, .int .i64 (tAt a 21).2] ++ z) 31)) := by
 obtain ⟨i, hi⟩ := Option.isSome_iff_exists.1 (show (Tryz.prog.info? 31).isSome = true by kernel_rfl)
 have hsz : i.size = 2 := by
  have hm : (Tryz.prog.info? 31).map (·.size) = some 2 := by kernel_rfl
  rw [hi] at hm
  exact Option.some.inj hm
 have hby : i.bytes = 16 := by
  have hm : (Tryz.prog.info? 31).map (·.bytes) = some 16 := by kernel_rfl
  rw [hi] at hm
  exact Option.some.inj hm
 obtain ⟨zz, hz⟩ : ∃ zz, i.zero = some zz := by
  have hm : ((Tryz.prog.info? 31).bind (·.zero)).isSome = true := by kernel_rfl
  rw [hi] at hm
  exact Option.isSome_iff_exists.1 hm
 refine ⟨Builtin.zeroCells zz.cells (grownCap W 22 21 31 - 22), ?_⟩
 refine run_append_grow W 87 87 31 i zz (by kernel_rfl) hi hz ⟨g, 0, none⟩ 21 21 ((mc a).take 42) (by rw [List.length_take, mc_length, hl, hsz]; rfl) ?_ ⟨q, 0, none⟩ 1 1 [.int .i64 (tAt a 21).1, .int .i64 (tAt a 21).2] (by rw [hsz]; rfl) ?_ (by omega) (by decide) (by rw [hby]; decide)
 ·intro j v hv
  rw [Addr.add_mid, Nat.zero_add, cobj_cell h]
  have hj : j < 42 := by
   have := (List.getElem?_eq_some_iff.1 hv).1
   rw [List.length_take] at this
   omega
  rw [List.getElem?_take_of_lt hj] at hv
  exact hv
 ·intro j v hv
  rw [Addr.add_mid, Nat.zero_add, cobj_cell hq]
  exact hv
theorem ap_at {W : World} {a : List (Int × Int)} {z : Array Value} (hl : a.length = 22) : SlA (W.drew.alloc (.cells (((mc a).take 42).toArray ++ #[.int .i64 (tAt a 21).1, .int .i64 (tAt a 21).2] ++ z) 31)) W.heap.size a := by
 refine ⟨_, heap_at _ rfl, fun j hj => ?_⟩
 have hlen : ((mc a).take 42).length = 42 := by rw [List.length_take, mc_length, hl]; rfl
 have g := mc_get a 21 (by omega)
 rw [Array.getElem?_append_left (by simp [hlen]; omega)]
 rcases Nat.lt_or_ge j 42 with h | h
 ·rw [Array.getElem?_append_left (by simp [hlen]; omega)]
  simp [List.getElem?_take_of_lt h]
 ·rw [Array.getElem?_append_right (by simp [hlen]; omega)]
  obtain rfl | rfl : j = 42 ∨ j = 43 := by omega
  ·rw [show (42 : Nat) = 21 * 2 from rfl, g.1]; simp [hlen]
  ·rw [show (43 : Nat) = 21 * 2 + 1 from rfl, g.2]; simp [hlen]
section
variable {P : Program} {Pn : List PanicEntry → World → Prop} {K : Value → World → Prop} {s : Nat → Value} {w w' : World} {o : Oper} {x y : Operand} {a b v : Value} {t : TypeId} {W' : Array Value → World}
theorem rs_slice (ho : o.op = .slice t x none none none) (hx : evS s x = a) (h : (Instr.sliceAt t a none none none).run P w = .ok v w) (hK : K v w) : RunSP P Pn K ((execOp (evS s) o).run P w) := by
 unfold execOp; rw [ho]; subst hx
 simp only [Sem.run_bind, Option.map_none, h, Result.andThen, Sem.run_pure]
 exact hK
theorem rs_build {n : Nat} {ps : Array (Nat × Operand)} {vs : Array (Nat × Value)} (ho : o.op = .buildSlice t n ps) (hp : ps.map (fun (i, x) => (i, evS s x)) = vs) (h : (Instr.buildSlice t n vs).run P w = .ok v w') (hK : K v w') : RunSP P Pn K ((execOp (evS s) o).run P w) := by
 unfold execOp; rw [ho]; subst hp
 simp only [Sem.run_bind, h, Result.andThen, Sem.run_pure]
 exact hK
theorem rs_append (ho : o.op = .call { callee := .builtin .append, args := #[x, y], argTypes := #[t, t] }) (hx : evS s x = a) (hy : evS s y = b) (h : ∃ z : Array Value, (Builtin.append_ #[t, t] o.type #[a, b]).run P w = .ok v (W' z)) (hK : ∀ z, K v (W' z)) : RunSP P Pn K ((execOp (evS s) o).run P w) := by
 obtain ⟨z, h⟩ := h
 have e : (execOp (evS s) o).run P w = .ok (.value v) (W' z) := by
  unfold execOp
  simp only [ho, resolve, invoke, builtin, Sem.run_bind, Sem.run_pure, Result.andThen_ok, List.map_toArray, List.map_cons, List.map_nil, hx, hy, h]
 rw [e]
 exact hK z
end
theorem tAt_mem {a : List (Int × Int)} {p : Nat} (h : p < a.length) : tAt a p ∈ a := by
 unfold tAt
 simp [List.getD, List.getElem?_eq_getElem h]
theorem mc_app (a b : List (Int × Int)) : mc (a ++ b) = mc a ++ mc b := by simp [mc]
theorem mc_chunk (ml : List (Int × Int)) (k : Nat) (h : 22 * k + 22 ≤ ml.length) : ∀ j, j < 44 → (mc ml)[k * 44 + j]? = (mc ((ml.drop (22 * k)).take 22))[j]? := by
 intro j hj
 have e1 : mc ml = mc (ml.take (22 * k)) ++ (mc ((ml.drop (22 * k)).take 22) ++ mc ((ml.drop (22 * k)).drop 22)) := by
  rw [← mc_app, ← mc_app, List.take_append_drop, List.take_append_drop]
 have h1 : (mc (ml.take (22 * k))).length = k * 44 := by rw [mc_length, List.length_take]; omega
 have h2 : (mc ((ml.drop (22 * k)).take 22)).length = 44 := by rw [mc_length, List.length_take, List.length_drop]; omega
 rw [e1, List.getElem?_append_right (by omega), h1, show k * 44 + j - k * 44 = j by omega, List.getElem?_append_left (by omega)]
structure Ri2 (wr : World) (B0 n cap : Nat) (ml a : List (Int × Int)) (k : Nat) (L : Nat → Bool) (s : Nat → Value) (w : World) : Prop where
 mu : Mut [] wr w
 e0 : L 0 = true → s 10 = .pointer (some ⟨B0, k * 44, none⟩)
 e1 : L 1 = true → s 11 = mval a
 al_m : L 2 = true → ∃ g : Nat, s 3 = .pointer (some ⟨g, 0, none⟩) ∧ wr.heap.size ≤ g ∧ g < w.heap.size ∧ (L 3 = false → w.heap[g]? = some (cobj 34 zeroM)) ∧ (L 3 = true → w.heap[g]? = some (cobj 34 a))
 b3_2 : L 3 = true → L 2 = true
structure Ri3 (V : World) (g : Nat) (a : List (Int × Int)) (L : Nat → Bool) (s : Nat → Value) (w : World) : Prop where
 mu : Mut [] V w
 e0 : L 0 = true → s 12 = .pointer (some ⟨g, 0, none⟩)
 e1 : L 1 = true → s 13 = .slice (some ⟨g, 0, none⟩) 21 21
 e2 : L 2 = true → s 14 = .pointer (some ⟨g, 21 * 2, none⟩)
 e3 : L 3 = true → s 15 = sval (tAt a 21)
 n4 : L 4 = true → ∃ q : Nat, s 16 = .slice (some ⟨q, 0, none⟩) 1 1 ∧ w.heap[q]? = some (cobj 31 [tAt a 21])
 n5 : L 5 = true → ∃ q c : Nat, s 17 = .slice (some ⟨q, 0, none⟩) 22 c ∧ SlA w q a
 e6 : L 6 = true → s 18 = .int .i64 22
 e7 : L 7 = true → s 19 = .int .i64 ((0 : Nat) : Int)
structure Ri5 (wr : World) (q c : Nat) (a : List (Int × Int)) (p : Nat) (L : Nat → Bool) (s : Nat → Value) (w : World) : Prop where
 mu : Mut [] wr w
 e0 : L 0 = true → s 21 = .pointer (some ⟨q, p * 2, none⟩)
 e1 : L 1 = true → s 22 = sval (tAt a p)
 al_s : L 2 = true → ∃ g : Nat, s 5 = .pointer (some ⟨g, 0, none⟩) ∧ wr.heap.size ≤ g ∧ g < w.heap.size ∧ (L 3 = false → w.heap[g]? = some (cobj 31 [(0, 0)])) ∧ (L 3 = true → w.heap[g]? = some (cobj 31 [tAt a p]))
 b3_2 : L 3 = true → L 2 = true
set_option maxRecDepth 100000 in
set_option maxHeartbeats 4000000 in
theorem tay_right (ml : List (Int × Int)) (n : Nat) (hml : ml.length = 22 * n) (hn3 : n ≤ 3) (B0 cap : Nat) (w : World) (h : w.heap[B0]? = some (cobj 34 ml)) :
  Calls Tryz.prog 27 #[.slice (some ⟨B0, 0, none⟩) n cap] w fun e w' => (((∀ s ∈ ml, okS s) ∧ ∃ v, e = .returned v) ∨ (¬ (∀ s ∈ ml, okS s) ∧ e = .panicked (brk 210))) ∧ Below w.heap.size w w' := by
 have HML := lh hml
 have HB0 := lh h
 have hn3' : (n : Int) ≤ 3 := by omega
 clear h hml
 go_enter Tryz.func27, Tryz.ntmps27
 go_wp2_with fail
 go_loopw [8] (fun x wr => ∃ k : Nat, k ≤ n ∧ x = .int .i64 k ∧ Hid (Mut [] w wr ∧ ∀ s ∈ ml.take (22 * k), okS s)) (fun x _ => n - (intOf x).toNat)
 case atStart => exact ⟨0, by omega, rfl, lh ⟨Mut.refl _ _, by simp⟩⟩
 case round =>
  obtain ⟨k, hn, rfl, HG⟩ := hrel
  rcases Nat.lt_or_ge k n with hk | hk
  ·have hd : decide ((k : Int) < (n : Int)) = true := by simp; omega
   have hlt : (k : Int) < (n : Int) := by omega
   have hk0 : (0 : Int) ≤ (k : Int) := by omega
   have HKL := lh hk
   have HSUB0 := lh (mc_chunk ml k (by have := HML.out; omega))
   have HL0 := lh (show ((ml.drop (22 * k)).take 22).length = 22 by rw [List.length_take, List.length_drop]; have := HML.out; omega)
   have HTK := lh (show ml.take (22 * (k + 1)) = ml.take (22 * k) ++ (ml.drop (22 * k)).take 22 by rw [show 22 * (k + 1) = 22 * k + 22 by omega, List.take_add])
   obtain ⟨a, haa⟩ : ∃ a, (ml.drop (22 * k)).take 22 = a := ⟨_, rfl⟩
   rw [haa] at HSUB0 HL0 HTK
   have HIN := lh (show ∀ s ∈ a, s ∈ ml from fun s hs => List.mem_of_mem_drop (List.mem_of_mem_take (haa ▸ hs)))
   have HSUB := HSUB0
   have HL := HL0
   have HB := lh ((HG.out.1.same _ (lt_of_block HB0.out) (by simp)).trans HB0.out)
   clear hn hk haa HSUB0 HL0
   refine wsk fun K1 HK1 => ?_
   go_wp2_with fail
   refine HK1.out _ _ ?_
   refine wsk fun K2 HK2 => ?_
   go_wp2_with fail
   refine HK2.out _ _ ?_
   refine wsk fun K3 HK3 => ?_
   refine wp_block ?_
   refine wsk fun K4 HK4 => ?_
   refine wp_cut_mergeP (nn :: nn :: nn :: some 3 :: nn :: nn :: nn :: nn :: nn :: nn :: some 10 :: some 11 :: n8 (n8 (nn :: nn :: []))) (fun s w' => Mut [] wr w' ∧ (∃ g : Nat, s 3 = .pointer (some ⟨g, 0, none⟩) ∧ wr.heap.size ≤ g ∧ w'.heap[g]? = some (cobj 34 a))) (fun _ _ => False) ?_ ?_ ?_
   ·intro Q2 hQ2 hP2
    refine wpG ?_
    refine wp_region_G (b := false) (Pn := (fun _ _ => False)) (Ri2 wr B0 n cap ml a k) (by kernel_rfl) (by kernel_rfl) ?_ ?_ ?_ ?_
    ·exact ⟨Mut.start _ false _, nB, nB, nB, nB⟩
    ·refine AllSP.cons ?_ (AllSP.cons ?_ (AllSP.cons ?_ (AllSP.cons ?_ AllSP.nil)))
     ·intro L s w2 h hk hd hn
      have s6 : s 6 = _ := hk 6 (by kernel_rfl)
      have s8 : s 8 = _ := hk 8 (by kernel_rfl)
      refine sP fun K hK => ?_
      exact rs_index rfl s6 s8 (ix_models B0 n cap k HKL.out) (hK _ _ { h with e0 := fun _ => rfl })
     ·intro L s w2 h hk hd hn
      have s10 := h.e0 hd.1
      have kb := (h.mu.same _ (lt_of_block HB.out) (by simp)).trans HB.out
      refine sP fun K hK => ?_
      exact rs_load rfl s10 (md_load_at kb HSUB.out HL.out) (hK _ _ { h with e1 := fun _ => rfl })
     ·intro L s w2 h hk hd hn
      refine sP fun K hK => ?_
      go_simp
      exact hK _ _ { h with mu := h.mu.alloc _, al_m := fun _ => ⟨_, rfl, h.mu.size, by simp, fun _ => heap_at _ rfl, fun a => absurd (h.b3_2 a) (by rw [hn]; exact bft)⟩, b3_2 := fun _ => rfl }
     ·intro L s w2 h hk hd hn
      have s11 := h.e1 hd.2.1
      obtain ⟨g, hg0, hg1, hgl, hg2, hg3⟩ := h.al_m hd.1
      have kb := hg2 hn
      refine sP fun K hK => ?_
      exact rs_store rfl hg0 s11 (md_store kb rfl _ HL.out) (hK _ _ { h with mu := h.mu.putNew hg1 _, al_m := fun a => ⟨g, hg0, hg1, by simpa using hgl, nF, fun _ => pH kb⟩, b3_2 := fun _ => hd.1 })
    ·intro L s w2 h hk hl
     refine cA ?_ (hQ2 s w2 (⟨h.mu, (let ⟨g, h0, h1, _, _, h3⟩ := h.al_m (hl 2 (by decide)); ⟨g, h0, h1, h3 (hl 3 (by decide))⟩)⟩))
     exact frame_eq hk (by kernel_rfl) (by kernel_rfl)
    ·intro c s w2 hc
     exact hc.elim
   ·rintro s2 V ⟨h1, ⟨g, hg0, hg1, hg2⟩⟩
    simp only [mergeL]
    rw [hg0]
    have HMV := lh (HG.out.1.trans h1)
    have HG2 := HG
    replace HG := lh hg2
    clear h1 hg0 hg1 hg2
    refine HK4.out _ _ ?_
    refine wsk fun K5 HK5 => ?_
    refine wp_cut_mergeP (n8 (nn :: nn :: nn :: nn :: some 12 :: some 13 :: some 14 :: some 15 :: some 16 :: some 17 :: some 18 :: some 19 :: n8 (nn :: nn :: []))) (fun s w' => Mut [] V w' ∧ (∃ q c : Nat, s 17 = .slice (some ⟨q, 0, none⟩) 22 c ∧ SlA w' q a) ∧ s 18 = .int .i64 22 ∧ s 19 = .int .i64 ((0 : Nat) : Int)) (fun _ _ => False) ?_ ?_ ?_
    ·intro Q2 hQ2 hP2
     refine wpG ?_
     refine wp_region_G (b := true) (Pn := (fun _ _ => False)) (Ri3 V g a) (by kernel_rfl) (by kernel_rfl) ?_ ?_ ?_ ?_
     ·exact ⟨Mut.start _ true _, nB, nB, nB, nB, nB, nB, nB, nB⟩
     ·refine AllSP.cons ?_ (AllSP.cons ?_ (AllSP.cons ?_ (AllSP.cons ?_ (AllSP.cons ?_ (AllSP.cons ?_ (AllSP.cons ?_ (AllSP.cons ?_ AllSP.nil)))))))
      ·intro L s w2 h hk hd hn
       have s3 : s 3 = _ := hk 3 (by kernel_rfl)
       refine sP fun K hK => ?_
       exact rs_field rfl s3 (fl_model0 _ _) (hK _ _ { h with e0 := fun _ => rfl })
      ·intro L s w2 h hk hd hn
       have s12 := h.e0 hd.1
       refine sP fun K hK => ?_
       exact rs_slice rfl s12 (sl_model g _) (hK _ _ { h with e1 := fun _ => rfl })
      ·intro L s w2 h hk hd hn
       have s3 : s 3 = _ := hk 3 (by kernel_rfl)
       refine sP fun K hK => ?_
       exact rs_field rfl s3 (fl_model1 _ _) (hK _ _ { h with e2 := fun _ => rfl })
      ·intro L s w2 h hk hd hn
       have s14 := h.e2 hd.1
       have kb := ((h.mu.same _ ((Array.getElem?_eq_some_iff.1 HG.out).1) (by simp)).trans HG.out)
       refine sP fun K hK => ?_
       exact rs_load rfl s14 (sp_load (p := 21) kb (by have := HL.out; omega)) (hK _ _ { h with e3 := fun _ => rfl })
      ·intro L s w2 h hk hd hn
       have s15 := h.e3 hd.1
       refine sP fun K hK => ?_
       exact rs_build rfl (by simp [evS_tmp, s15]) (bs_span _ _) (hK _ _ { h with mu := h.mu.alloc _, n4 := fun _ => ⟨_, rfl, heap_at _ rfl⟩, n5 := fun a => let ⟨q, c, h1, h2⟩ := h.n5 a; ⟨q, c, h1, h2.up _⟩ })
      ·intro L s w2 h hk hd hn
       have s13 := h.e1 hd.1
       obtain ⟨q, s16, hq⟩ := h.n4 hd.2.1
       have kb := (h.mu.same _ (lt_of_block HG.out) (by simp)).trans HG.out
       refine sP fun K hK => ?_
       exact rs_append rfl s13 s16 (ap_model kb HL.out hq) (fun z => hK _ _ { h with mu := (h.mu.drew).alloc _, n4 := fun a => let ⟨q, h1, h2⟩ := h.n4 a; ⟨q, h1, heap_up _ h2⟩, n5 := fun _ => ⟨_, _, rfl, ap_at HL.out⟩ })
      ·intro L s w2 h hk hd hn
       obtain ⟨q, c, s17, hq⟩ := h.n5 hd.1
       refine sP fun K hK => ?_
       go_simp
       exact hK _ _ { h with e6 := fun _ => rfl }
      ·intro L s w2 h hk hd hn
       refine sP fun K hK => ?_
       exact rs_move rfl rfl (hK _ _ { h with e7 := fun _ => rfl })
     ·intro L s w2 h hk hl
      refine cA ?_ (hQ2 s w2 (⟨h.mu, h.n5 (hl 5 (by decide)), h.e6 (hl 6 (by decide)), h.e7 (hl 7 (by decide))⟩))
      exact frame_eq hk (by kernel_rfl) (by kernel_rfl)
     ·intro c s w2 hc
      exact hc.elim
    ·rintro s3 V2 ⟨h1, ⟨q, c, hq, hsl⟩, k18, k19⟩
     simp only [mergeL]
     rw [hq, k18, k19]
     have HMV2 := lh (HMV.out.trans h1)
     have HSL0 := lh hsl
     clear h1 hq hsl k18 k19
     refine HK5.out _ _ ?_
     refine wp_block ?_
     go_loopw [19] (fun x wr => ∃ p : Nat, p ≤ 22 ∧ x = .int .i64 p ∧ Hid (Mut [] V2 wr ∧ ∀ i, i < p → okS (tAt a i))) (fun x _ => 22 - (intOf x).toNat)
     case atStart => exact ⟨0, by omega, rfl, lh ⟨Mut.refl _ _, fun i h => by omega⟩⟩
     case round =>
      obtain ⟨p, hn, rfl, HGI⟩ := hrel
      have HSL := lh (HSL0.out.mut HGI.out.1)
      rcases Nat.lt_or_ge p 22 with hp | hp
      ·have HPL := lh hp
       have hdp : decide ((p : Int) < 22) = true := by simp; omega
       have hltp : (p : Int) < 22 := by omega
       have hp0 : (0 : Int) ≤ (p : Int) := by omega
       clear hn hp
       refine wsk fun K6 HK6 => ?_
       go_wp2_with fail
       refine HK6.out _ _ ?_
       refine wsk fun K7 HK7 => ?_
       go_wp2_with fail
       refine HK7.out _ _ ?_
       refine wsk fun K8 HK8 => ?_
       refine wp_block ?_
       refine wsk fun K9 HK9 => ?_
       refine wp_cut_mergeP (nn :: nn :: nn :: nn :: nn :: some 5 :: n8 (nn :: nn :: nn :: nn :: nn :: nn :: nn :: some 21 :: some 22 :: nn :: nn :: nn :: nn :: nn :: nn :: nn :: [])) (fun s w' => Mut [] wr w' ∧ (∃ g : Nat, s 5 = .pointer (some ⟨g, 0, none⟩) ∧ wr.heap.size ≤ g ∧ w'.heap[g]? = some (cobj 31 [tAt a p]))) (fun _ _ => False) ?_ ?_ ?_
       ·intro Q2 hQ2 hP2
        refine wpG ?_
        refine wp_region_G (b := false) (Pn := (fun _ _ => False)) (Ri5 wr q c a p) (by kernel_rfl) (by kernel_rfl) ?_ ?_ ?_ ?_
        ·exact ⟨Mut.start _ false _, nB, nB, nB, nB⟩
        ·refine AllSP.cons ?_ (AllSP.cons ?_ (AllSP.cons ?_ (AllSP.cons ?_ AllSP.nil)))
         ·intro L s w2 h hk hd hn
          have s17 : s 17 = _ := hk 17 (by kernel_rfl)
          have s19 : s 19 = _ := hk 19 (by kernel_rfl)
          refine sP fun K hK => ?_
          exact rs_index rfl s17 s19 (ix_spans q 22 c p HPL.out) (hK _ _ { h with e0 := fun _ => rfl })
         ·intro L s w2 h hk hd hn
          have s21 := h.e0 hd.1
          have kb := HSL.out.mut h.mu
          refine sP fun K hK => ?_
          exact rs_load rfl s21 (kb.load HL.out HPL.out) (hK _ _ { h with e1 := fun _ => rfl })
         ·intro L s w2 h hk hd hn
          refine sP fun K hK => ?_
          go_simp
          exact hK _ _ { h with mu := h.mu.alloc _, al_s := fun _ => ⟨_, rfl, h.mu.size, by simp, fun _ => heap_at _ rfl, fun a => absurd (h.b3_2 a) (by rw [hn]; exact bft)⟩, b3_2 := fun _ => rfl }
         ·intro L s w2 h hk hd hn
          have s22 := h.e1 hd.2.1
          obtain ⟨g, hg0, hg1, hgl, hg2, hg3⟩ := h.al_s hd.1
          have kb := hg2 hn
          refine sP fun K hK => ?_
          exact rs_store rfl hg0 s22 (sp_store (p := 0) kb (by simp) (tAt a p)) (hK _ _ { h with mu := h.mu.putNew hg1 _, al_s := fun a => ⟨g, hg0, hg1, by simpa using hgl, nF, fun _ => pH kb⟩, b3_2 := fun _ => hd.1 })
        ·intro L s w2 h hk hl
         refine cA ?_ (hQ2 s w2 (⟨h.mu, (let ⟨g, h0, h1, _, _, h3⟩ := h.al_s (hl 2 (by decide)); ⟨g, h0, h1, h3 (hl 3 (by decide))⟩)⟩))
         exact frame_eq hk (by kernel_rfl) (by kernel_rfl)
        ·intro c s w2 hc
         exact hc.elim
       ·rintro s5 V3 ⟨h1, ⟨g5, e0, e1, e2⟩⟩
        simp only [mergeL]
        rw [e0]
        have x0 := cell_two0 e2
        have x1 := cell_two1 e2
        have HM3 := lh (HGI.out.1.trans h1)
        clear h1 e0 e1 e2
        refine HK9.out _ _ ?_
        go_wp2_with fail
        refine (span_Check (tAt a p) _).mono ?_; rintro e w4 ⟨rfl, hb⟩
        have HM4 := lh (HM3.out.step hb)
        clear hb
        by_cases hok : okS (tAt a p)
        ·have hz : sChk (tAt a p) = 0 := sChk_ok hok
         have HOK := lh hok
         rw [hz]
         clear hz hok x0 x1
         go_wp2_with fail
         refine HK8.out _ _ ?_
         go_wp2_with fail
         have HE := lh (show Mut [] V2 w4 ∧ ∀ i, i < p + 1 → okS (tAt a i) from ⟨HM4.out, fun i hi => by
          rcases Nat.lt_or_ge i p with h | h
          ·exact HGI.out.2 i h
          ·obtain rfl : i = p := by omega
           exact HOK.out⟩)
         go_roundw
         case rel => first | exact ⟨p + 1, by have := HPL.out; omega, by go_num, HE⟩ | ((repeat apply Exists.intro); exact ⟨⟨p + 1, by have := HPL.out; omega, by go_num, HE⟩, rfl⟩)
         case measure => simp [intOf]; omega
        ·have hz : ¬ sChk (tAt a p) = 0 := by rw [sChk_bad hok]; decide
         have hz1 : (sChk (tAt a p) == 0) = false := by simp [hz]
         have hz2 : (sChk (tAt a p) != 0) = true := by simp [hz]
         have HOK := lh hok
         have HBL := lh (HMV2.out.trans HM4.out).to0
         clear hok x0 x1
         go_wp2_with fail
         exact ⟨rfl, .inr ⟨fun hall => HOK.out (hall _ (HIN.out _ (tAt_mem (by rw [HL.out]; exact HPL.out)))), rfl⟩, HBL.out⟩
       ·rintro _ _ _ h
        exact h.elim
      ·obtain rfl : p = 22 := by omega
       have HE := lh (show Mut [] w wr ∧ ∀ s ∈ ml.take (22 * (k + 1)), okS s from ⟨HMV2.out.trans HGI.out.1, by
        rw [HTK.out]
        intro s hs
        rcases List.mem_append.1 hs with h | h
        ·exact HG2.out.2 s h
        ·obtain ⟨i, hi, rfl⟩ := List.mem_iff_getElem.1 h
         have := HGI.out.2 i (by have := HL.out; omega)
         unfold tAt at this
         simpa [List.getD, List.getElem?_eq_getElem hi] using this⟩)
       clear hn hp
       go_wp2_with fail
       refine HK3.out _ _ ?_
       go_wp2_with fail
       go_roundw
       case rel => first | exact ⟨k + 1, by have := HKL.out; omega, by go_num, HE⟩ | ((repeat apply Exists.intro); exact ⟨⟨k + 1, by have := HKL.out; omega, by go_num, HE⟩, rfl⟩)
       case measure => simp [intOf]; have := HKL.out; omega
    ·rintro _ _ _ h
     exact h.elim
   ·rintro _ _ _ h
    exact h.elim
  ·obtain rfl : k = n := by omega
   have HE := lh (show (∀ s ∈ ml, okS s) ∧ Below w.heap.size w wr from ⟨by have := HG.out.2; rwa [← HML.out, List.take_length] at this, HG.out.1.to0⟩)
   clear hk hn
   go_wp2_with fail
   go_end0
   exact ⟨.inl ⟨HE.out.1, _, rfl⟩, HE.out.2⟩
end Go.Proofs.YthhkcfpljgdnhaaGreat
