/- Package taylor: caught, for models, intervals and numbers. Printed by wip/genTL.py. -/
import Derived.Defers
import Derived.Recover
import Derived.Test.YthhkcfpljgdnhaaGreatRegX
import Derived.Test.YthhkcfpljgdnhaaGreatTayK
namespace Go.Proofs.YthhkcfpljgdnhaaGreat
open Go.RowKit Mnc
attribute [local go_sem] RunSP_value RunSP_skip RunSP_enter evS_tmp evS_const evS_global evS_func
section
variable {W : World} {B : Nat} {t : TypeId} {n m : Int}
theorem e_load (h : W.heap[B]? = some (iobj t n)) : (Instr.loadAt 38 (.pointer (some ⟨B, 0, none⟩))).run Tryz.prog W = .ok (.int .i64 n) W := by
 have c := cell_of_one h
 simp [go_sem, c]
theorem e_store (h : W.heap[B]? = some (iobj t n)) : (Instr.storeAt 38 (.pointer (some ⟨B, 0, none⟩)) (.int .i64 m)).run Tryz.prog W = .ok () (W.putObj B (iobj t m)) := by
 have c := cell_of_one h
 have f : W.frozen? ⟨B, 0, none⟩ = false := by simp [World.frozen?, h, iobj]
 have e := setCell_put (W := W) (cs := #[.int .i64 n]) (fr := (0, 0)) (t := t) h 0 (.int .i64 m)
 have hs : (Instr.storeAt 38 (.pointer (some ⟨B, 0, none⟩)) (.int .i64 m)).run Tryz.prog W = .ok () (W.setCell ⟨B, 0, none⟩ (.int .i64 m)) := by
  simp [go_sem, c, f]
 rw [hs, e]
 rfl
theorem e_loadVar (h : W.heap[B]? = some (iobj t n)) : (loadVar 38 ⟨B, 0, none⟩).run Tryz.prog W = .ok (.int .i64 n) W := by
 have c := cell_of_one h
 simp [go_sem, c]
/-- A result, or nothing where there is an error. -/
def orZ {α : Type} (z : α) (r : α × Int) : α := if r.2 = 0 then r.1 else z
theorem orZ_0 {α : Type} {z : α} {r : α × Int} (h : r.2 = 0) : orZ z r = r.1 := if_pos h
theorem orZ_1 {α : Type} {z : α} {r : α × Int} (h : ¬ r.2 = 0) : orZ z r = z := if_neg h
theorem fl_broken (B : Nat) (W : World) : (Instr.fieldAt 70 (.pointer (some ⟨B, 0, none⟩)) 0).run Tryz.prog W = .ok (.pointer (some ⟨B, 0, none⟩)) W := by
 simp [go_sem]
end
theorem catch_idle_m (p q : Addr) (w : World) :
  CallsD Tryz.prog 61 #[.pointer (some p), .pointer (some q)] .returning w fun e u' w' => e = .returned (.tuple #[]) ∧ u' = .returning ∧ w' = w := by
 refine callsD_of_wpS Tryz.func61 rfl fun c₀ cs hu => ?_
 apply wpS_seq
 apply wpS_region
 simp [wpOpsS, go_sem, recoverD, hu, Tryz.ntmps61, Exit.thenS]
 apply wpS_seq
 apply wpS_region
 simp [wpOpsS, go_sem, Exit.thenS]
 refine wpS_cond (t := false) (by simp [Act.eval, Array.replicate]) ?_
 simp only [Bool.false_eq_true, if_false]
 refine wpS_of_wp (wp_skip ?_)
 cases c₀
 simp_all [bodyPostS, results, Tryz.results61]
structure Ctm (V : World) (b o q : Nat) (n m : Int) (l : List (Int × Int)) (L : Nat → Bool) (s : Nat → Value) (w : World) : Prop where
 mu : Mut [o, q] V w
 kt_out : L 3 = false → w.heap[o]? = some (cobj 34 l)
 kr_out : L 3 = true → w.heap[o]? = some (cobj 34 zeroM)
 kt_er : L 4 = false → w.heap[q]? = some (iobj 38 m)
 kr_er : L 4 = true → w.heap[q]? = some (iobj 38 n)
 e0 : L 0 = true → s 17 = mval zeroM
 e1 : L 1 = true → s 18 = .pointer (some ⟨b, 0, none⟩)
 e2 : L 2 = true → s 19 = .int .i64 n
set_option maxRecDepth 100000 in
set_option maxHeartbeats 2000000 in
theorem catch_m (o q : Nat) (n m : Int) (l : List (Int × Int)) (hl : l.length = 22) (w : World) (ho : w.heap[o]? = some (cobj 34 l)) (hq : w.heap[q]? = some (iobj 38 m)) (hne : o ≠ q) :
  CallsD Tryz.prog 61 #[.pointer (some ⟨o, 0, none⟩), .pointer (some ⟨q, 0, none⟩)] (.panicking (brk n)) w fun e u' w' => e = .returned (.tuple #[]) ∧ u' = .panicking [{ v := .iface 70 (.agg #[.int .i64 n]), recovered := true }] ∧
   w'.heap[o]? = some (cobj 34 zeroM) ∧ w'.heap[q]? = some (iobj 38 n) ∧ Mut [o, q] w w' := by
 refine callsD_of_wpS Tryz.func61 rfl fun c₀ cs hu => ?_
 unfold brk at hu
 have hta : ∀ W, (Instr.typeAssert (.iface 70 (.agg #[.int .i64 n])) 20 70 true).run Tryz.prog W = .ok (.tuple #[.agg #[.int .i64 n], .bool true]) W := fun _ => by kernel_rfl
 have HL := lh hl
 clear hl
 have HO1 := lh ho
 have HE1 := lh hq
 have HNE := lh hne
 clear ho hq hne
 apply wpS_seq
 apply wpS_region
 simp [wpOpsS, go_sem, recoverD, hu, Tryz.ntmps61, Exit.thenS]
 refine wpS_of_wp ?_
 simp only [Array.replicate_succ, Array.replicate_zero, List.push_toArray, List.append_toArray, List.nil_append, List.cons_append, List.setIfInBounds_toArray, List.set_cons_zero, List.set_cons_succ]
 go_wp2_with fail
 obtain ⟨b, hb⟩ : ∃ b, w.heap.size = b := ⟨_, rfl⟩
 refine wp_world (fun V => Mut [o, q] w V ∧ V.heap[b]? = some (iobj 70 n) ∧ V.heap[b + 1]? = some (cobj 34 zeroM) ∧ V.heap[o]? = some (cobj 34 l) ∧ V.heap[q]? = some (iobj 38 m)) ?_
  (by
   rw [← hb]
   exact ⟨((Mut.refl _ _).alloc _).alloc _, heap_up _ (heap_at _ rfl), heap_at (cobj 34 zeroM) (by simp), heap_up _ (heap_up _ HO1.out), heap_up _ (heap_up _ HE1.out)⟩)
 rintro V ⟨hm, hB, hN, hO, hE⟩
 rw [hb]
 have HM := lh hm
 have HLT := lh (show o < b ∧ q < b ∧ o ≠ q from ⟨hb ▸ lt_of_block HO1.out, hb ▸ lt_of_block HE1.out, HNE.out⟩)
 have HB := lh hB
 have HN := lh hN
 have HO := lh hO
 have HE := lh hE
 clear hm hB hO hE hb
 refine wp_cut_mergeP (n8 (n8 (nn :: some 17 :: some 18 :: some 19 :: []))) (fun _ w' => Mut [o, q] V w' ∧ w'.heap[o]? = some (cobj 34 zeroM) ∧ w'.heap[q]? = some (iobj 38 n)) (fun _ _ => False) ?_ ?_ ?_
 ·intro Q2 hQ2 hP2
  refine wpG ?_
  refine wp_region_G (b := true) (Pn := (fun _ _ => False)) (Ctm V b o q n m l) (by kernel_rfl) (by kernel_rfl) ?_ ?_ ?_ ?_
  ·exact ⟨Mut.start _ true _, fun _ => HO.out, nB, fun _ => HE.out, nB, nB, nB, nB⟩
  ·refine AllSP.cons ?_ (AllSP.cons ?_ (AllSP.cons ?_ (AllSP.cons ?_ (AllSP.cons ?_ AllSP.nil))))
   ·intro L s w2 h hk hd hn
    have s5 : s 5 = _ := hk 5 (by kernel_rfl)
    have kb := ((h.mu.same _ ((Array.getElem?_eq_some_iff.1 HN.out).1) (notin2 (by have := HLT.out; omega) (by have := HLT.out; omega))).trans HN.out)
    refine sP fun K hK => ?_
    exact rs_load rfl s5 (md_load kb rfl) (hK _ _ { h with e0 := fun _ => rfl })
   ·intro L s w2 h hk hd hn
    have s3 : s 3 = _ := hk 3 (by kernel_rfl)
    refine sP fun K hK => ?_
    exact rs_field rfl s3 (fl_broken _ _) (hK _ _ { h with e1 := fun _ => rfl })
   ·intro L s w2 h hk hd hn
    have s18 := h.e1 hd.1
    have kb := ((h.mu.same _ ((Array.getElem?_eq_some_iff.1 HB.out).1) (notin2 (by have := HLT.out; omega) (by have := HLT.out; omega))).trans HB.out)
    refine sP fun K hK => ?_
    exact rs_load rfl s18 (e_load kb) (hK _ _ { h with e2 := fun _ => rfl })
   ·intro L s w2 h hk hd hn
    have s0 : s 0 = _ := hk 0 (by kernel_rfl)
    have s17 := h.e0 hd.1
    have kb := h.kt_out hn
    refine sP fun K hK => ?_
    exact rs_store rfl s0 s17 (md_store kb HL.out _ rfl) (hK _ _ { h with mu := h.mu.put (List.Mem.head _) _, kt_er := fun a => (World.putObj_heap_other (by have := HLT.out; omega)).trans (h.kt_er a), kr_er := fun a => (World.putObj_heap_other (by have := HLT.out; omega)).trans (h.kr_er a), kt_out := nF, kr_out := fun _ => pH kb })
   ·intro L s w2 h hk hd hn
    have s1 : s 1 = _ := hk 1 (by kernel_rfl)
    have s19 := h.e2 hd.1
    have kb := h.kt_er hn
    refine sP fun K hK => ?_
    exact rs_store rfl s1 s19 (e_store kb) (hK _ _ { h with mu := h.mu.put (List.Mem.tail _ (List.Mem.head _)) _, kt_out := fun a => (World.putObj_heap_other (by have := HLT.out; omega)).trans (h.kt_out a), kr_out := fun a => (World.putObj_heap_other (by have := HLT.out; omega)).trans (h.kr_out a), kt_er := nF, kr_er := fun _ => pH kb })
  ·intro L s w2 h hk hl
   refine cA ?_ (hQ2 s w2 (⟨h.mu, h.kr_out (hl 3 (by decide)), h.kr_er (hl 4 (by decide))⟩))
   exact frame_eq hk (by kernel_rfl) (by kernel_rfl)
  ·intro c s w2 hc
   exact hc.elim
 ·rintro s6 V2 ⟨h1, h2, h3⟩
  exact ⟨rfl, _, rfl, .tuple #[], by simp [results, Tryz.results61, go_sem], rfl, rfl, h2, h3, HM.out.trans h1⟩
 ·rintro _ _ _ h
  exact h.elim
structure Cum (V : World) (b f : Nat) (caps : Array Value) (r : List (Int × Int) × Int) (L : Nat → Bool) (s : Nat → Value) (w : World) : Prop where
 mu : Mut [b, b + 1] V w
 kt_out : L 2 = false → w.heap[b]? = some (cobj 34 zeroM)
 kr_out : L 2 = true → w.heap[b]? = some (cobj 34 r.1)
 kt_er : L 3 = false → w.heap[b + 1]? = some (iobj 38 0)
 kr_er : L 3 = true → w.heap[b + 1]? = some (iobj 38 0)
 e0 : L 0 = true → s 5 = .func (.func f) #[] caps
 z1 : L 1 = true → r.2 = 0
 e1 : L 1 = true → s 6 = mval r.1
 b2_1 : L 2 = true → L 1 = true
 b3_1 : L 3 = true → L 1 = true
set_option maxRecDepth 100000 in
set_option maxHeartbeats 2000000 in
theorem tay_caught_m (f : Nat) (caps : Array Value) (r : List (Int × Int) × Int) (hr : r.2 = 0 → r.1.length = 22) (w : World) (hi : ∀ W, (callFunc f (#[] ++ caps)).run Tryz.prog W = .ok (.enter f (#[] ++ caps)) W)
  (hW : ∀ W, Below w.heap.size w W → Calls Tryz.prog f (#[] ++ caps) W fun e w' => Ends mval r e ∧ Below W.heap.size W w') :
  Calls Tryz.prog 25 #[.func (.func f) #[] caps] w fun e w' => e = .returned (.tuple #[mval (orZ zeroM r), .int .i64 r.2]) ∧ Below w.heap.size w w' := by
 have HI := lh hi
 have HW := lh hW
 have HR := lh hr
 clear hr
 have hmf : ∀ (fn : Fn) (first cap : Array Value) (w : World), (Instr.makeFunc fn first cap).run Tryz.prog w = .ok (.func fn first cap) w := fun _ _ _ _ => rfl
 clear hi hW
 go_enter_defers Tryz.func25, Tryz.ntmps25
 refine wsk fun K0 HK0 => ?_
 go_wp2_with fail
 obtain ⟨b, hb⟩ : ∃ b, w.heap.size = b := ⟨_, rfl⟩
 refine HK0.out _ _ ?_
 refine wp_world (fun V => Mut [] w V ∧ V.heap[b]? = some (cobj 34 zeroM) ∧ V.heap[b + 1]? = some (iobj 38 0)) ?_
  (by
   rw [← hb]
   exact ⟨((Mut.refl _ _).alloc _).alloc _, heap_up _ (heap_at (cobj 34 zeroM) (by simp)), heap_at _ (by simp)⟩)
 rintro V ⟨hm, hO, hE⟩
 rw [hb]
 have HM := lh hm
 have HBW := lh hb
 have HO := lh hO
 have HE := lh hE
 clear hm hO hE hb HK0
 refine wsk fun K1 HK1 => ?_
 go_wp2_with fail
 refine HK1.out _ _ ?_
 refine wp_seq_k fun K2 hK2 => ?_
 have HK2 := lh hK2
 clear hK2 hmf
 refine wp_cut_mergeK [none, none, none, none, none, some 5, some 6] (fun _ w' => Mut [b, b + 1] V w' ∧ w'.heap[b]? = some (cobj 34 r.1) ∧ w'.heap[b + 1]? = some (iobj 38 0) ∧ r.2 = 0) (fun ch w' => ch = brk (fstE [r.2]) ∧ ¬ fstE [r.2] = 0 ∧ Mut [b, b + 1] V w' ∧ w'.heap[b]? = some (cobj 34 zeroM) ∧ w'.heap[b + 1]? = some (iobj 38 0)) ?_ ?_ ?_
 ·intro Q2 hQ2 hP2
  refine wpG ?_
  refine wp_region_K (b := false) (Pn := (fun ch w' => ch = brk (fstE [r.2]) ∧ ¬ fstE [r.2] = 0 ∧ Mut [b, b + 1] V w' ∧ w'.heap[b]? = some (cobj 34 zeroM) ∧ w'.heap[b + 1]? = some (iobj 38 0))) (Cum V b f caps r) (by kernel_rfl) (by kernel_rfl) ?_ ?_ ?_ ?_
  ·exact ⟨Mut.start _ false _, fun _ => HO.out, nB, fun _ => HE.out, nB, nB, nB, nB, nB, nB⟩
  ·refine AllSP.cons ?_ (AllSP.cons ?_ (AllSP.cons ?_ (AllSP.cons ?_ AllSP.nil)))
   ·intro L s w2 h hk hd hn
    have s0 : s 0 = _ := hk 0 (by kernel_rfl)
    refine sP fun K hK => ?_
    exact rs_move rfl s0 (hK _ _ { h with e0 := fun _ => rfl })
   ·intro L s w2 h hk hd hn
    have s5 := h.e0 hd.1
    refine sP fun K hK => ?_
    refine rs_callv rfl s5 (vs := #[]) (by simp) (HI.out _) ?_
    refine (HW.out _ (HM.out.stepM h.mu (by have := HBW.out; intro x hx; simp at hx; right; omega)).to0).mono ?_
    rintro e w3 ⟨⟨hz, rfl⟩ | ⟨hz, rfl⟩, hb⟩
    ·exact .inl ⟨_, rfl, hK _ _ { h with mu := h.mu.step hb, kt_out := fun a => bk hb (h.kt_out a), kr_out := fun a => bk hb (h.kr_out a), kt_er := fun a => bk hb (h.kt_er a), kr_er := fun a => bk hb (h.kr_er a), e1 := fun _ => rfl, z1 := fun _ => hz, b2_1 := fun _ => rfl, b3_1 := fun _ => rfl }⟩
    ·exact .inr ⟨_, rfl, congrArg brk (show r.2 = fstE [r.2] from (by rw [fstE_1 (show ¬ r.2 = 0 from hz)])), (show ¬ fstE [r.2] = 0 from (by rw [fstE_1 (show ¬ r.2 = 0 from hz)]; exact hz)), h.mu.step hb, (hb.block _ (lt_of_block (h.kt_out (bF h.b2_1 hn)))).trans (h.kt_out (bF h.b2_1 hn)), (hb.block _ (lt_of_block (h.kt_er (bF h.b3_1 hn)))).trans (h.kt_er (bF h.b3_1 hn))⟩
   ·intro L s w2 h hk hd hn
    have s2 : s 2 = _ := hk 2 (by kernel_rfl)
    have s6 := h.e1 hd.1
    have kb := h.kt_out hn
    refine sP fun K hK => ?_
    exact rs_store rfl s2 s6 (md_store kb rfl _ (HR.out (h.z1 hd.1))) (hK _ _ { h with mu := h.mu.put (List.Mem.head _) _, kt_er := fun a => (World.putObj_heap_other (by omega)).trans (h.kt_er a), kr_er := fun a => (World.putObj_heap_other (by omega)).trans (h.kr_er a), kt_out := nF, kr_out := fun _ => pH kb, b2_1 := fun _ => hd.1 })
   ·intro L s w2 h hk hd hn
    have s3 : s 3 = _ := hk 3 (by kernel_rfl)
    have kb := h.kt_er hn
    refine sP fun K hK => ?_
    exact rs_store rfl s3 rfl (e_store kb) (hK _ _ { h with mu := h.mu.put (List.Mem.tail _ (List.Mem.head _)) _, kt_out := fun a => (World.putObj_heap_other (by omega)).trans (h.kt_out a), kr_out := fun a => (World.putObj_heap_other (by omega)).trans (h.kr_out a), kt_er := nF, kr_er := fun _ => pH kb, b3_1 := fun _ => hd.2.2.1 })
  ·intro L s w2 h hk hl
   refine cA ?_ (hQ2 s w2 (⟨h.mu, h.kr_out (hl 2 (by decide)), h.kr_er (hl 3 (by decide)), h.z1 (hl 1 (by decide))⟩))
   exact frame_eq hk (by kernel_rfl) (by kernel_rfl)
  ·intro c s w2 hk hc
   refine (congrArg (fun a => Q2 (.panic c) a w2) (?_ : _ = _)).mpr (hP2 c s w2 hc)
   exact frame_eq hk (by kernel_rfl) (by kernel_rfl)
 ·rintro s2 V2 ⟨h1, h2, h3, hz⟩
  simp only [mergeL]
  refine HK2.out _ _ ?_
  refine wp_ret ?_
  have hB := (HM.out.stepM h1 (by have := HBW.out; intro x hx; simp at hx; right; omega)).to0
  rw [HBW.out] at hB
  refine leaves_cons (f := 61) (args := #[.pointer (some ⟨b, 0, none⟩), .pointer (some ⟨b + 1, 0, none⟩)]) (by simp) (by simp [go_sem]) ?_
  refine (catch_idle_m _ _ _).mono ?_
  rintro e u' w'' ⟨rfl, rfl, rfl⟩
  exact ⟨_, res_two Tryz.results25 rfl rfl (md_loadVar h2 (HR.out hz)) (e_loadVar h3), by rw [orZ_0 hz, hz], hB⟩
 ·rintro c s2 w' ⟨rfl, hz, h2, h3, h4⟩
  simp only [mergeL]
  rw [fstE_one] at hz ⊢
  have hB := (HM.out.stepM h2 (by have := HBW.out; intro x hx; simp at hx; right; omega)).to0
  rw [HBW.out] at hB
  refine leaves_cons (f := 61) (args := #[.pointer (some ⟨b, 0, none⟩), .pointer (some ⟨b + 1, 0, none⟩)]) (by simp [brk]) (by simp [go_sem]) ?_
  refine (catch_m b (b + 1) r.2 0 _ rfl w' h3 h4 (by omega)).mono ?_
  rintro e u' w'' ⟨rfl, rfl, ho, hq, hm⟩
  exact ⟨_, res_two Tryz.results25 rfl rfl (md_loadVar ho rfl) (e_loadVar hq), by rw [orZ_1 hz], hB.trans (hm.below (by have := hB.size; have := lt_of_block h3; omega) (by intro x hx; simp at hx; omega))⟩
theorem catch_idle_s (p q : Addr) (w : World) :
  CallsD Tryz.prog 71 #[.pointer (some p), .pointer (some q)] .returning w fun e u' w' => e = .returned (.tuple #[]) ∧ u' = .returning ∧ w' = w := by
 refine callsD_of_wpS Tryz.func71 rfl fun c₀ cs hu => ?_
 apply wpS_seq
 apply wpS_region
 simp [wpOpsS, go_sem, recoverD, hu, Tryz.ntmps71, Exit.thenS]
 apply wpS_seq
 apply wpS_region
 simp [wpOpsS, go_sem, Exit.thenS]
 refine wpS_cond (t := false) (by simp [Act.eval, Array.replicate]) ?_
 simp only [Bool.false_eq_true, if_false]
 refine wpS_of_wp (wp_skip ?_)
 cases c₀
 simp_all [bodyPostS, results, Tryz.results71]
structure Cts (V : World) (b o q : Nat) (n m : Int) (l : (Int × Int)) (L : Nat → Bool) (s : Nat → Value) (w : World) : Prop where
 mu : Mut [o, q] V w
 kt_out : L 3 = false → w.heap[o]? = some (cobj 31 ([l]))
 kr_out : L 3 = true → w.heap[o]? = some (cobj 31 ([(0, 0)]))
 kt_er : L 4 = false → w.heap[q]? = some (iobj 38 m)
 kr_er : L 4 = true → w.heap[q]? = some (iobj 38 n)
 e0 : L 0 = true → s 17 = sval (0, 0)
 e1 : L 1 = true → s 18 = .pointer (some ⟨b, 0, none⟩)
 e2 : L 2 = true → s 19 = .int .i64 n
set_option maxRecDepth 100000 in
set_option maxHeartbeats 2000000 in
theorem catch_s (o q : Nat) (n m : Int) (l : (Int × Int)) (w : World) (ho : w.heap[o]? = some (cobj 31 [l])) (hq : w.heap[q]? = some (iobj 38 m)) (hne : o ≠ q) :
  CallsD Tryz.prog 71 #[.pointer (some ⟨o, 0, none⟩), .pointer (some ⟨q, 0, none⟩)] (.panicking (brk n)) w fun e u' w' => e = .returned (.tuple #[]) ∧ u' = .panicking [{ v := .iface 70 (.agg #[.int .i64 n]), recovered := true }] ∧
   w'.heap[o]? = some (cobj 31 [(0, 0)]) ∧ w'.heap[q]? = some (iobj 38 n) ∧ Mut [o, q] w w' := by
 refine callsD_of_wpS Tryz.func71 rfl fun c₀ cs hu => ?_
 unfold brk at hu
 have hta : ∀ W, (Instr.typeAssert (.iface 70 (.agg #[.int .i64 n])) 20 70 true).run Tryz.prog W = .ok (.tuple #[.agg #[.int .i64 n], .bool true]) W := fun _ => by kernel_rfl
 skip
 have HO1 := lh ho
 have HE1 := lh hq
 have HNE := lh hne
 clear ho hq hne
 apply wpS_seq
 apply wpS_region
 simp [wpOpsS, go_sem, recoverD, hu, Tryz.ntmps71, Exit.thenS]
 refine wpS_of_wp ?_
 simp only [Array.replicate_succ, Array.replicate_zero, List.push_toArray, List.append_toArray, List.nil_append, List.cons_append, List.setIfInBounds_toArray, List.set_cons_zero, List.set_cons_succ]
 go_wp2_with fail
 obtain ⟨b, hb⟩ : ∃ b, w.heap.size = b := ⟨_, rfl⟩
 refine wp_world (fun V => Mut [o, q] w V ∧ V.heap[b]? = some (iobj 70 n) ∧ V.heap[b + 1]? = some (cobj 31 [(0, 0)]) ∧ V.heap[o]? = some (cobj 31 [l]) ∧ V.heap[q]? = some (iobj 38 m)) ?_
  (by
   rw [← hb]
   exact ⟨((Mut.refl _ _).alloc _).alloc _, heap_up _ (heap_at _ rfl), heap_at (cobj 31 [(0, 0)]) (by simp), heap_up _ (heap_up _ HO1.out), heap_up _ (heap_up _ HE1.out)⟩)
 rintro V ⟨hm, hB, hN, hO, hE⟩
 rw [hb]
 have HM := lh hm
 have HLT := lh (show o < b ∧ q < b ∧ o ≠ q from ⟨hb ▸ lt_of_block HO1.out, hb ▸ lt_of_block HE1.out, HNE.out⟩)
 have HB := lh hB
 have HN := lh hN
 have HO := lh hO
 have HE := lh hE
 clear hm hB hO hE hb
 refine wp_cut_mergeP (n8 (n8 (nn :: some 17 :: some 18 :: some 19 :: []))) (fun _ w' => Mut [o, q] V w' ∧ w'.heap[o]? = some (cobj 31 ([(0, 0)])) ∧ w'.heap[q]? = some (iobj 38 n)) (fun _ _ => False) ?_ ?_ ?_
 ·intro Q2 hQ2 hP2
  refine wpG ?_
  refine wp_region_G (b := true) (Pn := (fun _ _ => False)) (Cts V b o q n m l) (by kernel_rfl) (by kernel_rfl) ?_ ?_ ?_ ?_
  ·exact ⟨Mut.start _ true _, fun _ => HO.out, nB, fun _ => HE.out, nB, nB, nB, nB⟩
  ·refine AllSP.cons ?_ (AllSP.cons ?_ (AllSP.cons ?_ (AllSP.cons ?_ (AllSP.cons ?_ AllSP.nil))))
   ·intro L s w2 h hk hd hn
    have s5 : s 5 = _ := hk 5 (by kernel_rfl)
    have kb := ((h.mu.same _ ((Array.getElem?_eq_some_iff.1 HN.out).1) (notin2 (by have := HLT.out; omega) (by have := HLT.out; omega))).trans HN.out)
    refine sP fun K hK => ?_
    exact rs_load rfl s5 (sp_load (p := 0) kb (by simp)) (hK _ _ { h with e0 := fun _ => rfl })
   ·intro L s w2 h hk hd hn
    have s3 : s 3 = _ := hk 3 (by kernel_rfl)
    refine sP fun K hK => ?_
    exact rs_field rfl s3 (fl_broken _ _) (hK _ _ { h with e1 := fun _ => rfl })
   ·intro L s w2 h hk hd hn
    have s18 := h.e1 hd.1
    have kb := ((h.mu.same _ ((Array.getElem?_eq_some_iff.1 HB.out).1) (notin2 (by have := HLT.out; omega) (by have := HLT.out; omega))).trans HB.out)
    refine sP fun K hK => ?_
    exact rs_load rfl s18 (e_load kb) (hK _ _ { h with e2 := fun _ => rfl })
   ·intro L s w2 h hk hd hn
    have s0 : s 0 = _ := hk 0 (by kernel_rfl)
    have s17 := h.e0 hd.1
    have kb := h.kt_out hn
    refine sP fun K hK => ?_
    exact rs_store rfl s0 s17 (sp_store (p := 0) kb (by simp) (0, 0)) (hK _ _ { h with mu := h.mu.put (List.Mem.head _) _, kt_er := fun a => (World.putObj_heap_other (by have := HLT.out; omega)).trans (h.kt_er a), kr_er := fun a => (World.putObj_heap_other (by have := HLT.out; omega)).trans (h.kr_er a), kt_out := nF, kr_out := fun _ => pH kb })
   ·intro L s w2 h hk hd hn
    have s1 : s 1 = _ := hk 1 (by kernel_rfl)
    have s19 := h.e2 hd.1
    have kb := h.kt_er hn
    refine sP fun K hK => ?_
    exact rs_store rfl s1 s19 (e_store kb) (hK _ _ { h with mu := h.mu.put (List.Mem.tail _ (List.Mem.head _)) _, kt_out := fun a => (World.putObj_heap_other (by have := HLT.out; omega)).trans (h.kt_out a), kr_out := fun a => (World.putObj_heap_other (by have := HLT.out; omega)).trans (h.kr_out a), kt_er := nF, kr_er := fun _ => pH kb })
  ·intro L s w2 h hk hl
   refine cA ?_ (hQ2 s w2 (⟨h.mu, h.kr_out (hl 3 (by decide)), h.kr_er (hl 4 (by decide))⟩))
   exact frame_eq hk (by kernel_rfl) (by kernel_rfl)
  ·intro c s w2 hc
   exact hc.elim
 ·rintro s6 V2 ⟨h1, h2, h3⟩
  exact ⟨rfl, _, rfl, .tuple #[], by simp [results, Tryz.results71, go_sem], rfl, rfl, h2, h3, HM.out.trans h1⟩
 ·rintro _ _ _ h
  exact h.elim
structure Cus (V : World) (b f : Nat) (caps : Array Value) (r : (Int × Int) × Int) (L : Nat → Bool) (s : Nat → Value) (w : World) : Prop where
 mu : Mut [b, b + 1] V w
 kt_out : L 2 = false → w.heap[b]? = some (cobj 31 ([(0, 0)]))
 kr_out : L 2 = true → w.heap[b]? = some (cobj 31 ([r.1]))
 kt_er : L 3 = false → w.heap[b + 1]? = some (iobj 38 0)
 kr_er : L 3 = true → w.heap[b + 1]? = some (iobj 38 0)
 e0 : L 0 = true → s 5 = .func (.func f) #[] caps
 z1 : L 1 = true → r.2 = 0
 e1 : L 1 = true → s 6 = sval r.1
 b2_1 : L 2 = true → L 1 = true
 b3_1 : L 3 = true → L 1 = true
set_option maxRecDepth 100000 in
set_option maxHeartbeats 2000000 in
theorem tay_caught_s (f : Nat) (caps : Array Value) (r : (Int × Int) × Int) (w : World) (hi : ∀ W, (callFunc f (#[] ++ caps)).run Tryz.prog W = .ok (.enter f (#[] ++ caps)) W)
  (hW : ∀ W, Below w.heap.size w W → Calls Tryz.prog f (#[] ++ caps) W fun e w' => Ends sval r e ∧ Below W.heap.size W w') :
  Calls Tryz.prog 32 #[.func (.func f) #[] caps] w fun e w' => e = .returned (.tuple #[sval (orZ ((0, 0) : Int × Int) r), .int .i64 r.2]) ∧ Below w.heap.size w w' := by
 have HI := lh hi
 have HW := lh hW
 skip
 have hmf : ∀ (fn : Fn) (first cap : Array Value) (w : World), (Instr.makeFunc fn first cap).run Tryz.prog w = .ok (.func fn first cap) w := fun _ _ _ _ => rfl
 clear hi hW
 go_enter_defers Tryz.func32, Tryz.ntmps32
 refine wsk fun K0 HK0 => ?_
 go_wp2_with fail
 obtain ⟨b, hb⟩ : ∃ b, w.heap.size = b := ⟨_, rfl⟩
 refine HK0.out _ _ ?_
 refine wp_world (fun V => Mut [] w V ∧ V.heap[b]? = some (cobj 31 [(0, 0)]) ∧ V.heap[b + 1]? = some (iobj 38 0)) ?_
  (by
   rw [← hb]
   exact ⟨((Mut.refl _ _).alloc _).alloc _, heap_up _ (heap_at (cobj 31 [(0, 0)]) (by simp)), heap_at _ (by simp)⟩)
 rintro V ⟨hm, hO, hE⟩
 rw [hb]
 have HM := lh hm
 have HBW := lh hb
 have HO := lh hO
 have HE := lh hE
 clear hm hO hE hb HK0
 refine wsk fun K1 HK1 => ?_
 go_wp2_with fail
 refine HK1.out _ _ ?_
 refine wp_seq_k fun K2 hK2 => ?_
 have HK2 := lh hK2
 clear hK2 hmf
 refine wp_cut_mergeK [none, none, none, none, none, some 5, some 6] (fun _ w' => Mut [b, b + 1] V w' ∧ w'.heap[b]? = some (cobj 31 ([r.1])) ∧ w'.heap[b + 1]? = some (iobj 38 0) ∧ r.2 = 0) (fun ch w' => ch = brk (fstE [r.2]) ∧ ¬ fstE [r.2] = 0 ∧ Mut [b, b + 1] V w' ∧ w'.heap[b]? = some (cobj 31 ([(0, 0)])) ∧ w'.heap[b + 1]? = some (iobj 38 0)) ?_ ?_ ?_
 ·intro Q2 hQ2 hP2
  refine wpG ?_
  refine wp_region_K (b := false) (Pn := (fun ch w' => ch = brk (fstE [r.2]) ∧ ¬ fstE [r.2] = 0 ∧ Mut [b, b + 1] V w' ∧ w'.heap[b]? = some (cobj 31 ([(0, 0)])) ∧ w'.heap[b + 1]? = some (iobj 38 0))) (Cus V b f caps r) (by kernel_rfl) (by kernel_rfl) ?_ ?_ ?_ ?_
  ·exact ⟨Mut.start _ false _, fun _ => HO.out, nB, fun _ => HE.out, nB, nB, nB, nB, nB, nB⟩
  ·refine AllSP.cons ?_ (AllSP.cons ?_ (AllSP.cons ?_ (AllSP.cons ?_ AllSP.nil)))
   ·intro L s w2 h hk hd hn
    have s0 : s 0 = _ := hk 0 (by kernel_rfl)
    refine sP fun K hK => ?_
    exact rs_move rfl s0 (hK _ _ { h with e0 := fun _ => rfl })
   ·intro L s w2 h hk hd hn
    have s5 := h.e0 hd.1
    refine sP fun K hK => ?_
    refine rs_callv rfl s5 (vs := #[]) (by simp) (HI.out _) ?_
    refine (HW.out _ (HM.out.stepM h.mu (by have := HBW.out; intro x hx; simp at hx; right; omega)).to0).mono ?_
    rintro e w3 ⟨⟨hz, rfl⟩ | ⟨hz, rfl⟩, hb⟩
    ·exact .inl ⟨_, rfl, hK _ _ { h with mu := h.mu.step hb, kt_out := fun a => bk hb (h.kt_out a), kr_out := fun a => bk hb (h.kr_out a), kt_er := fun a => bk hb (h.kt_er a), kr_er := fun a => bk hb (h.kr_er a), e1 := fun _ => rfl, z1 := fun _ => hz, b2_1 := fun _ => rfl, b3_1 := fun _ => rfl }⟩
    ·exact .inr ⟨_, rfl, congrArg brk (show r.2 = fstE [r.2] from (by rw [fstE_1 (show ¬ r.2 = 0 from hz)])), (show ¬ fstE [r.2] = 0 from (by rw [fstE_1 (show ¬ r.2 = 0 from hz)]; exact hz)), h.mu.step hb, (hb.block _ (lt_of_block (h.kt_out (bF h.b2_1 hn)))).trans (h.kt_out (bF h.b2_1 hn)), (hb.block _ (lt_of_block (h.kt_er (bF h.b3_1 hn)))).trans (h.kt_er (bF h.b3_1 hn))⟩
   ·intro L s w2 h hk hd hn
    have s2 : s 2 = _ := hk 2 (by kernel_rfl)
    have s6 := h.e1 hd.1
    have kb := h.kt_out hn
    refine sP fun K hK => ?_
    exact rs_store rfl s2 s6 (sp_store (p := 0) kb (by simp) r.1) (hK _ _ { h with mu := h.mu.put (List.Mem.head _) _, kt_er := fun a => (World.putObj_heap_other (by omega)).trans (h.kt_er a), kr_er := fun a => (World.putObj_heap_other (by omega)).trans (h.kr_er a), kt_out := nF, kr_out := fun _ => pH kb, b2_1 := fun _ => hd.1 })
   ·intro L s w2 h hk hd hn
    have s3 : s 3 = _ := hk 3 (by kernel_rfl)
    have kb := h.kt_er hn
    refine sP fun K hK => ?_
    exact rs_store rfl s3 rfl (e_store kb) (hK _ _ { h with mu := h.mu.put (List.Mem.tail _ (List.Mem.head _)) _, kt_out := fun a => (World.putObj_heap_other (by omega)).trans (h.kt_out a), kr_out := fun a => (World.putObj_heap_other (by omega)).trans (h.kr_out a), kt_er := nF, kr_er := fun _ => pH kb, b3_1 := fun _ => hd.2.2.1 })
  ·intro L s w2 h hk hl
   refine cA ?_ (hQ2 s w2 (⟨h.mu, h.kr_out (hl 2 (by decide)), h.kr_er (hl 3 (by decide)), h.z1 (hl 1 (by decide))⟩))
   exact frame_eq hk (by kernel_rfl) (by kernel_rfl)
  ·intro c s w2 hk hc
   refine (congrArg (fun a => Q2 (.panic c) a w2) (?_ : _ = _)).mpr (hP2 c s w2 hc)
   exact frame_eq hk (by kernel_rfl) (by kernel_rfl)
 ·rintro s2 V2 ⟨h1, h2, h3, hz⟩
  simp only [mergeL]
  refine HK2.out _ _ ?_
  refine wp_ret ?_
  have hB := (HM.out.stepM h1 (by have := HBW.out; intro x hx; simp at hx; right; omega)).to0
  rw [HBW.out] at hB
  refine leaves_cons (f := 71) (args := #[.pointer (some ⟨b, 0, none⟩), .pointer (some ⟨b + 1, 0, none⟩)]) (by simp) (by simp [go_sem]) ?_
  refine (catch_idle_s _ _ _).mono ?_
  rintro e u' w'' ⟨rfl, rfl, rfl⟩
  exact ⟨_, res_two Tryz.results32 rfl rfl (sp_loadVar h2) (e_loadVar h3), by rw [orZ_0 hz, hz], hB⟩
 ·rintro c s2 w' ⟨rfl, hz, h2, h3, h4⟩
  simp only [mergeL]
  rw [fstE_one] at hz ⊢
  have hB := (HM.out.stepM h2 (by have := HBW.out; intro x hx; simp at hx; right; omega)).to0
  rw [HBW.out] at hB
  refine leaves_cons (f := 71) (args := #[.pointer (some ⟨b, 0, none⟩), .pointer (some ⟨b + 1, 0, none⟩)]) (by simp [brk]) (by simp [go_sem]) ?_
  refine (catch_s b (b + 1) r.2 0 _ w' h3 h4 (by omega)).mono ?_
  rintro e u' w'' ⟨rfl, rfl, ho, hq, hm⟩
  exact ⟨_, res_two Tryz.results32 rfl rfl (sp_loadVar ho) (e_loadVar hq), by rw [orZ_1 hz], hB.trans (hm.below (by have := hB.size; have := lt_of_block h3; omega) (by intro x hx; simp at hx; omega))⟩
end Go.Proofs.YthhkcfpljgdnhaaGreat
