/- Package taylor: sweep. Printed by wip/genTD.py. -/
import Derived.Test.YthhkcfpljgdnhaaGreatTayR
import Derived.Test.YthhkcfpljgdnhaaGreatTayE
namespace Go.Proofs.YthhkcfpljgdnhaaGreat
open Go.RowKit Mnc
attribute [local go_sem] RunSP_value RunSP_skip RunSP_enter evS_tmp evS_const evS_global evS_func
attribute [local go_sem] Oper.semAt_some
/-- The number of the pair (i, s - i). -/
def tIdx (s i : Nat) : Nat := s * (s + 1) / 2 + i
theorem tIdx_drop : ∀ s i : Fin 6, i.1 ≤ s.1 → tPairs.drop (tIdx s.1 i.1) = (i.1, s.1 - i.1) :: tPairs.drop (tIdx s.1 i.1 + 1) := by decide
theorem tIdx_lt : ∀ s i : Fin 6, i.1 ≤ s.1 → tIdx s.1 i.1 < 21 := by decide
theorem tIdx_next : ∀ s : Fin 6, tIdx s.1 (s.1 + 1) = tIdx (s.1 + 1) 0 := by decide
structure Sw5 (W : World) (b : Nat) (a : List (Int × Int)) (t : Int × Int) (p i j : Nat) (L : Nat → Bool) (s : Nat → Value) (w : World) : Prop where
 mu : Mut [b + 1 + 1] W w
 kt_t : L 11 = false → w.heap[b + 1 + 1]? = some (cobj 90 ([t]))
 kr_t : L 11 = true → w.heap[b + 1 + 1]? = some (cobj 90 ([(sAdd t (sMul (tAt a p) (tReach i j)).1).1]))
 e0 : L 0 = true → s 9 = .int .i64 ((p : Nat) : Int)
 e1 : L 1 = true → s 10 = .pointer (some ⟨b, 0, none⟩)
 e2 : L 2 = true → s 11 = .pointer (some ⟨b, p * 2, none⟩)
 e3 : L 3 = true → s 12 = sval (tAt a p)
 e4 : L 4 = true → s 13 = .int .i64 ((i : Nat) : Int)
 e5 : L 5 = true → s 14 = .int .i64 ((j : Nat) : Int)
 e6 : L 6 = true → s 15 = sval ((tReach (i) (j)))
 e7 : L 7 = true → s 16 = .tuple #[sval ((sMul (tAt a p) ((tReach (i) (j))))).1, .int .i64 ((sMul (tAt a p) ((tReach (i) (j))))).2]
 e8 : L 8 = true → s 17 = sval (((sMul (tAt a p) ((tReach (i) (j))))).1)
 e9 : L 9 = true → s 18 = .int .i64 (((sMul (tAt a p) ((tReach (i) (j))))).2)
 z10 : L 10 = true → ((sMul (tAt a p) ((tReach (i) (j))))).2 = 0
 e10 : L 10 = true → s 19 = sval (((sMul (tAt a p) ((tReach (i) (j))))).1)
 z11 : L 11 = true → (sAdd (t) (((sMul (tAt a p) ((tReach (i) (j))))).1)).2 = 0
/-- What holds ahead of a pair. -/
structure JSw (W1 : World) (b : Nat) (a : List (Int × Int)) (s i : Nat) (t : Int × Int) (W : World) : Prop where
 mu : Mut [b + 1 + 1, b + 1 + 1 + 1] W1 W
 ht : W.heap[b + 1 + 1]? = some (cobj 90 [t])
 hp : W.heap[b + 1 + 1 + 1]? = some (iobj 3 ((tIdx s i : Nat) : Int))
 go : tSweepFrom a (tPairs.drop (tIdx s i)) (tIdx s i) t = tSweep a
theorem JSw.put {W1 : World} {b : Nat} {a : List (Int × Int)} {s i : Nat} {t : Int × Int} {W : World} (h : JSw W1 b a s i t W) (hb : b + 4 ≤ W1.heap.size) {k : Nat} (hk : W1.heap.size ≤ k) (o : Obj) : JSw W1 b a s i t (W.putObj k o) :=
 ⟨h.mu.putNew hk o, (World.putObj_heap_other (by omega)).trans h.ht, (World.putObj_heap_other (by omega)).trans h.hp, h.go⟩
theorem tSweepFrom_ok {a : List (Int × Int)} {i j p : Nat} {l : List (Nat × Nat)} {t : Int × Int} (h1 : (sMul (tAt a p) (tReach i j)).2 = 0) (h2 : (sAdd t (sMul (tAt a p) (tReach i j)).1).2 = 0) :
  tSweepFrom a ((i, j) :: l) p t = tSweepFrom a l (p + 1) (sAdd t (sMul (tAt a p) (tReach i j)).1).1 := by
 rw [tSweepFrom, thenE_ok h1, thenE_ok h2]
theorem tSweepFrom_bad {a : List (Int × Int)} {i j p : Nat} {l : List (Nat × Nat)} {t : Int × Int} (h : ¬ fstE [(sMul (tAt a p) (tReach i j)).2, (sAdd t (sMul (tAt a p) (tReach i j)).1).2] = 0) :
  (tSweepFrom a ((i, j) :: l) p t).2 = fstE [(sMul (tAt a p) (tReach i j)).2, (sAdd t (sMul (tAt a p) (tReach i j)).1).2] := by
 rw [tSweepFrom]
 by_cases h1 : (sMul (tAt a p) (tReach i j)).2 = 0
 ·rw [fstE_0 h1, fstE_one] at h ⊢
  rw [thenE_ok h1, thenE_bad h]
 ·rw [thenE_bad h1, fstE_1 h1]
set_option maxRecDepth 100000 in
set_option maxHeartbeats 2000000 in
theorem tay_sweep (a : List (Int × Int)) (ha : a.length = 22) (w : World) :
  Calls Tryz.prog 65 #[mval a] w fun e w' => Ends sval (tSweep a) e ∧ Below w.heap.size w w' := by
 have HL := lh ha
 refine (callsIn_wide (n := 5)).1 ?_
 refine callsIn_of_wpF Tryz.func65 rfl ?_
 simp only [Tryz.ntmps65, List.size_toArray, List.length_cons, List.length_nil, Nat.reduceAdd, Nat.reduceSub, Array.replicate_succ, Array.replicate_zero, List.push_toArray, List.append_toArray, List.nil_append, List.cons_append]
 refine wpF_seq (wpF_of (n := 5) ?_)
 gi_wp2_with fail
 rename_i x cs hc
 obtain rfl : (mc a).toArray = cs := Value.agg.inj hc
 clear hc
 refine wpF_seq (wpF_of (n := 5) ?_)
 gi_wp2_with fail
 refine wpF_seq (wpF_of (n := 5) ?_)
 gi_wp2_with fail
 refine wpF_seq (wpF_block ?_)
 have hS : ((((w.alloc (.cells (mc a).toArray 34)).alloc (.cells #[.int .i64 0, .int .i64 0] 31)).alloc (.cells #[.int .i64 0, .int .i64 0] 90)).alloc (.cells #[.int .i64 0] 3)).heap.size = w.heap.size + 4 := by simp
 have hA : ((((w.alloc (.cells (mc a).toArray 34)).alloc (.cells #[.int .i64 0, .int .i64 0] 31)).alloc (.cells #[.int .i64 0, .int .i64 0] 90)).alloc (.cells #[.int .i64 0] 3)).heap[w.heap.size]? = some (cobj 34 a) := heap_up _ (heap_up _ (heap_up _ (heap_at _ rfl)))
 have hR : ((((w.alloc (.cells (mc a).toArray 34)).alloc (.cells #[.int .i64 0, .int .i64 0] 31)).alloc (.cells #[.int .i64 0, .int .i64 0] 90)).alloc (.cells #[.int .i64 0] 3)).heap[w.heap.size + 1]? = some (cobj 31 [(0, 0)]) := heap_up _ (heap_up _ (heap_at _ (by simp)))
 have hT : ((((w.alloc (.cells (mc a).toArray 34)).alloc (.cells #[.int .i64 0, .int .i64 0] 31)).alloc (.cells #[.int .i64 0, .int .i64 0] 90)).alloc (.cells #[.int .i64 0] 3)).heap[w.heap.size + 1 + 1]? = some (cobj 90 [(0, 0)]) := heap_up _ (heap_at _ (by simp))
 have hP : ((((w.alloc (.cells (mc a).toArray 34)).alloc (.cells #[.int .i64 0, .int .i64 0] 31)).alloc (.cells #[.int .i64 0, .int .i64 0] 90)).alloc (.cells #[.int .i64 0] 3)).heap[w.heap.size + 1 + 1 + 1]? = some (iobj 3 ((tIdx 0 0 : Nat) : Int)) := heap_at _ (by simp)
 have hB : Below w.heap.size w ((((w.alloc (.cells (mc a).toArray 34)).alloc (.cells #[.int .i64 0, .int .i64 0] 31)).alloc (.cells #[.int .i64 0, .int .i64 0] 90)).alloc (.cells #[.int .i64 0] 3)) := below_alloc (below_alloc (below_alloc (below_alloc (Below.refl _ _) _) _) _) _
 generalize ((((w.alloc (.cells (mc a).toArray 34)).alloc (.cells #[.int .i64 0, .int .i64 0] 31)).alloc (.cells #[.int .i64 0, .int .i64 0] 90)).alloc (.cells #[.int .i64 0] 3)) = W1 at *
 generalize hb : w.heap.size = b at *
 have hS4 : b + 4 ≤ W1.heap.size := by omega
 have HS4 := lh hS4
 have HA1 := lh hA
 have HR1 := lh hR
 have HB1 := lh hB
 have HBW := lh hb
 have h00 : JSw W1 b a 0 0 (0, 0) W1 := ⟨Mut.refl _ _, hT, hP, rfl⟩
 have H0 := lh h00
 clear hA hR hT hP hB hS h00 ha hb hS4
 refine pairs_outer 5 65 Tryz.func65 rfl (fun s i W => ∃ t, JSw W1 b a s i t W) (fun _ => False) (fun c W => c = brk (tSweep a).2 ∧ ¬ (tSweep a).2 = 0 ∧ Mut [b + 1 + 1, b + 1 + 1 + 1] W1 W)
  (fun s i W k o hk ⟨t, h⟩ => ⟨t, h.put HS4.out hk o⟩) (fun W k o hk h => h) ?_ ?_ ?_ ?_ (fun W h => h.elim) ?_
 ·rintro s W hs ⟨t, h⟩
  have e := tIdx_next ⟨s, by omega⟩
  dsimp only at e
  exact ⟨t, h.mu, h.ht, by rw [← e]; exact h.hp, by rw [← e]; exact h.go⟩
 ·intro o o'
  have h := H0.out
  have hsz := HS4.out
  exact ⟨(0, 0), (h.mu.alloc _).alloc _, heap_up _ (heap_up _ h.ht), heap_up _ (heap_up _ h.hp), h.go⟩
 ·rintro l hl s i W0 hi hs ⟨t, hJ⟩ hrec
  have HJ := lh hJ
  have HLL := lh hl
  have hd := tIdx_drop ⟨s, by omega⟩ ⟨i, by omega⟩ hi
  have hlt := tIdx_lt ⟨s, by omega⟩ ⟨i, by omega⟩ hi
  dsimp only at hd hlt
  have HD := lh hd
  have HPL := lh hlt
  have HNX := lh (show tIdx s (i + 1) = tIdx s i + 1 from rfl)
  generalize hp : tIdx s i = p at *
  have HPP := lh hp
  obtain ⟨j, hj⟩ : ∃ j, s - i = j := ⟨_, rfl⟩
  rw [hj] at HD ⊢
  have hi5 : i ≤ 5 := by omega
  have hj5 : j ≤ 5 := by omega
  clear hJ hl hd hlt hrec hp hj hi hs
  refine wpF_ofR (n := 5) ?_
  gi_wp2_with fail
  refine ⟨KeepA.refl _ _, fun o => ?_⟩
  obtain ⟨W, hW⟩ : ∃ W, W = W0.putObj l (.loop o) := ⟨_, rfl⟩
  rw [← hW]
  have hJ2 : JSw W1 b a s i t W := by rw [hW]; exact HJ.out.put HS4.out HLL.out _
  clear hW
  have HA := lh (show W.heap[b]? = some (cobj 34 a) from (hJ2.mu.same b (by have := HS4.out; omega) (notin2 (by omega) (by omega))).trans HA1.out)
  have HT := lh hJ2.ht
  have HP := lh (show W.heap[b + 1 + 1 + 1]? = some (iobj 3 ((p : Nat) : Int)) by rw [← HPP.out]; exact hJ2.hp)
  have HM := lh hJ2.mu
  have HSZ := lh (show b + 4 ≤ W.heap.size from Nat.le_trans HS4.out hJ2.mu.size)
  have HGO := lh (show tSweepFrom a (tPairs.drop p) p t = tSweep a by rw [← HPP.out]; exact hJ2.go)
  clear hJ2
  refine wpF_block (wpF_seq (wpF_ofR (n := 5) ?_))
  refine wpIn_cut_mergeP [none, none, none, none, none, none, none, none, none, some 9, some 10, some 11, some 12, some 13, some 14, some 15, some 16, some 17, some 18, some 19, some 20, none, none, none, none] (fun _ w' => Mut [b + 1 + 1] W w' ∧ w'.heap[b + 1 + 1]? = some (cobj 90 ([(sAdd t (sMul (tAt a p) (tReach i j)).1).1])) ∧ ((sMul (tAt a p) ((tReach (i) (j))))).2 = 0 ∧ (sAdd (t) (((sMul (tAt a p) ((tReach (i) (j))))).1)).2 = 0) (fun ch w' => ch = brk (fstE [((sMul (tAt a p) ((tReach (i) (j))))).2, (sAdd (t) (((sMul (tAt a p) ((tReach (i) (j))))).1)).2]) ∧ ¬ fstE [((sMul (tAt a p) ((tReach (i) (j))))).2, (sAdd (t) (((sMul (tAt a p) ((tReach (i) (j))))).1)).2] = 0 ∧ Mut [b + 1 + 1] W w') ?_ ?_ ?_
  ·intro Q2 hQ2 hP2
   refine wp_region_G (b := true) (Pn := (fun ch w' => ch = brk (fstE [((sMul (tAt a p) ((tReach (i) (j))))).2, (sAdd (t) (((sMul (tAt a p) ((tReach (i) (j))))).1)).2]) ∧ ¬ fstE [((sMul (tAt a p) ((tReach (i) (j))))).2, (sAdd (t) (((sMul (tAt a p) ((tReach (i) (j))))).1)).2] = 0 ∧ Mut [b + 1 + 1] W w')) (Sw5 W b a t p i j) (by kernel_rfl) (by kernel_rfl) ?_ ?_ ?_ ?_
   ·exact ⟨Mut.start _ true _, fun _ => HT.out, nB, nB, nB, nB, nB, nB, nB, nB, nB, nB, nB, nB, nB, nB⟩
   ·refine AllSP.cons ?_ (AllSP.cons ?_ (AllSP.cons ?_ (AllSP.cons ?_ (AllSP.cons ?_ (AllSP.cons ?_ (AllSP.cons ?_ (AllSP.cons ?_ (AllSP.cons ?_ (AllSP.cons ?_ (AllSP.cons ?_ (AllSP.cons ?_ AllSP.nil)))))))))))
    ·intro L s w2 h hk hd hn
     have s4 : s 4 = _ := hk 4 (by kernel_rfl)
     have kb := ((h.mu.same _ ((Array.getElem?_eq_some_iff.1 HP.out).1) (notin1 (by have := HSZ.out; omega))).trans HP.out)
     refine sP fun K hK => ?_
     exact rs_load rfl s4 (i_load kb) (hK _ _ { h with e0 := fun _ => rfl })
    ·intro L s w2 h hk hd hn
     have s1 : s 1 = _ := hk 1 (by kernel_rfl)
     refine sP fun K hK => ?_
     exact rs_field rfl s1 (fl_model0 _ _) (hK _ _ { h with e1 := fun _ => rfl })
    ·intro L s w2 h hk hd hn
     have s10 := h.e1 hd.1
     have s9 := h.e0 hd.2.1
     refine sP fun K hK => ?_
     exact rs_index rfl s10 s9 (ix_model _ p HPL.out) (hK _ _ { h with e2 := fun _ => rfl })
    ·intro L s w2 h hk hd hn
     have s11 := h.e2 hd.1
     have kb := ((h.mu.same _ ((Array.getElem?_eq_some_iff.1 HA.out).1) (notin1 (by have := HSZ.out; omega))).trans HA.out)
     refine sP fun K hK => ?_
     exact rs_load rfl s11 (sp_load (p := p) kb (by have := HL.out; have := HPL.out; omega)) (hK _ _ { h with e3 := fun _ => rfl })
    ·intro L s w2 h hk hd hn
     have s5 : s 5 = _ := hk 5 (by kernel_rfl)
     refine sP fun K hK => ?_
     exact rs_move rfl s5 (hK _ _ { h with e4 := fun _ => rfl })
    ·intro L s w2 h hk hd hn
     have s6 : s 6 = _ := hk 6 (by kernel_rfl)
     refine sP fun K hK => ?_
     exact rs_move rfl s6 (hK _ _ { h with e5 := fun _ => rfl })
    ·intro L s w2 h hk hd hn
     have s13 := h.e4 hd.1
     have s14 := h.e5 hd.2.1
     refine sP fun K hK => ?_
     go_simp
     refine (tm_reach (i) (j) (by omega) (by omega) _).mono ?_
     rintro e w3 ⟨rfl, hb⟩
     exact .inl ⟨_, rfl, hK _ _ { h with mu := h.mu.step hb, kt_t := fun a => bk hb (h.kt_t a), kr_t := fun a => bk hb (h.kr_t a), e6 := fun _ => rfl }⟩
    ·intro L s w2 h hk hd hn
     have s12 := h.e3 hd.1
     have s15 := h.e6 hd.2.1
     refine sP fun K hK => ?_
     go_simp
     refine (tm_mul (tAt a p) ((tReach (i) (j))) _).mono ?_
     rintro e w3 ⟨rfl, hb⟩
     exact .inl ⟨_, rfl, hK _ _ { h with mu := h.mu.step hb, kt_t := fun a => bk hb (h.kt_t a), kr_t := fun a => bk hb (h.kr_t a), e7 := fun _ => rfl }⟩
    ·intro L s w2 h hk hd hn
     have s16 := h.e7 hd.1
     refine sP fun K hK => ?_
     exact rs_extract rfl s16 rfl (hK _ _ { h with e8 := fun _ => rfl })
    ·intro L s w2 h hk hd hn
     have s16 := h.e7 hd.1
     refine sP fun K hK => ?_
     exact rs_extract rfl s16 rfl (hK _ _ { h with e9 := fun _ => rfl })
    ·intro L s w2 h hk hd hn
     have s17 := h.e8 hd.1
     have s18 := h.e9 hd.2.1
     refine sP fun K hK => ?_
     go_simp
     refine (tm_must (((sMul (tAt a p) ((tReach (i) (j))))).1) (((sMul (tAt a p) ((tReach (i) (j))))).2) _).mono ?_
     rintro e w3 ⟨⟨hz, rfl⟩ | ⟨hz, rfl⟩, hb⟩
     ·exact .inl ⟨_, rfl, hK _ _ { h with mu := h.mu.step hb, kt_t := fun a => bk hb (h.kt_t a), kr_t := fun a => bk hb (h.kr_t a), e10 := fun _ => rfl, z10 := fun _ => hz }⟩
     ·exact .inr ⟨_, rfl, congrArg brk (show ((sMul (tAt a p) ((tReach (i) (j))))).2 = fstE [((sMul (tAt a p) ((tReach (i) (j))))).2, (sAdd (t) (((sMul (tAt a p) ((tReach (i) (j))))).1)).2] from (by rw [fstE_1 (show ¬ ((sMul (tAt a p) ((tReach (i) (j))))).2 = 0 from hz)])), (show ¬ fstE [((sMul (tAt a p) ((tReach (i) (j))))).2, (sAdd (t) (((sMul (tAt a p) ((tReach (i) (j))))).1)).2] = 0 from (by rw [fstE_1 (show ¬ ((sMul (tAt a p) ((tReach (i) (j))))).2 = 0 from hz)]; exact hz)), h.mu.step hb⟩
    ·intro L s w2 h hk hd hn
     have s3 : s 3 = _ := hk 3 (by kernel_rfl)
     have s19 := h.e10 hd.1
     have kb := h.kt_t hn
     refine sP fun K hK => ?_
     go_simp
     refine (tm_grow (b + 1 + 1) _ [t] (0) (by simp) (((sMul (tAt a p) ((tReach (i) (j))))).1) _ kb).mono ?_
     rintro e w3 ⟨⟨hz, ⟨v, rfl⟩, hkr⟩ | ⟨hz, rfl⟩, hb⟩
     ·exact .inl ⟨_, rfl, hK _ _ { h with mu := h.mu.stepM hb (by intro x hx; rw [List.mem_singleton.1 hx]; exact .inl (List.Mem.head _)), z11 := fun _ => hz, kt_t := nF, kr_t := fun _ => hkr }⟩
     ·exact .inr ⟨_, rfl, congrArg brk (show (sAdd (t) (((sMul (tAt a p) ((tReach (i) (j))))).1)).2 = fstE [((sMul (tAt a p) ((tReach (i) (j))))).2, (sAdd (t) (((sMul (tAt a p) ((tReach (i) (j))))).1)).2] from (by rw [fstE_0 (show ((sMul (tAt a p) ((tReach (i) (j))))).2 = 0 from h.z10 hd.1), fstE_1 (show ¬ (sAdd (t) (((sMul (tAt a p) ((tReach (i) (j))))).1)).2 = 0 from hz)])), (show ¬ fstE [((sMul (tAt a p) ((tReach (i) (j))))).2, (sAdd (t) (((sMul (tAt a p) ((tReach (i) (j))))).1)).2] = 0 from (by rw [fstE_0 (show ((sMul (tAt a p) ((tReach (i) (j))))).2 = 0 from h.z10 hd.1), fstE_1 (show ¬ (sAdd (t) (((sMul (tAt a p) ((tReach (i) (j))))).1)).2 = 0 from hz)]; exact hz)), h.mu.stepM hb (by intro x hx; rw [List.mem_singleton.1 hx]; exact .inl (List.Mem.head _))⟩
   ·intro L s w2 h hk hl
    refine cA ?_ (hQ2 s w2 (⟨h.mu, h.kr_t (hl 11 (by decide)), h.z10 (hl 10 (by decide)), h.z11 (hl 11 (by decide))⟩))
    exact frame_eq hk (by kernel_rfl) (by kernel_rfl)
   ·intro c s w2 hc
    exact hP2 _ _ _ hc
  ·rintro s' wc ⟨h1, h2, h3, h4⟩
   simp only [mergeL]
   have HP2 := (h1.same _ (by have := HSZ.out; omega) (notin1 (by omega))).trans HP.out
   have c0 := cell_of_one HP2
   have f0 : wc.frozen? ⟨b + 1 + 1 + 1, 0, none⟩ = false := by simp [World.frozen?, HP2, iobj]
   have H1 := lh h1
   have H2 := lh h2
   have H3 := lh h3
   have H4 := lh h4
   have HC := lh HP2
   clear h1 h2 h3 h4 HP2
   have hp0 : (0 : Int) ≤ (p : Int) := by omega
   have hp1 : (p : Int) ≤ 20 := by have := HPL.out; omega
   refine wpF_ofR (n := 5) ?_
   gi_wp2_with fail
   rw [show wc.setCell ⟨b + 1 + 1 + 1, 0, none⟩ (.int .i64 ((p : Int) + 1)) = wc.putObj (b + 1 + 1 + 1) (iobj 3 ((p + 1 : Nat) : Int)) from setCell_put HC.out 0 _]
   have hmu : Mut [b + 1 + 1, b + 1 + 1 + 1] W (wc.putObj (b + 1 + 1 + 1) (iobj 3 ((p + 1 : Nat) : Int))) := (H1.out.up fun x hx => .inl (by simp at hx; simp [hx])).put (by simp) _
   refine ⟨hmu.keep (by have := HS4.out; intro x hx; simp at hx; omega), (sAdd t (sMul (tAt a p) (tReach i j)).1).1, HM.out.trans hmu, (World.putObj_heap_other (by omega)).trans H2.out, ?_, ?_⟩
   ·rw [HNX.out]
    exact World.putObj_heap_same (lt_of_block HC.out)
   ·rw [HNX.out, ← HGO.out, HD.out, tSweepFrom_ok H3.out H4.out]
  ·rintro c l' w' ⟨rfl, hz, h2⟩
   have hg := HGO.out
   rw [HD.out] at hg
   have he := tSweepFrom_bad (l := tPairs.drop (p + 1)) hz
   rw [hg] at he
   have h3 := h2.up (S' := [b + 1 + 1, b + 1 + 1 + 1]) fun x hx => .inl (by simp at hx; simp [hx])
   refine ⟨rfl, h3.keep (by have := HS4.out; intro x hx; simp at hx; omega), by rw [he], by rw [he]; exact hz, HM.out.trans h3⟩
 ·rintro W ⟨t, hJ⟩ hD
  have hT2 : W.heap[b + 1 + 1]? = some (.cells #[.int .i64 t.1, .int .i64 t.2] 90 (0, 0)) := hJ.ht
  have hR2 : W.heap[b + 1]? = some (.cells #[.int .i64 0, .int .i64 0] 31 (0, 0)) := (hJ.mu.same _ (by have := HS4.out; omega) (notin2 (by omega) (by omega))).trans HR1.out
  have v0 := cell_two0 hT2
  have v1 := cell_two1 hT2
  have r0 := cell_two0 hR2
  have r1 := cell_two1 hR2
  have g0 := free_two (i := 0) hR2
  have g1 := free_two (i := 1) hR2
  have HGO := lh (show tSweep a = (t, 0) from hJ.go.symm)
  have HRR := lh hR2
  have HM := lh hJ.mu
  have HD := lh hD
  have HDS := lh (lt_of_block hD)
  clear hJ hT2 hR2 hD
  show wpF _ _ _ _ _ _ _
  refine wpF_seq (wpF_of (n := 5) ?_)
  gi_wp2_with fail
  refine wpF_of (n := 5) (wpIn_ret ?_)
  rw [show (W.setCell ⟨b + 1, 0, none⟩ (.int .i64 t.1)).setCell ⟨b + 1, 1, none⟩ (.int .i64 t.2) = W.putObj (b + 1) (cobj 31 [t]) from sp_put (p := 0) (a := [(0, 0)]) HRR.out (by simp) t]
  have hK2 : (W.putObj (b + 1) (cobj 31 [t])).heap[W1.heap.size]? = some (.deferred (some [])) := (World.putObj_heap_other (by have := HS4.out; omega)).trans HD.out
  refine ⟨by simp, .inl ⟨_, _, rfl, run_takeDeferred hK2, ?_⟩⟩
  have hq : ((W.putObj (b + 1) (cobj 31 [t])).putObj W1.heap.size (.deferred none)).heap[b + 1]? = some (.cells #[.int .i64 t.1, .int .i64 t.2] 31 (0, 0)) := (World.putObj_heap_other (by have := HS4.out; omega)).trans (World.putObj_heap_same (lt_of_block HRR.out))
  have q0 := cell_two0 hq
  have q1 := cell_two1 hq
  refine ⟨sval t, ?_, .inl ⟨by rw [HGO.out], by rw [HGO.out]⟩, ?_⟩
  ·simp [results, Tryz.results65, go_sem, q0, q1, sval]
  ·refine HB1.out.trans (put_bel (put_bel (HM.out.below (by have := HS4.out; omega) (by intro x hx; simp at hx; omega)) (by omega)) (by have := HS4.out; omega))
 ·rintro c W ⟨rfl, hz, hM⟩ hD
  refine ⟨by simp, .inl ⟨_, _, rfl, run_takeDeferred hD, ?_⟩⟩
  exact ⟨.inr ⟨hz, rfl⟩, HB1.out.trans (put_bel (hM.below (by have := HS4.out; omega) (by intro x hx; simp at hx; omega)) (by have := HS4.out; omega))⟩
end Go.Proofs.YthhkcfpljgdnhaaGreat
