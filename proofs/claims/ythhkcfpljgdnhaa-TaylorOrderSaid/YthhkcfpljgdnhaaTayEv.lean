/- Package taylor: the value of a model, of right arguments. Printed by wip/genEV.py. -/
import Derived.Test.YthhkcfpljgdnhaaTayU
namespace Go.Proofs.Ythhkcfpljgdnhaa
open Go.RowKit Mnc
attribute [local go_sem] RunSP_value RunSP_skip RunSP_enter evS_tmp evS_const evS_global evS_func
attribute [local go_sem] Oper.semAt_some
/-- The value of a model, from a place on. -/
def tEvalFrom (a : List (Int × Int)) (u v : Int × Int) : List (Nat × Nat) → Nat → Int × Int → (Int × Int) × Int
  | [], _, t => (t, 0)
  | (i, j) :: l, p, t => thenE (0, 0) (sPow u i) fun x => thenE (0, 0) (sMul (tAt a p) x) fun f => thenE (0, 0) (sPow v j) fun y => thenE (0, 0) (sMul f y) fun g => thenE (0, 0) (sAdd t g) fun t => tEvalFrom a u v l (p + 1) t
def tEval (a : List (Int × Int)) (u v : Int × Int) : (Int × Int) × Int := thenE (0, 0) (tEvalFrom a u v tPairs 0 (0, 0)) fun t => sAdd t (tAt a 21)
/-- An interval within [-1, 1]. -/
def okU (u : Int × Int) : Prop := okS u ∧ -4294967296 ≤ u.1 ∧ u.2 ≤ 4294967296
/-- What is worked out of one pair. -/
def evF (a : List (Int × Int)) (u : Int × Int) (p i : Nat) : Int × Int := (sMul (tAt a p) (sPow u i).1).1
theorem tEvalFrom_ok {a : List (Int × Int)} {u v : Int × Int} {i j p : Nat} {l : List (Nat × Nat)} {t : Int × Int} (h1 : (sPow u i).2 = 0) (h2 : (sMul (tAt a p) (sPow u i).1).2 = 0) (h3 : (sPow v j).2 = 0) (h4 : (sMul (evF a u p i) (sPow v j).1).2 = 0) (h5 : (sAdd t (sMul (evF a u p i) (sPow v j).1).1).2 = 0) :
    tEvalFrom a u v ((i, j) :: l) p t = tEvalFrom a u v l (p + 1) (sAdd t (sMul (evF a u p i) (sPow v j).1).1).1 := by
  rw [tEvalFrom, thenE_ok h1, thenE_ok h2, thenE_ok h3]
  show thenE (0, 0) (sMul (evF a u p i) (sPow v j).1) _ = _
  rw [thenE_ok h4, thenE_ok h5]
theorem tEvalFrom_bad1 {a : List (Int × Int)} {u v : Int × Int} {i j p : Nat} {l : List (Nat × Nat)} {t : Int × Int} (h : ¬ fstE [(sPow u i).2, (sMul (tAt a p) (sPow u i).1).2] = 0) :
    (tEvalFrom a u v ((i, j) :: l) p t).2 = fstE [(sPow u i).2, (sMul (tAt a p) (sPow u i).1).2] := by
  rw [tEvalFrom]
  exact thenE_fstC h fun _ h => thenE_fst1 h
theorem tEvalFrom_bad2 {a : List (Int × Int)} {u v : Int × Int} {i j p : Nat} {l : List (Nat × Nat)} {t : Int × Int} (h1 : (sPow u i).2 = 0) (h2 : (sMul (tAt a p) (sPow u i).1).2 = 0) (h : ¬ fstE [(sPow v j).2, (sMul (evF a u p i) (sPow v j).1).2, (sAdd t (sMul (evF a u p i) (sPow v j).1).1).2] = 0) :
    (tEvalFrom a u v ((i, j) :: l) p t).2 = fstE [(sPow v j).2, (sMul (evF a u p i) (sPow v j).1).2, (sAdd t (sMul (evF a u p i) (sPow v j).1).1).2] := by
  rw [tEvalFrom, thenE_ok h1, thenE_ok h2]
  exact thenE_fstC h fun _ h => thenE_fstC h fun _ h => thenE_fst1 h
/-- What holds ahead of a pair. -/
structure JEv (W1 : World) (c : Nat) (a : List (Int × Int)) (u v : Int × Int) (s i : Nat) (t : Int × Int) (W : World) : Prop where
  mu : Mut [c, c + 1] W1 W
  ht : W.heap[c]? = some (cobj 80 [t])
  hp : W.heap[c + 1]? = some (iobj 3 ((tIdx s i : Nat) : Int))
  go : tEvalFrom a u v (tPairs.drop (tIdx s i)) (tIdx s i) t = tEvalFrom a u v tPairs 0 (0, 0)
theorem JEv.put {W1 : World} {c : Nat} {a : List (Int × Int)} {u v : Int × Int} {s i : Nat} {t : Int × Int} {W : World} (h : JEv W1 c a u v s i t W) (hb : c + 2 ≤ W1.heap.size) {k : Nat} (hk : W1.heap.size ≤ k) (o : Obj) : JEv W1 c a u v s i t (W.putObj k o) :=
  ⟨h.mu.putNew hk o, (World.putObj_heap_other (by omega)).trans h.ht, (World.putObj_heap_other (by omega)).trans h.hp, h.go⟩
structure Ev15 (W : World) (A U V0 b c : Nat) (a : List (Int × Int)) (u v t : Int × Int) (p i j : Nat) (L : Nat → Bool) (s : Nat → Value) (w : World) : Prop where
  mu : Mut [] W w
  e0 : L 0 = true → s 41 = .int .i64 ((p : Nat) : Int)
  e1 : L 1 = true → s 42 = .pointer (some ⟨A, 0, none⟩)
  e2 : L 2 = true → s 43 = .pointer (some ⟨A, p * 2, none⟩)
  e3 : L 3 = true → s 44 = sval (tAt a p)
  e4 : L 4 = true → s 45 = sval u
  e5 : L 5 = true → s 46 = .int .i64 ((i : Nat) : Int)
  e6 : L 6 = true → s 47 = .tuple #[sval ((sPow (u) (i))).1, .int .i64 ((sPow (u) (i))).2]
  e7 : L 7 = true → s 48 = sval (((sPow (u) (i))).1)
  e8 : L 8 = true → s 49 = .int .i64 (((sPow (u) (i))).2)
  z9 : L 9 = true → ((sPow (u) (i))).2 = 0
  e9 : L 9 = true → s 50 = sval (((sPow (u) (i))).1)
  e10 : L 10 = true → s 51 = .tuple #[sval ((sMul (tAt a p) (((sPow (u) (i))).1))).1, .int .i64 ((sMul (tAt a p) (((sPow (u) (i))).1))).2]
  e11 : L 11 = true → s 52 = sval (((sMul (tAt a p) (((sPow (u) (i))).1))).1)
  e12 : L 12 = true → s 53 = .int .i64 (((sMul (tAt a p) (((sPow (u) (i))).1))).2)
  z13 : L 13 = true → ((sMul (tAt a p) (((sPow (u) (i))).1))).2 = 0
  e13 : L 13 = true → s 54 = sval (((sMul (tAt a p) (((sPow (u) (i))).1))).1)
  al_f : L 14 = true → ∃ g : Nat, s 11 = .pointer (some ⟨g, 0, none⟩) ∧ W.heap.size ≤ g ∧ g < w.heap.size ∧ (L 15 = false → w.heap[g]? = some (cobj 25 [(0, 0)])) ∧ (L 15 = true → w.heap[g]? = some (cobj 25 [(sMul (tAt a p) (sPow u i).1).1]))
  q11_9 : L 11 = true → ((sPow (u) (i))).2 = 0
  q10_9 : L 10 = true → ((sPow (u) (i))).2 = 0
  b15_14 : L 15 = true → L 14 = true
structure Ev16 (WC : World) (A U V0 b c : Nat) (a : List (Int × Int)) (u v t : Int × Int) (p i j : Nat) (g : Nat) (f : Int × Int) (L : Nat → Bool) (s : Nat → Value) (w : World) : Prop where
  mu : Mut [c] WC w
  kt_t : L 11 = false → w.heap[c]? = some (cobj 80 ([t]))
  kr_t : L 11 = true → w.heap[c]? = some (cobj 80 ([(sAdd t (sMul f (sPow v j).1).1).1]))
  e0 : L 0 = true → s 55 = sval f
  e1 : L 1 = true → s 56 = sval v
  e2 : L 2 = true → s 57 = .int .i64 ((j : Nat) : Int)
  e3 : L 3 = true → s 58 = .tuple #[sval ((sPow (v) (j))).1, .int .i64 ((sPow (v) (j))).2]
  e4 : L 4 = true → s 59 = sval (((sPow (v) (j))).1)
  e5 : L 5 = true → s 60 = .int .i64 (((sPow (v) (j))).2)
  z6 : L 6 = true → ((sPow (v) (j))).2 = 0
  e6 : L 6 = true → s 61 = sval (((sPow (v) (j))).1)
  e7 : L 7 = true → s 62 = .tuple #[sval ((sMul (f) (((sPow (v) (j))).1))).1, .int .i64 ((sMul (f) (((sPow (v) (j))).1))).2]
  e8 : L 8 = true → s 63 = sval (((sMul (f) (((sPow (v) (j))).1))).1)
  e9 : L 9 = true → s 64 = .int .i64 (((sMul (f) (((sPow (v) (j))).1))).2)
  z10 : L 10 = true → ((sMul (f) (((sPow (v) (j))).1))).2 = 0
  e10 : L 10 = true → s 65 = sval (((sMul (f) (((sPow (v) (j))).1))).1)
  z11 : L 11 = true → (sAdd (t) (((sMul (f) (((sPow (v) (j))).1))).1)).2 = 0
  q8_6 : L 8 = true → ((sPow (v) (j))).2 = 0
  q10_6 : L 10 = true → ((sPow (v) (j))).2 = 0
  q7_6 : L 7 = true → ((sPow (v) (j))).2 = 0
structure Ev18 (W : World) (A c : Nat) (a : List (Int × Int)) (t : Int × Int) (L : Nat → Bool) (s : Nat → Value) (w : World) : Prop where
  mu : Mut [c] W w
  kt_t : L 2 = false → w.heap[c]? = some (cobj 80 ([t]))
  kr_t : L 2 = true → w.heap[c]? = some (cobj 80 ([(sAdd t (tAt a 21)).1]))
  e0 : L 0 = true → s 69 = .pointer (some ⟨A, 21 * 2, none⟩)
  e1 : L 1 = true → s 70 = sval (tAt a 21)
  z2 : L 2 = true → (sAdd (t) (tAt a 21)).2 = 0
structure Ev1 (V : World) (A b : Nat) (a : List (Int × Int)) (L : Nat → Bool) (s : Nat → Value) (w : World) : Prop where
  mu : Mut [] V w
  e0 : L 0 = true → s 12 = mval a
  nb : L 1 = true → ∃ q : Nat, s 13 = .slice (some ⟨q, 0, none⟩) 1 1 ∧ w.heap[q]? = some (cobj 28 (a))
  z2 : L 2 = true → (tRight (a)).2 = 0
set_option maxRecDepth 100000 in
set_option maxHeartbeats 4000000 in
theorem tay_eval1 (A U V0 : Nat) (a : List (Int × Int)) (u v : Int × Int) (ha : a.length = 22) (hr : (tRight a).2 = 0) (hu : okU u) (hv : okU v) (w : World) (h : w.heap[A]? = some (cobj 28 a)) (hU : w.heap[U]? = some (cobj 25 [u])) (hV : w.heap[V0]? = some (cobj 25 [v])) :
    Calls Try.prog 48 #[.pointer (some ⟨A, 0, none⟩), .pointer (some ⟨U, 0, none⟩), .pointer (some ⟨V0, 0, none⟩)] w fun e w' => Ends sval (tEval a u v) e ∧ Below w.heap.size w w' := by
  have HL := Lib.hid ha
  have HRI := Lib.hid hr
  have HU := Lib.hid hu
  have HV := Lib.hid hv
  refine (callsIn_wide (n := 5)).1 ?_
  refine callsIn_of_wpF Try.func48 rfl ?_
  simp only [Try.ntmps48, List.size_toArray, List.length_cons, List.length_nil, Nat.reduceAdd, Nat.reduceSub, Array.replicate_succ, Array.replicate_zero, List.push_toArray, List.append_toArray, List.nil_append, List.cons_append]
  refine wpF_seq (wpF_of (n := 5) ?_)
  gi_wp2_with fail
  obtain ⟨b, hb⟩ : ∃ b, w.heap.size = b := ⟨_, rfl⟩
  refine wpF_world (fun V => Mut [] w V ∧ b + 1 ≤ V.heap.size ∧ V.heap[A]? = some (cobj 28 a) ∧ V.heap[U]? = some (cobj 25 [u]) ∧ V.heap[V0]? = some (cobj 25 [v]) ∧ V.heap[b]? = some (cobj 25 [(0, 0)])) ?_
    (by
      rw [← hb]
      exact ⟨(Mut.refl _ _).alloc _, by simp, heap_up _ h, heap_up _ hU, heap_up _ hV, heap_at (cobj 25 [(0, 0)]) (by simp)⟩)
  rintro V ⟨hm, hs, hA, hU2, hV2, hR⟩
  have HLT := Lib.hid (show A < b ∧ U < b ∧ V0 < b from ⟨hb ▸ lt_of_block h, hb ▸ lt_of_block hU, hb ▸ lt_of_block hV⟩)
  have HM := Lib.hid hm
  have HBW := Lib.hid hb
  have HS := Lib.hid hs
  have HA := Lib.hid hA
  have HUB := Lib.hid hU2
  have HVB := Lib.hid hV2
  have HR := Lib.hid hR
  clear h hU hV ha hr hu hv hm hs hA hU2 hV2 hR
  rw [hb]
  clear hb
  refine wpF_seq (wpF_of (n := 5) ?_)
  refine wpIn_cut_mergeP [none, none, none, none, none, none, none, none, none, none, none, none, some 12, some 13, some 14, none, none, none, none, none, none, none, none, none, none, none, none, none, none, none, none, none, none, none, none, none, none, none, none, none, none, none, none, none, none, none, none, none, none, none, none, none, none, none, none, none, none, none, none, none, none, none, none, none, none, none, none, none, none, none, none, none, none, none] (fun _ w' => Mut [] V w' ∧ (tRight (a)).2 = 0) (fun ch w' => ch = brk (fstE [(tRight (a)).2]) ∧ ¬ fstE [(tRight (a)).2] = 0 ∧ Mut [] V w') ?_ ?_ ?_
  · intro Q2 hQ2 hP2
    refine wp_region_G (b := false) (Pn := (fun ch w' => ch = brk (fstE [(tRight (a)).2]) ∧ ¬ fstE [(tRight (a)).2] = 0 ∧ Mut [] V w')) (Ev1 V A b a) (by kernel_rfl) (by kernel_rfl) ?_ ?_ ?_ ?_
    · exact ⟨Mut.start _ false _, fun h => absurd h Bool.false_ne_true, fun h => absurd h Bool.false_ne_true, fun h => absurd h Bool.false_ne_true⟩
    · refine AllSP.cons ?_ (AllSP.cons ?_ (AllSP.cons ?_ AllSP.nil))
      · intro L s w2 h hk hd hn
        have s0 : s 0 = _ := hk 0 (by kernel_rfl)
        have kb := ((h.mu.same _ ((Array.getElem?_eq_some_iff.1 HA.out).1) (by simp)).trans HA.out)
        refine stepSP rfl fun K hK => ?_
        exact rs_load rfl s0 (md_load kb HL.out) (hK _ _ { h with e0 := fun _ => rfl })
      · intro L s w2 h hk hd hn
        have s12 := h.e0 hd.1
        refine stepSP rfl fun K hK => ?_
        exact rs_build rfl (by simp [evS_tmp, s12]) (bs_one HL.out _) (hK _ _ { h with mu := h.mu.alloc _, nb := fun _ => ⟨_, rfl, heap_at _ rfl⟩ })
      · intro L s w2 h hk hd hn
        obtain ⟨q, s13, hq⟩ := h.nb hd.1
        refine stepSP rfl fun K hK => ?_
        go_simp
        refine (tm_right (a) 1 (by simp [HL.out]) (by omega) q 1 _ hq).mono ?_
        rintro e w3 ⟨⟨hz, v, rfl⟩ | ⟨hz, rfl⟩, hb⟩
        · exact .inl ⟨_, rfl, hK _ _ { h with mu := h.mu.step hb, nb := fun a => let ⟨q, h1, h2⟩ := h.nb a; ⟨q, h1, (hb.block _ (lt_of_block h2)).trans h2⟩, z2 := fun _ => hz }⟩
        · exact .inr ⟨_, rfl, congrArg brk (show (tRight (a)).2 = fstE [(tRight (a)).2] from (by rw [fstE_1 (show ¬ (tRight (a)).2 = 0 from hz)])), (show ¬ fstE [(tRight (a)).2] = 0 from (by rw [fstE_1 (show ¬ (tRight (a)).2 = 0 from hz)]; exact hz)), h.mu.step hb⟩
    · intro L s w2 h hk hl
      refine (congrArg (fun a => Q2 .normal a w2) (?_ : _ = _)).mpr (hQ2 s w2 (⟨h.mu, h.z2 (hl 2 (by decide))⟩))
      exact frame_eq hk (by kernel_rfl) (by kernel_rfl)
    · intro c s w2 hc
      exact hP2 _ _ _ hc
  rotate_left
  · rintro c l' w' ⟨rfl, hz, h2⟩
    rw [fstE_one] at hz
    exact absurd HRI.out hz
  rintro s1 V1 ⟨h1, z1⟩
  simp only [mergeL]
  replace HA := Lib.hid ((h1.same _ (lt_of_block HA.out) (by simp)).trans HA.out)
  replace HUB := Lib.hid ((h1.same _ (lt_of_block HUB.out) (by simp)).trans HUB.out)
  replace HVB := Lib.hid ((h1.same _ (lt_of_block HVB.out) (by simp)).trans HVB.out)
  replace HR := Lib.hid ((h1.same _ (lt_of_block HR.out) (by simp)).trans HR.out)
  replace HS := Lib.hid (Nat.le_trans HS.out h1.size)
  replace HM := Lib.hid (HM.out.trans h1)
  clear h1 z1
  show wpF _ _ _ _ _ _ _
  refine wpF_seq (wpF_of (n := 5) ?_)
  have u0 := cell_two0 HUB.out
  have u1 := cell_two1 HUB.out
  have v0 := cell_two0 HVB.out
  have v1 := cell_two1 HVB.out
  gi_wp2_with fail
  clear u0 u1 v0 v1
  gi_loopw [18] (fun x wr => ∃ k : Nat, k ≤ 2 ∧ x = .int .i64 k ∧ Hid (Mut [] V1 wr)) (fun x _ => 2 - (intOf x).toNat)
  case atStart => exact ⟨0, by omega, rfl, Lib.hid (Mut.refl _ _)⟩
  case round =>
    obtain ⟨k, hk, rfl, HW⟩ := hrel
    obtain rfl | rfl | rfl : k = 0 ∨ k = 1 ∨ k = 2 := by omega
    · have hix : ∀ W, (Instr.index 77 (.agg #[.int .i64 u.1, .int .i64 u.2, .int .i64 v.1, .int .i64 v.2]) (.int .i64 0)).run Try.prog W = .ok (.agg #[.int .i64 u.1, .int .i64 u.2]) W := fun _ => by kernel_rfl
      have hlo : decide (u.1 < -4294967296) = false := by have := HU.out.2.1; simp; omega
      have hhi : decide (4294967296 < u.2) = false := by have := HU.out.2.2; simp; omega
      gi_wp2_with fail
      refine ⟨trivial, (callsIn_wide.2 (span_Check_ok HU.out.1 _)).mono ?_⟩; rintro e w1 ⟨rfl, hb⟩
      have hB : w1.heap[wr.heap.size]? = some (cobj 25 [u]) := (hb.block _ (by simp)).trans (heap_at (cobj 25 [u]) (by simp))
      have c0 := cell_two0 hB
      have c1 := cell_two1 hB
      have HF := Lib.hid (show Mut [] V1 w1 from (HW.out.alloc _).step hb)
      clear hB hb
      gi_wp2_with fail
      go_roundw
      case rel => first | exact ⟨0 + 1, by omega, by go_num, HF⟩ | ((repeat apply Exists.intro); exact ⟨⟨0 + 1, by omega, by go_num, HF⟩, rfl⟩)
      case measure => simp [intOf]
    · have hix : ∀ W, (Instr.index 77 (.agg #[.int .i64 u.1, .int .i64 u.2, .int .i64 v.1, .int .i64 v.2]) (.int .i64 1)).run Try.prog W = .ok (.agg #[.int .i64 v.1, .int .i64 v.2]) W := fun _ => by kernel_rfl
      have hlo : decide (v.1 < -4294967296) = false := by have := HV.out.2.1; simp; omega
      have hhi : decide (4294967296 < v.2) = false := by have := HV.out.2.2; simp; omega
      gi_wp2_with fail
      refine ⟨trivial, (callsIn_wide.2 (span_Check_ok HV.out.1 _)).mono ?_⟩; rintro e w1 ⟨rfl, hb⟩
      have hB : w1.heap[wr.heap.size]? = some (cobj 25 [v]) := (hb.block _ (by simp)).trans (heap_at (cobj 25 [v]) (by simp))
      have c0 := cell_two0 hB
      have c1 := cell_two1 hB
      have HF := Lib.hid (show Mut [] V1 w1 from (HW.out.alloc _).step hb)
      clear hB hb
      gi_wp2_with fail
      go_roundw
      case rel => first | exact ⟨1 + 1, by omega, by go_num, HF⟩ | ((repeat apply Exists.intro); exact ⟨⟨1 + 1, by omega, by go_num, HF⟩, rfl⟩)
      case measure => simp [intOf]
    · gi_wp2_with fail
      show wpF _ _ _ _ _ _ _
      have HM2 := Lib.hid (HM.out.trans HW.out)
      have HA2 := Lib.hid ((HW.out.same _ (lt_of_block HA.out) (by simp)).trans HA.out)
      have HUB2 := Lib.hid ((HW.out.same _ (lt_of_block HUB.out) (by simp)).trans HUB.out)
      have HVB2 := Lib.hid ((HW.out.same _ (lt_of_block HVB.out) (by simp)).trans HVB.out)
      have HR2 := Lib.hid ((HW.out.same _ (lt_of_block HR.out) (by simp)).trans HR.out)
      have HS2 := Lib.hid (Nat.le_trans HS.out HW.out.size)
      clear HM HA HUB HVB HR HS HW hk
      refine wpF_seq (wpF_of (n := 5) ?_)
      gi_wp2_with fail
      refine wpF_seq (wpF_of (n := 5) ?_)
      gi_wp2_with fail
      refine wpF_seq (wpF_block ?_)
      obtain ⟨c, hc⟩ : ∃ c, wr.heap.size = c := ⟨_, rfl⟩
      refine wpF_world (fun W1 => Mut [] w W1 ∧ c + 2 ≤ W1.heap.size ∧ W1.heap[A]? = some (cobj 28 a) ∧ W1.heap[U]? = some (cobj 25 [u]) ∧ W1.heap[V0]? = some (cobj 25 [v]) ∧ W1.heap[b]? = some (cobj 25 [(0, 0)]) ∧ W1.heap[c]? = some (cobj 80 [(0, 0)]) ∧ W1.heap[c + 1]? = some (iobj 3 ((tIdx 0 0 : Nat) : Int))) ?_
        (by
          rw [← hc]
          exact ⟨(HM2.out.alloc _).alloc _, by simp, heap_up _ (heap_up _ HA2.out), heap_up _ (heap_up _ HUB2.out), heap_up _ (heap_up _ HVB2.out), heap_up _ (heap_up _ HR2.out), heap_up _ (heap_at (cobj 80 [(0, 0)]) (by simp)), heap_at _ (by simp)⟩)
      rintro W1 ⟨hm, hs, hA, hU2, hV2, hR, hT, hP⟩
      rw [hc]
      have HB1 := Lib.hid (show Below b w W1 by rw [← HBW.out]; exact hm.to0)
      have HS4 := Lib.hid hs
      replace HLT := Lib.hid (show A < b ∧ U < b ∧ V0 < b ∧ b < c by have := HLT.out; have := HS2.out; omega)
      have HA1 := Lib.hid hA
      have HUB1 := Lib.hid hU2
      have HVB1 := Lib.hid hV2
      have HR1 := Lib.hid hR
      have h00 : JEv W1 c a u v 0 0 (0, 0) W1 := ⟨Mut.refl _ _, hT, hP, rfl⟩
      have H0 := Lib.hid h00
      clear hm hs hA hU2 hV2 hR hT hP h00 HM2 HA2 HUB2 HVB2 HR2 HS2 hc
      refine pairs_outer 5 48 Try.func48 rfl (fun s i W => ∃ t, JEv W1 c a u v s i t W) (fun _ => False) (fun e W => e = brk (tEval a u v).2 ∧ ¬ (tEval a u v).2 = 0 ∧ Mut [c, c + 1] W1 W)
        (fun s i W k o hk ⟨t, h⟩ => ⟨t, h.put HS4.out hk o⟩) (fun W k o hk h => h) ?_ ?_ ?_ ?_ (fun W h => h.elim) ?_
      · rintro s W hs ⟨t, h⟩
        have e := tIdx_next ⟨s, by omega⟩
        dsimp only at e
        exact ⟨t, h.mu, h.ht, by rw [← e]; exact h.hp, by rw [← e]; exact h.go⟩
      · intro o o'
        have h := H0.out
        have hsz := HS4.out
        exact ⟨(0, 0), (h.mu.alloc _).alloc _, heap_up _ (heap_up _ h.ht), heap_up _ (heap_up _ h.hp), h.go⟩
      · rintro l hl s i W0 hi hs ⟨t, hJ⟩ hrec
        have HJ := Lib.hid hJ
        have HLL := Lib.hid hl
        have hd := tIdx_drop ⟨s, by omega⟩ ⟨i, by omega⟩ hi
        have hlt := tIdx_lt ⟨s, by omega⟩ ⟨i, by omega⟩ hi
        dsimp only at hd hlt
        have HD := Lib.hid hd
        have HPL := Lib.hid hlt
        have HNX := Lib.hid (show tIdx s (i + 1) = tIdx s i + 1 from rfl)
        generalize hp : tIdx s i = p at *
        have HPP := Lib.hid hp
        obtain ⟨j, hj⟩ : ∃ j, s - i = j := ⟨_, rfl⟩
        rw [hj] at HD ⊢
        have hi5 : i ≤ 5 := by omega
        have hj5 : j ≤ 5 := by omega
        clear hJ hl hd hlt hrec hp hj hi hs
        refine wpF_ofR (n := 5) ?_
        gi_wp2_with fail
        refine ⟨KeepA.refl _ _, fun o => ?_⟩
        obtain ⟨W, hW⟩ : ∃ W, W = W0.putObj l (.loop o) := ⟨_, rfl⟩
        rw [← hW]
        have hJ2 : JEv W1 c a u v s i t W := by rw [hW]; exact HJ.out.put HS4.out HLL.out _
        clear hW
        have HA := Lib.hid (show W.heap[A]? = some (cobj 28 a) from (hJ2.mu.same A (lt_of_block HA1.out) (by have := HLT.out; exact notin2 (by omega) (by omega))).trans HA1.out)
        have HUB := Lib.hid (show W.heap[U]? = some (cobj 25 [u]) from (hJ2.mu.same U (lt_of_block HUB1.out) (by have := HLT.out; exact notin2 (by omega) (by omega))).trans HUB1.out)
        have HVB := Lib.hid (show W.heap[V0]? = some (cobj 25 [v]) from (hJ2.mu.same V0 (lt_of_block HVB1.out) (by have := HLT.out; exact notin2 (by omega) (by omega))).trans HVB1.out)
        have HT := Lib.hid hJ2.ht
        have HP := Lib.hid (show W.heap[c + 1]? = some (iobj 3 ((p : Nat) : Int)) by rw [← HPP.out]; exact hJ2.hp)
        have HM := Lib.hid hJ2.mu
        have HSZ := Lib.hid (show c + 2 ≤ W.heap.size from Nat.le_trans HS4.out hJ2.mu.size)
        have HGO := Lib.hid (show tEvalFrom a u v (tPairs.drop p) p t = tEvalFrom a u v tPairs 0 (0, 0) by rw [← HPP.out]; exact hJ2.go)
        clear hJ2
        refine wpF_block (wpF_seq (wpF_ofR (n := 5) ?_))
        refine wpIn_cut_mergeP [none, none, none, none, none, none, none, none, none, none, none, some 11, none, none, none, none, none, none, none, none, none, none, none, none, none, none, none, none, none, none, none, none, none, none, none, none, none, none, none, none, none, some 41, some 42, some 43, some 44, some 45, some 46, some 47, some 48, some 49, some 50, some 51, some 52, some 53, some 54, none, none, none, none, none, none, none, none, none, none, none, none, none, none, none, none, none, none, none] (fun s w' => Mut [] W w' ∧ (∃ g : Nat, s 11 = .pointer (some ⟨g, 0, none⟩) ∧ W.heap.size ≤ g ∧ w'.heap[g]? = some (cobj 25 [(sMul (tAt a p) (sPow u i).1).1])) ∧ ((sPow (u) (i))).2 = 0 ∧ ((sMul (tAt a p) (((sPow (u) (i))).1))).2 = 0) (fun ch w' => ch = brk (fstE [((sPow (u) (i))).2, ((sMul (tAt a p) (((sPow (u) (i))).1))).2]) ∧ ¬ fstE [((sPow (u) (i))).2, ((sMul (tAt a p) (((sPow (u) (i))).1))).2] = 0 ∧ Mut [] W w') ?_ ?_ ?_
        · intro Q2 hQ2 hP2
          refine wp_region_G (b := true) (Pn := (fun ch w' => ch = brk (fstE [((sPow (u) (i))).2, ((sMul (tAt a p) (((sPow (u) (i))).1))).2]) ∧ ¬ fstE [((sPow (u) (i))).2, ((sMul (tAt a p) (((sPow (u) (i))).1))).2] = 0 ∧ Mut [] W w')) (Ev15 W A U V0 b c a u v t p i j) (by kernel_rfl) (by kernel_rfl) ?_ ?_ ?_ ?_
          · exact ⟨Mut.start _ true _, fun h => absurd h Bool.false_ne_true, fun h => absurd h Bool.false_ne_true, fun h => absurd h Bool.false_ne_true, fun h => absurd h Bool.false_ne_true, fun h => absurd h Bool.false_ne_true, fun h => absurd h Bool.false_ne_true, fun h => absurd h Bool.false_ne_true, fun h => absurd h Bool.false_ne_true, fun h => absurd h Bool.false_ne_true, fun h => absurd h Bool.false_ne_true, fun h => absurd h Bool.false_ne_true, fun h => absurd h Bool.false_ne_true, fun h => absurd h Bool.false_ne_true, fun h => absurd h Bool.false_ne_true, fun h => absurd h Bool.false_ne_true, fun h => absurd h Bool.false_ne_true, fun h => absurd h Bool.false_ne_true, fun h => absurd h Bool.false_ne_true, fun h => absurd h Bool.false_ne_true, fun h => absurd h Bool.false_ne_true⟩
          · refine AllSP.cons ?_ (AllSP.cons ?_ (AllSP.cons ?_ (AllSP.cons ?_ (AllSP.cons ?_ (AllSP.cons ?_ (AllSP.cons ?_ (AllSP.cons ?_ (AllSP.cons ?_ (AllSP.cons ?_ (AllSP.cons ?_ (AllSP.cons ?_ (AllSP.cons ?_ (AllSP.cons ?_ (AllSP.cons ?_ (AllSP.cons ?_ AllSP.nil)))))))))))))))
            · intro L s w2 h hk hd hn
              have s8 : s 8 = _ := hk 8 (by kernel_rfl)
              have kb := ((h.mu.same _ ((Array.getElem?_eq_some_iff.1 HP.out).1) (by simp)).trans HP.out)
              refine stepSP rfl fun K hK => ?_
              exact rs_load rfl s8 (i_load kb) (hK _ _ { h with e0 := fun _ => rfl })
            · intro L s w2 h hk hd hn
              have s0 : s 0 = _ := hk 0 (by kernel_rfl)
              refine stepSP rfl fun K hK => ?_
              exact rs_field rfl s0 (fl_model0 _ _) (hK _ _ { h with e1 := fun _ => rfl })
            · intro L s w2 h hk hd hn
              have s42 := h.e1 hd.1
              have s41 := h.e0 hd.2.1
              refine stepSP rfl fun K hK => ?_
              exact rs_index rfl s42 s41 (ix_model _ p HPL.out) (hK _ _ { h with e2 := fun _ => rfl })
            · intro L s w2 h hk hd hn
              have s43 := h.e2 hd.1
              have kb := ((h.mu.same _ ((Array.getElem?_eq_some_iff.1 HA.out).1) (by simp)).trans HA.out)
              refine stepSP rfl fun K hK => ?_
              exact rs_load rfl s43 (sp_load (p := p) kb (by have := HL.out; have := HPL.out; omega)) (hK _ _ { h with e3 := fun _ => rfl })
            · intro L s w2 h hk hd hn
              have s1 : s 1 = _ := hk 1 (by kernel_rfl)
              have kb := ((h.mu.same _ ((Array.getElem?_eq_some_iff.1 HUB.out).1) (by simp)).trans HUB.out)
              refine stepSP rfl fun K hK => ?_
              exact rs_load rfl s1 (sp_load (p := 0) kb (by simp)) (hK _ _ { h with e4 := fun _ => rfl })
            · intro L s w2 h hk hd hn
              have s9 : s 9 = _ := hk 9 (by kernel_rfl)
              refine stepSP rfl fun K hK => ?_
              exact rs_move rfl s9 (hK _ _ { h with e5 := fun _ => rfl })
            · intro L s w2 h hk hd hn
              have s45 := h.e4 hd.1
              have s46 := h.e5 hd.2.1
              refine stepSP rfl fun K hK => ?_
              go_simp
              refine (tm_pow (u) (i) _).mono ?_
              rintro e w3 ⟨rfl, hb⟩
              exact .inl ⟨_, rfl, hK _ _ { h with mu := h.mu.step hb, al_f := fun a => let ⟨g, h0, h1, hl, h2, h3⟩ := h.al_f a; ⟨g, h0, h1, Nat.lt_of_lt_of_le hl hb.size, fun c => (hb.block _ (lt_of_block (h2 c))).trans (h2 c), fun c => (hb.block _ (lt_of_block (h3 c))).trans (h3 c)⟩, e6 := fun _ => rfl }⟩
            · intro L s w2 h hk hd hn
              have s47 := h.e6 hd.1
              refine stepSP rfl fun K hK => ?_
              exact rs_extract rfl s47 rfl (hK _ _ { h with e7 := fun _ => rfl })
            · intro L s w2 h hk hd hn
              have s47 := h.e6 hd.1
              refine stepSP rfl fun K hK => ?_
              exact rs_extract rfl s47 rfl (hK _ _ { h with e8 := fun _ => rfl })
            · intro L s w2 h hk hd hn
              have s48 := h.e7 hd.1
              have s49 := h.e8 hd.2.1
              refine stepSP rfl fun K hK => ?_
              go_simp
              refine (tm_must (((sPow (u) (i))).1) (((sPow (u) (i))).2) _).mono ?_
              rintro e w3 ⟨⟨hz, rfl⟩ | ⟨hz, rfl⟩, hb⟩
              · exact .inl ⟨_, rfl, hK _ _ { h with mu := h.mu.step hb, al_f := fun a => let ⟨g, h0, h1, hl, h2, h3⟩ := h.al_f a; ⟨g, h0, h1, Nat.lt_of_lt_of_le hl hb.size, fun c => (hb.block _ (lt_of_block (h2 c))).trans (h2 c), fun c => (hb.block _ (lt_of_block (h3 c))).trans (h3 c)⟩, e9 := fun _ => rfl, z9 := fun _ => hz }⟩
              · exact .inr ⟨_, rfl, congrArg brk (show ((sPow (u) (i))).2 = fstE [((sPow (u) (i))).2, ((sMul (tAt a p) (((sPow (u) (i))).1))).2] from (by rw [fstE_1 (show ¬ ((sPow (u) (i))).2 = 0 from hz)])), (show ¬ fstE [((sPow (u) (i))).2, ((sMul (tAt a p) (((sPow (u) (i))).1))).2] = 0 from (by rw [fstE_1 (show ¬ ((sPow (u) (i))).2 = 0 from hz)]; exact hz)), h.mu.step hb⟩
            · intro L s w2 h hk hd hn
              have s44 := h.e3 hd.1
              have s50 := h.e9 hd.2.1
              refine stepSP rfl fun K hK => ?_
              go_simp
              refine (tm_mul (tAt a p) (((sPow (u) (i))).1) _).mono ?_
              rintro e w3 ⟨rfl, hb⟩
              exact .inl ⟨_, rfl, hK _ _ { h with mu := h.mu.step hb, al_f := fun a => let ⟨g, h0, h1, hl, h2, h3⟩ := h.al_f a; ⟨g, h0, h1, Nat.lt_of_lt_of_le hl hb.size, fun c => (hb.block _ (lt_of_block (h2 c))).trans (h2 c), fun c => (hb.block _ (lt_of_block (h3 c))).trans (h3 c)⟩, e10 := fun _ => rfl, q10_9 := fun _ => h.z9 hd.2.1 }⟩
            · intro L s w2 h hk hd hn
              have s51 := h.e10 hd.1
              refine stepSP rfl fun K hK => ?_
              exact rs_extract rfl s51 rfl (hK _ _ { h with e11 := fun _ => rfl, q11_9 := fun _ => h.q10_9 hd.1 })
            · intro L s w2 h hk hd hn
              have s51 := h.e10 hd.1
              refine stepSP rfl fun K hK => ?_
              exact rs_extract rfl s51 rfl (hK _ _ { h with e12 := fun _ => rfl })
            · intro L s w2 h hk hd hn
              have s52 := h.e11 hd.1
              have s53 := h.e12 hd.2.1
              refine stepSP rfl fun K hK => ?_
              go_simp
              refine (tm_must (((sMul (tAt a p) (((sPow (u) (i))).1))).1) (((sMul (tAt a p) (((sPow (u) (i))).1))).2) _).mono ?_
              rintro e w3 ⟨⟨hz, rfl⟩ | ⟨hz, rfl⟩, hb⟩
              · exact .inl ⟨_, rfl, hK _ _ { h with mu := h.mu.step hb, al_f := fun a => let ⟨g, h0, h1, hl, h2, h3⟩ := h.al_f a; ⟨g, h0, h1, Nat.lt_of_lt_of_le hl hb.size, fun c => (hb.block _ (lt_of_block (h2 c))).trans (h2 c), fun c => (hb.block _ (lt_of_block (h3 c))).trans (h3 c)⟩, e13 := fun _ => rfl, z13 := fun _ => hz }⟩
              · exact .inr ⟨_, rfl, congrArg brk (show ((sMul (tAt a p) (((sPow (u) (i))).1))).2 = fstE [((sPow (u) (i))).2, ((sMul (tAt a p) (((sPow (u) (i))).1))).2] from (by rw [fstE_0 (show ((sPow (u) (i))).2 = 0 from h.q11_9 hd.1), fstE_1 (show ¬ ((sMul (tAt a p) (((sPow (u) (i))).1))).2 = 0 from hz)])), (show ¬ fstE [((sPow (u) (i))).2, ((sMul (tAt a p) (((sPow (u) (i))).1))).2] = 0 from (by rw [fstE_0 (show ((sPow (u) (i))).2 = 0 from h.q11_9 hd.1), fstE_1 (show ¬ ((sMul (tAt a p) (((sPow (u) (i))).1))).2 = 0 from hz)]; exact hz)), h.mu.step hb⟩
            · intro L s w2 h hk hd hn
              refine stepSP rfl fun K hK => ?_
              go_simp
              exact hK _ _ { h with mu := h.mu.alloc _, al_f := fun _ => ⟨_, rfl, h.mu.size, by simp, fun _ => heap_at _ rfl, fun a => absurd (h.b15_14 a) (by rw [hn]; exact Bool.false_ne_true)⟩, b15_14 := fun _ => rfl }
            · intro L s w2 h hk hd hn
              have s54 := h.e13 hd.2.1
              obtain ⟨g, hg0, hg1, hgl, hg2, hg3⟩ := h.al_f hd.1
              have kb := hg2 hn
              refine stepSP rfl fun K hK => ?_
              exact rs_store rfl hg0 s54 (sp_store (p := 0) kb (by simp) ((sMul (tAt a p) (sPow u i).1).1)) (hK _ _ { h with mu := h.mu.putNew hg1 _, al_f := fun a => ⟨g, hg0, hg1, by simpa using hgl, nF, fun _ => pH kb⟩, b15_14 := fun _ => hd.1 })
          · intro L s w2 h hk hl
            refine (congrArg (fun a => Q2 .normal a w2) (?_ : _ = _)).mpr (hQ2 s w2 (⟨h.mu, (let ⟨g, h0, h1, _, _, h3⟩ := h.al_f (hl 14 (by decide)); ⟨g, h0, h1, h3 (hl 15 (by decide))⟩), h.z9 (hl 9 (by decide)), h.z13 (hl 13 (by decide))⟩))
            exact frame_eq hk (by kernel_rfl) (by kernel_rfl)
          · intro c s w2 hc
            exact hP2 _ _ _ hc
        rotate_left
        · rintro e l' w' ⟨rfl, hz, h2⟩
          have hg := HGO.out
          rw [HD.out] at hg
          have he := tEvalFrom_bad1 (l := tPairs.drop (p + 1)) (v := v) (j := j) (t := t) hz
          rw [hg] at he
          have h3 := h2.up (S' := [c, c + 1]) (by simp)
          have hE : (tEval a u v).2 = (tEvalFrom a u v tPairs 0 (0, 0)).2 := by
            unfold tEval
            rw [thenE_bad (by rw [he]; exact hz)]
          refine ⟨rfl, h3.keep (by have := HS4.out; intro x hx; simp at hx; omega), by rw [hE, he], by rw [hE, he]; exact hz, HM.out.trans h3⟩
        rintro s15 WC ⟨h1, ⟨g, k11, hg1, hgf⟩, z1, z2⟩
        simp only [mergeL]
        rw [k11]
        have HG := Lib.hid (show c + 2 ≤ g from Nat.le_trans HSZ.out hg1)
        have HZ1 := Lib.hid z1
        have HZ2 := Lib.hid z2
        replace HA := Lib.hid ((h1.same _ (lt_of_block HA.out) (by simp)).trans HA.out)
        replace HUB := Lib.hid ((h1.same _ (lt_of_block HUB.out) (by simp)).trans HUB.out)
        replace HVB := Lib.hid ((h1.same _ (lt_of_block HVB.out) (by simp)).trans HVB.out)
        replace HT := Lib.hid ((h1.same _ (lt_of_block HT.out) (by simp)).trans HT.out)
        replace HP := Lib.hid ((h1.same _ (lt_of_block HP.out) (by simp)).trans HP.out)
        replace HSZ := Lib.hid (Nat.le_trans HSZ.out h1.size)
        obtain ⟨f, hf⟩ : ∃ f, (sMul (tAt a p) (sPow u i).1).1 = f := ⟨_, rfl⟩
        rw [hf] at hgf
        have HF := Lib.hid hgf
        have HFF := Lib.hid (show evF a u p i = f from hf)
        replace HLT := Lib.hid (show A < b ∧ U < b ∧ V0 < b ∧ b < c ∧ c + 2 ≤ g from ⟨HLT.out.1, HLT.out.2.1, HLT.out.2.2.1, HLT.out.2.2.2, HG.out⟩)
        have HM15 := Lib.hid h1
        clear h1 k11 hg1 hgf z1 z2 hf HG
        show wpF _ _ _ _ _ _ _
        refine wpF_seq (wpF_ofR (n := 5) ?_)
        refine wpIn_cut_mergeP [none, none, none, none, none, none, none, none, none, none, none, none, none, none, none, none, none, none, none, none, none, none, none, none, none, none, none, none, none, none, none, none, none, none, none, none, none, none, none, none, none, none, none, none, none, none, none, none, none, none, none, none, none, none, none, some 55, some 56, some 57, some 58, some 59, some 60, some 61, some 62, some 63, some 64, some 65, some 66, none, none, none, none, none, none, none] (fun _ w' => Mut [c] WC w' ∧ w'.heap[c]? = some (cobj 80 ([(sAdd t (sMul f (sPow v j).1).1).1])) ∧ ((sPow (v) (j))).2 = 0 ∧ ((sMul (f) (((sPow (v) (j))).1))).2 = 0 ∧ (sAdd (t) (((sMul (f) (((sPow (v) (j))).1))).1)).2 = 0) (fun ch w' => ch = brk (fstE [((sPow (v) (j))).2, ((sMul (f) (((sPow (v) (j))).1))).2, (sAdd (t) (((sMul (f) (((sPow (v) (j))).1))).1)).2]) ∧ ¬ fstE [((sPow (v) (j))).2, ((sMul (f) (((sPow (v) (j))).1))).2, (sAdd (t) (((sMul (f) (((sPow (v) (j))).1))).1)).2] = 0 ∧ Mut [c] WC w') ?_ ?_ ?_
        · intro Q2 hQ2 hP2
          refine wp_region_G (b := true) (Pn := (fun ch w' => ch = brk (fstE [((sPow (v) (j))).2, ((sMul (f) (((sPow (v) (j))).1))).2, (sAdd (t) (((sMul (f) (((sPow (v) (j))).1))).1)).2]) ∧ ¬ fstE [((sPow (v) (j))).2, ((sMul (f) (((sPow (v) (j))).1))).2, (sAdd (t) (((sMul (f) (((sPow (v) (j))).1))).1)).2] = 0 ∧ Mut [c] WC w')) (Ev16 WC A U V0 b c a u v t p i j g f) (by kernel_rfl) (by kernel_rfl) ?_ ?_ ?_ ?_
          · exact ⟨Mut.start _ true _, fun _ => HT.out, fun h => absurd h Bool.false_ne_true, fun h => absurd h Bool.false_ne_true, fun h => absurd h Bool.false_ne_true, fun h => absurd h Bool.false_ne_true, fun h => absurd h Bool.false_ne_true, fun h => absurd h Bool.false_ne_true, fun h => absurd h Bool.false_ne_true, fun h => absurd h Bool.false_ne_true, fun h => absurd h Bool.false_ne_true, fun h => absurd h Bool.false_ne_true, fun h => absurd h Bool.false_ne_true, fun h => absurd h Bool.false_ne_true, fun h => absurd h Bool.false_ne_true, fun h => absurd h Bool.false_ne_true, fun h => absurd h Bool.false_ne_true, fun h => absurd h Bool.false_ne_true, fun h => absurd h Bool.false_ne_true, fun h => absurd h Bool.false_ne_true⟩
          · refine AllSP.cons ?_ (AllSP.cons ?_ (AllSP.cons ?_ (AllSP.cons ?_ (AllSP.cons ?_ (AllSP.cons ?_ (AllSP.cons ?_ (AllSP.cons ?_ (AllSP.cons ?_ (AllSP.cons ?_ (AllSP.cons ?_ (AllSP.cons ?_ AllSP.nil)))))))))))
            · intro L s w2 h hk hd hn
              have s11 : s 11 = _ := hk 11 (by kernel_rfl)
              have kb := ((h.mu.same _ ((Array.getElem?_eq_some_iff.1 HF.out).1) (notin1 (by have := HLT.out; have := HSZ.out; omega))).trans HF.out)
              refine stepSP rfl fun K hK => ?_
              exact rs_load rfl s11 (sp_load (p := 0) kb (by simp)) (hK _ _ { h with e0 := fun _ => rfl })
            · intro L s w2 h hk hd hn
              have s2 : s 2 = _ := hk 2 (by kernel_rfl)
              have kb := ((h.mu.same _ ((Array.getElem?_eq_some_iff.1 HVB.out).1) (notin1 (by have := HLT.out; have := HSZ.out; omega))).trans HVB.out)
              refine stepSP rfl fun K hK => ?_
              exact rs_load rfl s2 (sp_load (p := 0) kb (by simp)) (hK _ _ { h with e1 := fun _ => rfl })
            · intro L s w2 h hk hd hn
              have s10 : s 10 = _ := hk 10 (by kernel_rfl)
              refine stepSP rfl fun K hK => ?_
              exact rs_move rfl s10 (hK _ _ { h with e2 := fun _ => rfl })
            · intro L s w2 h hk hd hn
              have s56 := h.e1 hd.1
              have s57 := h.e2 hd.2.1
              refine stepSP rfl fun K hK => ?_
              go_simp
              refine (tm_pow (v) (j) _).mono ?_
              rintro e w3 ⟨rfl, hb⟩
              exact .inl ⟨_, rfl, hK _ _ { h with mu := h.mu.step hb, kt_t := fun a => bk hb (h.kt_t a), kr_t := fun a => bk hb (h.kr_t a), e3 := fun _ => rfl }⟩
            · intro L s w2 h hk hd hn
              have s58 := h.e3 hd.1
              refine stepSP rfl fun K hK => ?_
              exact rs_extract rfl s58 rfl (hK _ _ { h with e4 := fun _ => rfl })
            · intro L s w2 h hk hd hn
              have s58 := h.e3 hd.1
              refine stepSP rfl fun K hK => ?_
              exact rs_extract rfl s58 rfl (hK _ _ { h with e5 := fun _ => rfl })
            · intro L s w2 h hk hd hn
              have s59 := h.e4 hd.1
              have s60 := h.e5 hd.2.1
              refine stepSP rfl fun K hK => ?_
              go_simp
              refine (tm_must (((sPow (v) (j))).1) (((sPow (v) (j))).2) _).mono ?_
              rintro e w3 ⟨⟨hz, rfl⟩ | ⟨hz, rfl⟩, hb⟩
              · exact .inl ⟨_, rfl, hK _ _ { h with mu := h.mu.step hb, kt_t := fun a => bk hb (h.kt_t a), kr_t := fun a => bk hb (h.kr_t a), e6 := fun _ => rfl, z6 := fun _ => hz }⟩
              · exact .inr ⟨_, rfl, congrArg brk (show ((sPow (v) (j))).2 = fstE [((sPow (v) (j))).2, ((sMul (f) (((sPow (v) (j))).1))).2, (sAdd (t) (((sMul (f) (((sPow (v) (j))).1))).1)).2] from (by rw [fstE_1 (show ¬ ((sPow (v) (j))).2 = 0 from hz)])), (show ¬ fstE [((sPow (v) (j))).2, ((sMul (f) (((sPow (v) (j))).1))).2, (sAdd (t) (((sMul (f) (((sPow (v) (j))).1))).1)).2] = 0 from (by rw [fstE_1 (show ¬ ((sPow (v) (j))).2 = 0 from hz)]; exact hz)), h.mu.step hb⟩
            · intro L s w2 h hk hd hn
              have s55 := h.e0 hd.1
              have s61 := h.e6 hd.2.1
              refine stepSP rfl fun K hK => ?_
              go_simp
              refine (tm_mul (f) (((sPow (v) (j))).1) _).mono ?_
              rintro e w3 ⟨rfl, hb⟩
              exact .inl ⟨_, rfl, hK _ _ { h with mu := h.mu.step hb, kt_t := fun a => bk hb (h.kt_t a), kr_t := fun a => bk hb (h.kr_t a), e7 := fun _ => rfl, q7_6 := fun _ => h.z6 hd.2.1 }⟩
            · intro L s w2 h hk hd hn
              have s62 := h.e7 hd.1
              refine stepSP rfl fun K hK => ?_
              exact rs_extract rfl s62 rfl (hK _ _ { h with e8 := fun _ => rfl, q8_6 := fun _ => h.q7_6 hd.1 })
            · intro L s w2 h hk hd hn
              have s62 := h.e7 hd.1
              refine stepSP rfl fun K hK => ?_
              exact rs_extract rfl s62 rfl (hK _ _ { h with e9 := fun _ => rfl })
            · intro L s w2 h hk hd hn
              have s63 := h.e8 hd.1
              have s64 := h.e9 hd.2.1
              refine stepSP rfl fun K hK => ?_
              go_simp
              refine (tm_must (((sMul (f) (((sPow (v) (j))).1))).1) (((sMul (f) (((sPow (v) (j))).1))).2) _).mono ?_
              rintro e w3 ⟨⟨hz, rfl⟩ | ⟨hz, rfl⟩, hb⟩
              · exact .inl ⟨_, rfl, hK _ _ { h with mu := h.mu.step hb, kt_t := fun a => bk hb (h.kt_t a), kr_t := fun a => bk hb (h.kr_t a), e10 := fun _ => rfl, z10 := fun _ => hz, q10_6 := fun _ => h.q8_6 hd.1 }⟩
              · exact .inr ⟨_, rfl, congrArg brk (show ((sMul (f) (((sPow (v) (j))).1))).2 = fstE [((sPow (v) (j))).2, ((sMul (f) (((sPow (v) (j))).1))).2, (sAdd (t) (((sMul (f) (((sPow (v) (j))).1))).1)).2] from (by rw [fstE_0 (show ((sPow (v) (j))).2 = 0 from h.q8_6 hd.1), fstE_1 (show ¬ ((sMul (f) (((sPow (v) (j))).1))).2 = 0 from hz)])), (show ¬ fstE [((sPow (v) (j))).2, ((sMul (f) (((sPow (v) (j))).1))).2, (sAdd (t) (((sMul (f) (((sPow (v) (j))).1))).1)).2] = 0 from (by rw [fstE_0 (show ((sPow (v) (j))).2 = 0 from h.q8_6 hd.1), fstE_1 (show ¬ ((sMul (f) (((sPow (v) (j))).1))).2 = 0 from hz)]; exact hz)), h.mu.step hb⟩
            · intro L s w2 h hk hd hn
              have s7 : s 7 = _ := hk 7 (by kernel_rfl)
              have s65 := h.e10 hd.1
              have kb := h.kt_t hn
              refine stepSP rfl fun K hK => ?_
              go_simp
              refine (tm_grow (c) _ [t] (0) (by simp) (((sMul (f) (((sPow (v) (j))).1))).1) _ kb).mono ?_
              rintro e w3 ⟨⟨hz, ⟨v, rfl⟩, hkr⟩ | ⟨hz, rfl⟩, hb⟩
              · exact .inl ⟨_, rfl, hK _ _ { h with mu := h.mu.stepM hb (by intro x hx; rw [List.mem_singleton.1 hx]; exact .inl (List.Mem.head _)), z11 := fun _ => hz, kt_t := nF, kr_t := fun _ => hkr }⟩
              · exact .inr ⟨_, rfl, congrArg brk (show (sAdd (t) (((sMul (f) (((sPow (v) (j))).1))).1)).2 = fstE [((sPow (v) (j))).2, ((sMul (f) (((sPow (v) (j))).1))).2, (sAdd (t) (((sMul (f) (((sPow (v) (j))).1))).1)).2] from (by rw [fstE_0 (show ((sPow (v) (j))).2 = 0 from h.q10_6 hd.1), fstE_0 (show ((sMul (f) (((sPow (v) (j))).1))).2 = 0 from h.z10 hd.1), fstE_1 (show ¬ (sAdd (t) (((sMul (f) (((sPow (v) (j))).1))).1)).2 = 0 from hz)])), (show ¬ fstE [((sPow (v) (j))).2, ((sMul (f) (((sPow (v) (j))).1))).2, (sAdd (t) (((sMul (f) (((sPow (v) (j))).1))).1)).2] = 0 from (by rw [fstE_0 (show ((sPow (v) (j))).2 = 0 from h.q10_6 hd.1), fstE_0 (show ((sMul (f) (((sPow (v) (j))).1))).2 = 0 from h.z10 hd.1), fstE_1 (show ¬ (sAdd (t) (((sMul (f) (((sPow (v) (j))).1))).1)).2 = 0 from hz)]; exact hz)), h.mu.stepM hb (by intro x hx; rw [List.mem_singleton.1 hx]; exact .inl (List.Mem.head _))⟩
          · intro L s w2 h hk hl
            refine (congrArg (fun a => Q2 .normal a w2) (?_ : _ = _)).mpr (hQ2 s w2 (⟨h.mu, h.kr_t (hl 11 (by decide)), h.z6 (hl 6 (by decide)), h.z10 (hl 10 (by decide)), h.z11 (hl 11 (by decide))⟩))
            exact frame_eq hk (by kernel_rfl) (by kernel_rfl)
          · intro c s w2 hc
            exact hP2 _ _ _ hc
        rotate_left
        · rintro e l' w' ⟨rfl, hz, h2⟩
          have hg := HGO.out
          rw [HD.out] at hg
          have he := tEvalFrom_bad2 (l := tPairs.drop (p + 1)) (v := v) (j := j) (t := t) HZ1.out HZ2.out (by rw [HFF.out]; exact hz)
          rw [hg, HFF.out] at he
          have h3 := ((HM15.out.up (S' := [c]) (by simp)).trans h2).up (S' := [c, c + 1]) fun x hx => .inl (by simp at hx; simp [hx])
          have hE : (tEval a u v).2 = (tEvalFrom a u v tPairs 0 (0, 0)).2 := by
            unfold tEval
            rw [thenE_bad (by rw [he]; exact hz)]
          refine ⟨rfl, h3.keep (by have := HS4.out; intro x hx; simp at hx; omega), by rw [hE, he], by rw [hE, he]; exact hz, HM.out.trans h3⟩
        rintro s16 wc ⟨h1, h2, z1, z2, z3⟩
        simp only [mergeL]
        have HP2 := (h1.same _ (by have := HSZ.out; omega) (notin1 (by omega))).trans HP.out
        have c0 := cell_of_one HP2
        have f0 : wc.frozen? ⟨c + 1, 0, none⟩ = false := by simp [World.frozen?, HP2, iobj]
        have H1 := Lib.hid ((HM15.out.up (S' := [c]) (by simp)).trans h1)
        have H2 := Lib.hid h2
        have H3 := Lib.hid z1
        have H4 := Lib.hid z2
        have H5 := Lib.hid z3
        have HC := Lib.hid HP2
        clear h1 h2 z1 z2 z3 HP2
        have hp0 : (0 : Int) ≤ (p : Int) := by omega
        have hp1 : (p : Int) ≤ 20 := by have := HPL.out; omega
        show wpF _ _ _ _ _ _ _
        refine wpF_ofR (n := 5) ?_
        gi_wp2_with fail
        rw [show wc.setCell ⟨c + 1, 0, none⟩ (.int .i64 ((p : Int) + 1)) = wc.putObj (c + 1) (iobj 3 ((p + 1 : Nat) : Int)) from setCell_put HC.out 0 _]
        have hmu : Mut [c, c + 1] W (wc.putObj (c + 1) (iobj 3 ((p + 1 : Nat) : Int))) := (H1.out.up fun x hx => .inl (by simp at hx; simp [hx])).put (by simp) _
        refine ⟨hmu.keep (by have := HS4.out; intro x hx; simp at hx; omega), (sAdd t (sMul f (sPow v j).1).1).1, HM.out.trans hmu, (World.putObj_heap_other (by omega)).trans H2.out, ?_, ?_⟩
        · rw [HNX.out]
          exact World.putObj_heap_same (lt_of_block HC.out)
        · rw [HNX.out, ← HGO.out, HD.out, tEvalFrom_ok HZ1.out HZ2.out H3.out (by rw [HFF.out]; exact H4.out) (by rw [HFF.out]; exact H5.out), HFF.out]
      · rintro W ⟨t, hJ⟩ hD
        have HA := Lib.hid ((hJ.mu.same A (lt_of_block HA1.out) (by have := HLT.out; exact notin2 (by omega) (by omega))).trans HA1.out)
        have HR := Lib.hid ((hJ.mu.same b (lt_of_block HR1.out) (by have := HLT.out; exact notin2 (by omega) (by omega))).trans HR1.out)
        have HT := Lib.hid hJ.ht
        have HGO := Lib.hid (show tEvalFrom a u v tPairs 0 (0, 0) = (t, 0) from hJ.go.symm)
        have HM := Lib.hid hJ.mu
        have HD := Lib.hid hD
        have HE := Lib.hid (show tEval a u v = sAdd t (tAt a 21) by unfold tEval; rw [HGO.out]; exact thenE_ok rfl)
        clear hJ hD
        show wpF _ _ _ _ _ _ _
        refine wpF_seq (wpF_of (n := 5) ?_)
        refine wpIn_cut_mergeP [none, none, none, none, none, none, none, none, none, none, none, none, none, none, none, none, none, none, none, none, none, none, none, none, none, none, none, none, none, none, none, none, none, none, none, none, none, none, none, none, none, none, none, none, none, none, none, none, none, none, none, none, none, none, none, none, none, none, none, none, none, none, none, none, none, none, none, none, none, some 69, some 70, some 71, none, none] (fun _ w' => Mut [c] W w' ∧ w'.heap[c]? = some (cobj 80 ([(sAdd t (tAt a 21)).1])) ∧ (sAdd (t) (tAt a 21)).2 = 0) (fun ch w' => ch = brk (fstE [(sAdd (t) (tAt a 21)).2]) ∧ ¬ fstE [(sAdd (t) (tAt a 21)).2] = 0 ∧ Mut [c] W w') ?_ ?_ ?_
        · intro Q2 hQ2 hP2
          refine wp_region_G (b := false) (Pn := (fun ch w' => ch = brk (fstE [(sAdd (t) (tAt a 21)).2]) ∧ ¬ fstE [(sAdd (t) (tAt a 21)).2] = 0 ∧ Mut [c] W w')) (Ev18 W A c a t) (by kernel_rfl) (by kernel_rfl) ?_ ?_ ?_ ?_
          · exact ⟨Mut.start _ false _, fun _ => HT.out, fun h => absurd h Bool.false_ne_true, fun h => absurd h Bool.false_ne_true, fun h => absurd h Bool.false_ne_true, fun h => absurd h Bool.false_ne_true⟩
          · refine AllSP.cons ?_ (AllSP.cons ?_ (AllSP.cons ?_ AllSP.nil))
            · intro L s w2 h hk hd hn
              have s0 : s 0 = _ := hk 0 (by kernel_rfl)
              refine stepSP rfl fun K hK => ?_
              exact rs_field rfl s0 (fl_model1 _ _) (hK _ _ { h with e0 := fun _ => rfl })
            · intro L s w2 h hk hd hn
              have s69 := h.e0 hd.1
              have kb := ((h.mu.same _ ((Array.getElem?_eq_some_iff.1 HA.out).1) (notin1 (by have := HLT.out; omega))).trans HA.out)
              refine stepSP rfl fun K hK => ?_
              exact rs_load rfl s69 (sp_load (p := 21) kb (by have := HL.out; omega)) (hK _ _ { h with e1 := fun _ => rfl })
            · intro L s w2 h hk hd hn
              have s7 : s 7 = _ := hk 7 (by kernel_rfl)
              have s70 := h.e1 hd.1
              have kb := h.kt_t hn
              refine stepSP rfl fun K hK => ?_
              go_simp
              refine (tm_grow (c) _ [t] (0) (by simp) (tAt a 21) _ kb).mono ?_
              rintro e w3 ⟨⟨hz, ⟨v, rfl⟩, hkr⟩ | ⟨hz, rfl⟩, hb⟩
              · exact .inl ⟨_, rfl, hK _ _ { h with mu := h.mu.stepM hb (by intro x hx; rw [List.mem_singleton.1 hx]; exact .inl (List.Mem.head _)), z2 := fun _ => hz, kt_t := nF, kr_t := fun _ => hkr }⟩
              · exact .inr ⟨_, rfl, congrArg brk (show (sAdd (t) (tAt a 21)).2 = fstE [(sAdd (t) (tAt a 21)).2] from (by rw [fstE_1 (show ¬ (sAdd (t) (tAt a 21)).2 = 0 from hz)])), (show ¬ fstE [(sAdd (t) (tAt a 21)).2] = 0 from (by rw [fstE_1 (show ¬ (sAdd (t) (tAt a 21)).2 = 0 from hz)]; exact hz)), h.mu.stepM hb (by intro x hx; rw [List.mem_singleton.1 hx]; exact .inl (List.Mem.head _))⟩
          · intro L s w2 h hk hl
            refine (congrArg (fun a => Q2 .normal a w2) (?_ : _ = _)).mpr (hQ2 s w2 (⟨h.mu, h.kr_t (hl 2 (by decide)), h.z2 (hl 2 (by decide))⟩))
            exact frame_eq hk (by kernel_rfl) (by kernel_rfl)
          · intro c s w2 hc
            exact hP2 _ _ _ hc
        rotate_left
        · rintro e l' w' ⟨rfl, hz, h2⟩
          have hK2 : w'.heap[W1.heap.size]? = some (.deferred (some [])) := (h2.same _ (lt_of_block HD.out) (notin1 (by have := HS4.out; omega))).trans HD.out
          refine ⟨by simp, .inl ⟨_, _, rfl, run_takeDeferred hK2, ?_⟩⟩
          rw [fstE_one] at hz ⊢
          exact ⟨.inr ⟨by rw [HE.out]; exact hz, by rw [HE.out]⟩, HB1.out.trans (put_bel ((HM.out.stepM h2 (by simp)).below (by have := HLT.out; have := HS4.out; omega) (by have := HLT.out; intro x hx; simp at hx; omega)) (by have := HLT.out; have := HS4.out; omega))⟩
        rintro s18 W9 ⟨h1, h2, z1⟩
        simp only [mergeL]
        have hT2 : W9.heap[c]? = some (.cells #[.int .i64 (sAdd t (tAt a 21)).1.1, .int .i64 (sAdd t (tAt a 21)).1.2] 80 (0, 0)) := h2
        have hR2 : W9.heap[b]? = some (.cells #[.int .i64 0, .int .i64 0] 25 (0, 0)) := (h1.same _ (lt_of_block HR.out) (notin1 (by have := HLT.out; omega))).trans HR.out
        have v0 := cell_two0 hT2
        have v1 := cell_two1 hT2
        have r0 := cell_two0 hR2
        have r1 := cell_two1 hR2
        have g0 := free_two (i := 0) hR2
        have g1 := free_two (i := 1) hR2
        have HRR := Lib.hid hR2
        replace HM := Lib.hid (HM.out.stepM h1 (by simp))
        replace HD := Lib.hid ((h1.same _ (lt_of_block HD.out) (notin1 (by have := HS4.out; omega))).trans HD.out)
        have HZ := Lib.hid z1
        clear h1 h2 z1 hT2 hR2 HT HA HR
        obtain ⟨o, ho⟩ : ∃ o, (sAdd t (tAt a 21)).1 = o := ⟨_, rfl⟩
        rw [ho] at v0 v1
        have HO := Lib.hid ho
        clear ho
        show wpF _ _ _ _ _ _ _
        refine wpF_seq (wpF_of (n := 5) ?_)
        gi_wp2_with fail
        refine wpF_of (n := 5) (wpIn_ret ?_)
        rw [show (W9.setCell ⟨b, 0, none⟩ (.int .i64 o.1)).setCell ⟨b, 1, none⟩ (.int .i64 o.2) = W9.putObj b (cobj 25 [o]) from sp_put (p := 0) (a := [(0, 0)]) HRR.out (by simp) o]
        have hK2 : (W9.putObj b (cobj 25 [o])).heap[W1.heap.size]? = some (.deferred (some [])) := (World.putObj_heap_other (by have := HLT.out; have := HS4.out; omega)).trans HD.out
        refine ⟨by simp, .inl ⟨_, _, rfl, run_takeDeferred hK2, ?_⟩⟩
        have hq : ((W9.putObj b (cobj 25 [o])).putObj W1.heap.size (.deferred none)).heap[b]? = some (.cells #[.int .i64 o.1, .int .i64 o.2] 25 (0, 0)) := (World.putObj_heap_other (by have := HLT.out; have := HS4.out; omega)).trans (World.putObj_heap_same (lt_of_block HRR.out))
        have q0 := cell_two0 hq
        have q1 := cell_two1 hq
        refine ⟨sval o, ?_, .inl ⟨by rw [HE.out]; exact HZ.out, by rw [HE.out, HO.out]⟩, ?_⟩
        · simp [results, Try.results48, go_sem, q0, q1, sval]
        · refine HB1.out.trans (put_bel (put_bel (HM.out.below (by have := HLT.out; have := HS4.out; omega) (by have := HLT.out; intro x hx; simp at hx; omega)) (by omega)) (by have := HLT.out; have := HS4.out; omega))
      · rintro e W ⟨rfl, hz, hM⟩ hD
        refine ⟨by simp, .inl ⟨_, _, rfl, run_takeDeferred hD, ?_⟩⟩
        exact ⟨.inr ⟨hz, rfl⟩, HB1.out.trans (put_bel (hM.below (by have := HLT.out; have := HS4.out; omega) (by have := HLT.out; intro x hx; simp at hx; omega)) (by have := HLT.out; have := HS4.out; omega))⟩
/-- The value of a model, of right arguments. -/
def xEval (a : List (Int × Int)) (u : (Int × Int)) (v : (Int × Int)) : (Int × Int) × Int := (orZ ((0, 0) : Int × Int) (tEval a u v), (tEval a u v).2)
structure EEval1 (V : World) (b : Nat) (a : List (Int × Int)) (u : (Int × Int)) (v : (Int × Int)) (L : Nat → Bool) (s : Nat → Value) (w : World) : Prop where
  mu : Mut [b + 1 + 1 + 1] V w
  kt_r : L 4 = false → w.heap[b + 1 + 1 + 1]? = some (cobj 25 ([(0, 0)]))
  kr_r : L 4 = true → w.heap[b + 1 + 1 + 1]? = some (cobj 25 ([(xEval a u v).1]))
  e0 : L 0 = true → s 8 = .func (.func 48) #[] #[.pointer (some ⟨b, 0, none⟩), .pointer (some ⟨b + 1, 0, none⟩), .pointer (some ⟨b + 1 + 1, 0, none⟩)]
  e1 : L 1 = true → s 9 = .tuple #[sval (xEval a u v).1, .int .i64 (xEval a u v).2]
  e2 : L 2 = true → s 10 = sval ((xEval a u v).1)
  e3 : L 3 = true → s 11 = .int .i64 ((xEval a u v).2)
  e5 : L 5 = true → s 7 = .int .i64 ((xEval a u v).2)
set_option maxRecDepth 100000 in
set_option maxHeartbeats 4000000 in
theorem taw_Eval (a : List (Int × Int)) (u : (Int × Int)) (v : (Int × Int)) (ha : a.length = 22) (hr : (tRight a).2 = 0) (hu : okU u) (hv : okU v) (w : World) :
    Calls Try.prog 11 #[mval a, sval u, sval v] w fun e w' => e = .returned (.tuple #[sval (xEval a u v).1, .int .i64 (xEval a u v).2]) ∧ Below w.heap.size w w' := by
  have HLa := Lib.hid ha
  have HRI := Lib.hid hr
  have HU := Lib.hid hu
  have HV := Lib.hid hv
  clear ha hr hu hv
  rw [show sval u = .agg #[.int .i64 u.1, .int .i64 u.2] from rfl]
  rw [show sval v = .agg #[.int .i64 v.1, .int .i64 v.2] from rfl]
  go_enter Try.func11, Try.ntmps11
  refine wp_seq_k fun K0 hK0 => ?_
  have HK0 := Lib.hid hK0
  clear hK0
  go_wp2_with fail
  rename_i xa csa hca
  obtain rfl : (mc a).toArray = csa := Value.agg.inj hca
  clear hca
  obtain ⟨b, hb⟩ : ∃ b, w.heap.size = b := ⟨_, rfl⟩
  refine HK0.out _ _ ?_
  refine wp_world (fun V => Mut [] w V ∧ V.heap[b]? = some (cobj 28 a) ∧ V.heap[b + 1]? = some (cobj 25 [u]) ∧ V.heap[b + 1 + 1]? = some (cobj 25 [v]) ∧ V.heap[b + 1 + 1 + 1]? = some (cobj 25 [(0, 0)])) ?_
    (by
      rw [← hb]
      exact ⟨(((((Mut.refl _ _).alloc _).alloc _).alloc _).alloc _), heap_up _ (heap_up _ (heap_up _ (heap_at (cobj 28 a) (by simp)))), heap_up _ (heap_up _ (heap_at (cobj 25 [u]) (by simp))), heap_up _ (heap_at (cobj 25 [v]) (by simp)), heap_at (cobj 25 [(0, 0)]) (by simp)⟩)
  rintro V ⟨hm, hHBa, hHBu, hHBv, hHR⟩
  rw [hb]
  have HM := Lib.hid hm
  have HBW := Lib.hid hb
  have HLT := Lib.hid trivial
  have HBa := Lib.hid hHBa
  have HBu := Lib.hid hHBu
  have HBv := Lib.hid hHBv
  have HR := Lib.hid hHR
  clear hm hHBa hHBu hHBv hHR hb HK0
  refine wp_seq_k fun K1 hK1 => ?_
  have HK1 := Lib.hid hK1
  clear hK1
  refine wp_cut_mergeP [none, none, none, none, none, none, none, some 7, some 8, some 9, some 10, some 11] (fun s w' => Mut [b + 1 + 1 + 1] V w' ∧ w'.heap[b + 1 + 1 + 1]? = some (cobj 25 ([(xEval a u v).1])) ∧ s 7 = .int .i64 ((xEval a u v).2)) (fun _ _ => False) ?_ ?_ ?_
  · intro Q2 hQ2 hP2
    refine (wpIn_wide (n := 0)).1 (show Code.wpIn (G none) 0 _ _ _ _ _ from ?_)
    refine wp_region_G (b := false) (Pn := (fun _ _ => False)) (EEval1 V b a u v) (by kernel_rfl) (by kernel_rfl) ?_ ?_ ?_ ?_
    · exact ⟨Mut.start _ false _, fun _ => HR.out, fun h => absurd h Bool.false_ne_true, fun h => absurd h Bool.false_ne_true, fun h => absurd h Bool.false_ne_true, fun h => absurd h Bool.false_ne_true, fun h => absurd h Bool.false_ne_true, fun h => absurd h Bool.false_ne_true⟩
    · refine AllSP.cons ?_ (AllSP.cons ?_ (AllSP.cons ?_ (AllSP.cons ?_ (AllSP.cons ?_ (AllSP.cons ?_ AllSP.nil)))))
      · intro L s w2 h hk hd hn
        have s3 : s 3 = _ := hk 3 (by kernel_rfl)
        have s4 : s 4 = _ := hk 4 (by kernel_rfl)
        have s5 : s 5 = _ := hk 5 (by kernel_rfl)
        refine stepSP rfl fun K hK => ?_
        exact rs_makeFunc rfl (cs := #[.pointer (some ⟨b, 0, none⟩), .pointer (some ⟨b + 1, 0, none⟩), .pointer (some ⟨b + 1 + 1, 0, none⟩)]) (by simp [evS_tmp, s3, s4, s5]) (hK _ _ { h with e0 := fun _ => rfl })
      · intro L s w2 h hk hd hn
        have s8 := h.e0 hd.1
        refine stepSP rfl fun K hK => ?_
        go_simp
        have kb0 := (h.mu.same _ (lt_of_block HBa.out) (notin1 (by omega))).trans HBa.out
        have kb1 := (h.mu.same _ (lt_of_block HBu.out) (notin1 (by omega))).trans HBu.out
        have kb2 := (h.mu.same _ (lt_of_block HBv.out) (notin1 (by omega))).trans HBv.out
        refine (tay_caught_s 48 #[.pointer (some ⟨b, 0, none⟩), .pointer (some ⟨b + 1, 0, none⟩), .pointer (some ⟨b + 1 + 1, 0, none⟩)] (tEval a u v) _ (fun W => enters_of Try.func48 (by kernel_rfl) rfl _ W) (fun W hB => tay_eval1 (b) (b + 1) (b + 1 + 1) a u v HLa.out HRI.out HU.out HV.out W ((hB.block _ (lt_of_block kb0)).trans kb0) ((hB.block _ (lt_of_block kb1)).trans kb1) ((hB.block _ (lt_of_block kb2)).trans kb2))).mono ?_
        rintro e w3 ⟨rfl, hb⟩
        exact .inl ⟨_, rfl, hK _ _ { h with mu := h.mu.step hb, kt_r := fun a => bk hb (h.kt_r a), kr_r := fun a => bk hb (h.kr_r a), e1 := fun _ => rfl }⟩
      · intro L s w2 h hk hd hn
        have s9 := h.e1 hd.1
        refine stepSP rfl fun K hK => ?_
        exact rs_extract rfl s9 rfl (hK _ _ { h with e2 := fun _ => rfl })
      · intro L s w2 h hk hd hn
        have s9 := h.e1 hd.1
        refine stepSP rfl fun K hK => ?_
        exact rs_extract rfl s9 rfl (hK _ _ { h with e3 := fun _ => rfl })
      · intro L s w2 h hk hd hn
        have s6 : s 6 = _ := hk 6 (by kernel_rfl)
        have s10 := h.e2 hd.1
        have kb := h.kt_r hn
        refine stepSP rfl fun K hK => ?_
        exact rs_store rfl s6 s10 (sp_store (p := 0) kb (by simp) ((xEval a u v).1)) (hK _ _ { h with mu := h.mu.put (List.Mem.head _) _, kt_r := nF, kr_r := fun _ => pH kb })
      · intro L s w2 h hk hd hn
        have s11 := h.e3 hd.1
        refine stepSP rfl fun K hK => ?_
        exact rs_assign rfl s11 (hK _ _ { h with e5 := fun _ => rfl })
    · intro L s w2 h hk hl
      refine (congrArg (fun a => Q2 .normal a w2) (?_ : _ = _)).mpr (hQ2 s w2 (⟨h.mu, h.kr_r (hl 4 (by decide)), h.e5 (hl 5 (by decide))⟩))
      exact frame_eq hk (by kernel_rfl) (by kernel_rfl)
    · intro c s w2 hc
      exact hc.elim
  rotate_left
  · rintro _ _ _ h
    exact h.elim
  rintro s1 V ⟨h1, c_r, k7⟩
  simp only [mergeL]
  rw [k7]
  replace HBa := Lib.hid ((h1.same _ (lt_of_block HBa.out) (notin1 (by have := HLT.out; omega))).trans HBa.out)
  replace HBu := Lib.hid ((h1.same _ (lt_of_block HBu.out) (notin1 (by have := HLT.out; omega))).trans HBu.out)
  replace HBv := Lib.hid ((h1.same _ (lt_of_block HBv.out) (notin1 (by have := HLT.out; omega))).trans HBv.out)
  replace HR := Lib.hid c_r
  replace HM := Lib.hid (HM.out.stepM h1 (by have := HBW.out; have := HLT.out; intro x hx; simp at hx; right; omega))
  clear h1 c_r k7
  refine HK1.out _ _ ?_
  refine wp_ret ?_
  exact bodyPost_ret (v := .tuple #[sval (xEval a u v).1, .int .i64 (xEval a u v).2]) (res_slot Try.results11 rfl rfl (sp_loadVar HR.out)) rfl ⟨rfl, by rw [← HBW.out]; exact HM.out.to0⟩
end Go.Proofs.Ythhkcfpljgdnhaa
