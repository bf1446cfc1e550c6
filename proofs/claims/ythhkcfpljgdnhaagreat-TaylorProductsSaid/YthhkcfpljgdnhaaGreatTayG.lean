/- Package taylor: bound, each, by. Printed by wip/genTB.py. -/
import Derived.Test.YthhkcfpljgdnhaaGreatTayD
namespace Go.Proofs.YthhkcfpljgdnhaaGreat
open Go.RowKit Mnc
attribute [local go_sem] RunSP_value RunSP_skip RunSP_enter evS_tmp evS_const evS_global evS_func
section
variable {P : Program} {Pn : List PanicEntry → World → Prop} {K : Value → World → Prop} {s : Nat → Value} {w : World} {o : Oper} {x : Operand}
theorem rs_callv {f : FuncId} {caps vs : Array Value} {ag : Array Operand} {ts : Array TypeId} (ho : o.op = .call { callee := .value x, args := ag, argTypes := ts }) (hx : evS s x = .func (.func f) #[] caps) (has : ag.map (evS s) = vs) (hi : (callFunc f (vs ++ caps)).run P w = .ok (.enter f (vs ++ caps)) w)
  (h1 : Calls P f (vs ++ caps) w (RetSP Pn K)) : RunSP P Pn K ((execOp (evS s) o).run P w) := by
 have e : (execOp (evS s) o).run P w = .ok (.enter f (vs ++ caps)) w := by
  unfold execOp; rw [ho]; subst has
  simp only [resolve, hx, Deferred.ofValue, Sem.run_bind, Sem.run_pure, Result.andThen, invoke, Array.empty_append]
  simpa using hi
 rw [e]
 exact h1
end
theorem fst2z {α β : Type} {z : β} {x : α × Int} {f : α → β × Int} : (thenE z x f).2 = fstE [x.2, (f x.1).2] := by
 by_cases h1 : x.2 = 0
 ·rw [fstE_0 h1, fstE_one, thenE_ok h1]
 ·rw [thenE_bad h1, fstE_1 h1]
structure Bd1 (W : World) (b : Nat) (a : List (Int × Int)) (L : Nat → Bool) (s : Nat → Value) (w : World) : Prop where
 mu : Mut [b + 1] W w
 kt_r : L 8 = false → w.heap[b + 1]? = some (cobj 31 ([(0, 0)]))
 kr_r : L 8 = true → w.heap[b + 1]? = some (cobj 31 ([(sAdd (tSweep a).1 (tAt a 21)).1]))
 e0 : L 0 = true → s 3 = mval a
 z1 : L 1 = true → (tSweep a).2 = 0
 e1 : L 1 = true → s 4 = sval ((tSweep a).1)
 e2 : L 2 = true → s 5 = .pointer (some ⟨b, 21 * 2, none⟩)
 e3 : L 3 = true → s 6 = sval (tAt a 21)
 e4 : L 4 = true → s 7 = .tuple #[sval ((sAdd ((tSweep a).1) (tAt a 21))).1, .int .i64 ((sAdd ((tSweep a).1) (tAt a 21))).2]
 e5 : L 5 = true → s 8 = sval (((sAdd ((tSweep a).1) (tAt a 21))).1)
 e6 : L 6 = true → s 9 = .int .i64 (((sAdd ((tSweep a).1) (tAt a 21))).2)
 z7 : L 7 = true → ((sAdd ((tSweep a).1) (tAt a 21))).2 = 0
 e7 : L 7 = true → s 10 = sval (((sAdd ((tSweep a).1) (tAt a 21))).1)
 q5_1 : L 5 = true → (tSweep a).2 = 0
 q4_1 : L 4 = true → (tSweep a).2 = 0
set_option maxRecDepth 100000 in
set_option maxHeartbeats 2000000 in
theorem tay_bound (a : List (Int × Int)) (ha : a.length = 22) (w : World) :
  Calls Tryz.prog 34 #[mval a] w fun e w' => Ends sval (tBound a) e ∧ Below w.heap.size w w' := by
 have HL := lh ha
 clear ha
 go_enter Tryz.func34, Tryz.ntmps34
 go_wp2_with fail
 rename_i x1 cs1 hc1
 obtain rfl : (mc a).toArray = cs1 := Value.agg.inj hc1
 clear hc1
 obtain ⟨b, hb⟩ : ∃ b, w.heap.size = b := ⟨_, rfl⟩
 refine wp_world (fun W => Mut [] w W ∧ b + 2 ≤ W.heap.size ∧ W.heap[b]? = some (cobj 34 a) ∧ W.heap[b + 1]? = some (cobj 31 [(0, 0)])) ?_
  (by
   rw [← hb]
   exact ⟨((Mut.refl _ _).alloc _).alloc _, by simp, heap_up _ (heap_at _ rfl), heap_at _ (by simp)⟩)
 rintro W ⟨hm, hs, hA, hR⟩
 rw [hb]
 have HM := lh hm
 have HBW := lh hb
 have HA := lh hA
 have HR := lh hR
 clear hm hs hA hR hb
 refine wp_cut_mergeP (nn :: nn :: nn :: some 3 :: some 4 :: some 5 :: some 6 :: some 7 :: some 8 :: some 9 :: some 10 :: []) (fun _ w' => Mut [b + 1] W w' ∧ w'.heap[b + 1]? = some (cobj 31 ([(sAdd (tSweep a).1 (tAt a 21)).1])) ∧ (tSweep a).2 = 0 ∧ ((sAdd ((tSweep a).1) (tAt a 21))).2 = 0) (fun ch w' => ch = brk (fstE [(tSweep a).2, ((sAdd ((tSweep a).1) (tAt a 21))).2]) ∧ ¬ fstE [(tSweep a).2, ((sAdd ((tSweep a).1) (tAt a 21))).2] = 0 ∧ Mut [b + 1] W w') ?_ ?_ ?_
 ·intro Q2 hQ2 hP2
  refine wpG ?_
  refine wp_region_G (b := true) (Pn := (fun ch w' => ch = brk (fstE [(tSweep a).2, ((sAdd ((tSweep a).1) (tAt a 21))).2]) ∧ ¬ fstE [(tSweep a).2, ((sAdd ((tSweep a).1) (tAt a 21))).2] = 0 ∧ Mut [b + 1] W w')) (Bd1 W b a) (by kernel_rfl) (by kernel_rfl) ?_ ?_ ?_ ?_
  ·exact ⟨Mut.start _ true _, fun _ => HR.out, nB, nB, nB, nB, nB, nB, nB, nB, nB, nB, nB, nB, nB⟩
  ·refine AllSP.cons ?_ (AllSP.cons ?_ (AllSP.cons ?_ (AllSP.cons ?_ (AllSP.cons ?_ (AllSP.cons ?_ (AllSP.cons ?_ (AllSP.cons ?_ (AllSP.cons ?_ AllSP.nil))))))))
   ·intro L s w2 h hk hd hn
    have s1 : s 1 = _ := hk 1 (by kernel_rfl)
    have kb := ((h.mu.same _ ((Array.getElem?_eq_some_iff.1 HA.out).1) (notin1 (by omega))).trans HA.out)
    refine sP fun K hK => ?_
    exact rs_load rfl s1 (md_load kb HL.out) (hK _ _ { h with e0 := fun _ => rfl })
   ·intro L s w2 h hk hd hn
    have s3 := h.e0 hd.1
    refine sP fun K hK => ?_
    go_simp
    refine (tay_sweep a HL.out _).mono ?_
    rintro e w3 ⟨⟨hz, rfl⟩ | ⟨hz, rfl⟩, hb⟩
    ·exact .inl ⟨_, rfl, hK _ _ { h with mu := h.mu.step hb, kt_r := fun a => bk hb (h.kt_r a), kr_r := fun a => bk hb (h.kr_r a), e1 := fun _ => rfl, z1 := fun _ => hz }⟩
    ·exact .inr ⟨_, rfl, congrArg brk (show (tSweep a).2 = fstE [(tSweep a).2, ((sAdd ((tSweep a).1) (tAt a 21))).2] from (by rw [fstE_1 (show ¬ (tSweep a).2 = 0 from hz)])), (show ¬ fstE [(tSweep a).2, ((sAdd ((tSweep a).1) (tAt a 21))).2] = 0 from (by rw [fstE_1 (show ¬ (tSweep a).2 = 0 from hz)]; exact hz)), h.mu.step hb⟩
   ·intro L s w2 h hk hd hn
    have s1 : s 1 = _ := hk 1 (by kernel_rfl)
    refine sP fun K hK => ?_
    exact rs_field rfl s1 (fl_model1 _ _) (hK _ _ { h with e2 := fun _ => rfl })
   ·intro L s w2 h hk hd hn
    have s5 := h.e2 hd.1
    have kb := ((h.mu.same _ ((Array.getElem?_eq_some_iff.1 HA.out).1) (notin1 (by omega))).trans HA.out)
    refine sP fun K hK => ?_
    exact rs_load rfl s5 (sp_load (p := 21) kb (by have := HL.out; omega)) (hK _ _ { h with e3 := fun _ => rfl })
   ·intro L s w2 h hk hd hn
    have s4 := h.e1 hd.1
    have s6 := h.e3 hd.2.1
    refine sP fun K hK => ?_
    go_simp
    refine (tm_add ((tSweep a).1) (tAt a 21) _).mono ?_
    rintro e w3 ⟨rfl, hb⟩
    exact .inl ⟨_, rfl, hK _ _ { h with mu := h.mu.step hb, kt_r := fun a => bk hb (h.kt_r a), kr_r := fun a => bk hb (h.kr_r a), e4 := fun _ => rfl, q4_1 := fun _ => h.z1 hd.1 }⟩
   ·intro L s w2 h hk hd hn
    have s7 := h.e4 hd.1
    refine sP fun K hK => ?_
    exact rs_extract rfl s7 rfl (hK _ _ { h with e5 := fun _ => rfl, q5_1 := fun _ => h.q4_1 hd.1 })
   ·intro L s w2 h hk hd hn
    have s7 := h.e4 hd.1
    refine sP fun K hK => ?_
    exact rs_extract rfl s7 rfl (hK _ _ { h with e6 := fun _ => rfl })
   ·intro L s w2 h hk hd hn
    have s8 := h.e5 hd.1
    have s9 := h.e6 hd.2.1
    refine sP fun K hK => ?_
    go_simp
    refine (tm_must (((sAdd ((tSweep a).1) (tAt a 21))).1) (((sAdd ((tSweep a).1) (tAt a 21))).2) _).mono ?_
    rintro e w3 ⟨⟨hz, rfl⟩ | ⟨hz, rfl⟩, hb⟩
    ·exact .inl ⟨_, rfl, hK _ _ { h with mu := h.mu.step hb, kt_r := fun a => bk hb (h.kt_r a), kr_r := fun a => bk hb (h.kr_r a), e7 := fun _ => rfl, z7 := fun _ => hz }⟩
    ·exact .inr ⟨_, rfl, congrArg brk (show ((sAdd ((tSweep a).1) (tAt a 21))).2 = fstE [(tSweep a).2, ((sAdd ((tSweep a).1) (tAt a 21))).2] from (by rw [fstE_0 (show (tSweep a).2 = 0 from h.q5_1 hd.1), fstE_1 (show ¬ ((sAdd ((tSweep a).1) (tAt a 21))).2 = 0 from hz)])), (show ¬ fstE [(tSweep a).2, ((sAdd ((tSweep a).1) (tAt a 21))).2] = 0 from (by rw [fstE_0 (show (tSweep a).2 = 0 from h.q5_1 hd.1), fstE_1 (show ¬ ((sAdd ((tSweep a).1) (tAt a 21))).2 = 0 from hz)]; exact hz)), h.mu.step hb⟩
   ·intro L s w2 h hk hd hn
    have s2 : s 2 = _ := hk 2 (by kernel_rfl)
    have s10 := h.e7 hd.1
    have kb := h.kt_r hn
    refine sP fun K hK => ?_
    exact rs_store rfl s2 s10 (sp_store (p := 0) kb (by simp) (((sAdd ((tSweep a).1) (tAt a 21))).1)) (hK _ _ { h with mu := h.mu.put (List.Mem.head _) _, kt_r := nF, kr_r := fun _ => pH kb })
  ·intro L s w2 h hk hl
   refine cA ?_ (hQ2 s w2 (⟨h.mu, h.kr_r (hl 8 (by decide)), h.z1 (hl 1 (by decide)), h.z7 (hl 7 (by decide))⟩))
   exact frame_eq hk (by kernel_rfl) (by kernel_rfl)
  ·intro c s w2 hc
   exact hP2 _ _ _ hc
 ·rintro s1 V ⟨h1, h2, z1, z2⟩
  simp only [mergeL]
  have q0 := cell_two0 h2
  have q1 := cell_two1 h2
  have HB := lh (HM.out.stepM h1 (by have := HBW.out; intro x hx; simp at hx; right; omega)).to0
  have HE := lh (show tBound a = ((sAdd (tSweep a).1 (tAt a 21)).1, 0) by rw [tBound, thenE_ok z1]; exact Prod.ext rfl z2)
  clear h1 h2 z1 z2
  go_wp2_with fail
  exact bodyPost_ret (v := sval (sAdd (tSweep a).1 (tAt a 21)).1) (by simp [results, Tryz.results34, go_sem, q0, q1, sval]) rfl ⟨.inl ⟨by rw [HE.out], by rw [HE.out]⟩, HB.out⟩
 ·rintro e l'' w' ⟨rfl, hz, h2⟩
  have he : (tBound a).2 = _ := fst2z (x := tSweep a) (f := fun s => sAdd s (tAt a 21))
  rw [← he] at hz ⊢
  exact ⟨rfl, .inr ⟨hz, rfl⟩, (HM.out.stepM h2 (by have := HBW.out; intro x hx; simp at hx; right; omega)).to0⟩
/-- An operation on all parts of two models, one after the other. -/
def tEachI (F : Int × Int → Int × Int → (Int × Int) × Int) (a c : List (Int × Int)) : Nat → Nat → List (Int × Int) → List (Int × Int) × Int
 | 0, _, O => (O, 0)
 | n + 1, p, O => thenE [] (F (tAt a p) (tAt c p)) fun r => tEachI F a c n (p + 1) (O.set p r)
theorem drop_at {a : List (Int × Int)} {p : Nat} (h : p < a.length) : a.drop p = tAt a p :: a.drop (p + 1) := by
 rw [List.drop_eq_getElem_cons h]
 unfold tAt
 simp [List.getD, List.getElem?_eq_getElem h]
theorem tEachI_eq {F : Int × Int → Int × Int → (Int × Int) × Int} {a c : List (Int × Int)} : ∀ (n p : Nat) (O : List (Int × Int)), p + n = a.length → c.length = a.length → O.length = a.length →
  tEachI F a c n p O = thenE [] (tEach F (a.drop p) (c.drop p)) fun t => (O.take p ++ t, 0) := by
 intro n
 induction n with
 | zero =>
  intro p O hp hc hO
  rw [List.drop_of_length_le (by omega), List.drop_of_length_le (by omega), tEachI, tEach, thenE_ok rfl, List.take_of_length_le (by omega), List.append_nil]
  all_goals simp
 | succ n ih =>
  intro p O hp hc hO
  rw [drop_at (show p < a.length by omega), drop_at (show p < c.length by omega), tEachI, tEach]
  by_cases h : (F (tAt a p) (tAt c p)).2 = 0
  ·rw [thenE_ok h, thenE_ok h, ih (p + 1) _ (by omega) hc (by simpa using hO)]
   by_cases h2 : (tEach F (a.drop (p + 1)) (c.drop (p + 1))).2 = 0
   ·rw [thenE_ok h2, thenE_ok h2, thenE_ok rfl]
    have : (O.set p (F (tAt a p) (tAt c p)).1).take (p + 1) = O.take p ++ [(F (tAt a p) (tAt c p)).1] := by
     rw [List.take_add_one, List.take_set_of_le (Nat.le_refl p)]
     simp [show p < O.length by omega]
    rw [this, List.append_assoc]
    rfl
   ·rw [thenE_bad h2, thenE_bad h2, thenE_bad (by exact h2)]
  ·rw [thenE_bad h, thenE_bad h, thenE_bad (by exact h)]
theorem tEachI_all {F : Int × Int → Int × Int → (Int × Int) × Int} {a c : List (Int × Int)} (ha : a.length = 22) (hc : c.length = 22) : tEachI F a c 22 0 zeroM = tEach F a c := by
 rw [tEachI_eq 22 0 zeroM (by omega) (by omega) (by rw [ha]; rfl)]
 show thenE [] (tEach F a c) _ = _
 by_cases h : (tEach F a c).2 = 0
 ·rw [thenE_ok h]
  exact Prod.ext rfl h.symm
 ·rw [thenE_bad h]
  have : ∀ (a c : List (Int × Int)), ¬ (tEach F a c).2 = 0 → (tEach F a c).1 = [] := by
   intro a
   induction a with
   | nil => intro c h; simp [tEach] at h
   | cons x a ih =>
    intro c h
    cases c with
    | nil => simp [tEach] at h
    | cons y c =>
     rw [tEach] at h ⊢
     by_cases h1 : (F x y).2 = 0
     ·rw [thenE_ok h1] at h ⊢
      by_cases h2 : (tEach F a c).2 = 0
      ·rw [thenE_ok h2] at h
       exact absurd rfl h
      ·rw [thenE_bad h2]
     ·rw [thenE_bad h1]
  exact Prod.ext (this a c h).symm rfl
structure Ea4 (wr : World) (b f : Nat) (caps : Array Value) (F : Int × Int → Int × Int → (Int × Int) × Int) (a c O : List (Int × Int)) (p : Nat) (L : Nat → Bool) (s : Nat → Value) (w : World) : Prop where
 mu : Mut [b + 1 + 1] wr w
 kt_out : L 16 = false → w.heap[b + 1 + 1]? = some (cobj 34 O)
 kr_out : L 16 = true → w.heap[b + 1 + 1]? = some (cobj 34 (O.set p (F (tAt a p) (tAt c p)).1))
 e0 : L 0 = true → s 11 = .int .i64 ((p : Nat) : Int)
 e1 : L 1 = true → s 12 = .func (.func f) #[] caps
 e2 : L 2 = true → s 13 = .int .i64 ((p : Nat) : Int)
 e3 : L 3 = true → s 14 = .pointer (some ⟨b, 0, none⟩)
 e4 : L 4 = true → s 15 = .pointer (some ⟨b, p * 2, none⟩)
 e5 : L 5 = true → s 16 = sval (tAt a p)
 e6 : L 6 = true → s 17 = .int .i64 ((p : Nat) : Int)
 e7 : L 7 = true → s 18 = .pointer (some ⟨b + 1, 0, none⟩)
 e8 : L 8 = true → s 19 = .pointer (some ⟨b + 1, p * 2, none⟩)
 e9 : L 9 = true → s 20 = sval (tAt c p)
 e10 : L 10 = true → s 21 = .tuple #[sval ((F (tAt a p) (tAt c p))).1, .int .i64 ((F (tAt a p) (tAt c p))).2]
 e11 : L 11 = true → s 22 = sval (((F (tAt a p) (tAt c p))).1)
 e12 : L 12 = true → s 23 = .int .i64 (((F (tAt a p) (tAt c p))).2)
 z13 : L 13 = true → ((F (tAt a p) (tAt c p))).2 = 0
 e13 : L 13 = true → s 24 = sval (((F (tAt a p) (tAt c p))).1)
 e14 : L 14 = true → s 25 = .pointer (some ⟨b + 1 + 1, 0, none⟩)
 e15 : L 15 = true → s 26 = .pointer (some ⟨b + 1 + 1, p * 2, none⟩)
structure Ea6 (wr : World) (b f : Nat) (caps : Array Value) (F : Int × Int → Int × Int → (Int × Int) × Int) (a c O : List (Int × Int)) (L : Nat → Bool) (s : Nat → Value) (w : World) : Prop where
 mu : Mut [b + 1 + 1] wr w
 kt_out : L 10 = false → w.heap[b + 1 + 1]? = some (cobj 34 O)
 kr_out : L 10 = true → w.heap[b + 1 + 1]? = some (cobj 34 (O.set 21 (F (tAt a 21) (tAt c 21)).1))
 e0 : L 0 = true → s 28 = .func (.func f) #[] caps
 e1 : L 1 = true → s 29 = .pointer (some ⟨b, 21 * 2, none⟩)
 e2 : L 2 = true → s 30 = sval (tAt a 21)
 e3 : L 3 = true → s 31 = .pointer (some ⟨b + 1, 21 * 2, none⟩)
 e4 : L 4 = true → s 32 = sval (tAt c 21)
 e5 : L 5 = true → s 33 = .tuple #[sval ((F (tAt a 21) (tAt c 21))).1, .int .i64 ((F (tAt a 21) (tAt c 21))).2]
 e6 : L 6 = true → s 34 = sval (((F (tAt a 21) (tAt c 21))).1)
 e7 : L 7 = true → s 35 = .int .i64 (((F (tAt a 21) (tAt c 21))).2)
 z8 : L 8 = true → ((F (tAt a 21) (tAt c 21))).2 = 0
 e8 : L 8 = true → s 36 = sval (((F (tAt a 21) (tAt c 21))).1)
 e9 : L 9 = true → s 37 = .pointer (some ⟨b + 1 + 1, 21 * 2, none⟩)
structure Ea7 (V : World) (b : Nat) (O2 : List (Int × Int)) (L : Nat → Bool) (s : Nat → Value) (w : World) : Prop where
 mu : Mut [b + 1 + 1] V w
 kt_out : L 1 = false → w.heap[b + 1 + 1]? = some (cobj 34 O2)
 kr_out : L 1 = true → w.heap[b + 1 + 1]? = some (cobj 34 O2)
 e0 : L 0 = true → s 38 = mval O2
 b1_0 : L 1 = true → L 0 = true
set_option maxRecDepth 100000 in
set_option maxHeartbeats 4000000 in
theorem tay_each (F : Int × Int → Int × Int → (Int × Int) × Int) (f : Nat) (caps : Array Value) (a c : List (Int × Int)) (ha : a.length = 22) (hc : c.length = 22) (w : World)
  (hi : ∀ x y W, (callFunc f (#[sval x, sval y] ++ caps)).run Tryz.prog W = .ok (.enter f (#[sval x, sval y] ++ caps)) W)
  (hF : ∀ x y W, Below w.heap.size w W → Calls Tryz.prog f (#[sval x, sval y] ++ caps) W fun e w' => e = .returned (.tuple #[sval (F x y).1, .int .i64 (F x y).2]) ∧ Below W.heap.size W w') :
  Calls Tryz.prog 80 #[mval a, mval c, .func (.func f) #[] caps] w fun e w' => Ends mval (tEach F a c) e ∧ Below w.heap.size w w' := by
 have HL := lh ha
 have HLC := lh hc
 have HI := lh hi
 have HF := lh hF
 have HEA := lh (tEachI_all (F := F) ha hc)
 clear ha hc hi hF
 go_enter Tryz.func80, Tryz.ntmps80
 go_wp2_with fail
 rename_i x1 cs1 hc1 x2 cs2 hc2
 obtain rfl : (mc a).toArray = cs1 := Value.agg.inj hc1
 obtain rfl : (mc c).toArray = cs2 := Value.agg.inj hc2
 clear hc1 hc2
 obtain ⟨b, hb⟩ : ∃ b, w.heap.size = b := ⟨_, rfl⟩
 refine wp_world (fun W => Mut [] w W ∧ b + 3 ≤ W.heap.size ∧ W.heap[b]? = some (cobj 34 a) ∧ W.heap[b + 1]? = some (cobj 34 c) ∧ W.heap[b + 1 + 1]? = some (cobj 34 zeroM)) ?_
  (by
   rw [← hb]
   exact ⟨(((Mut.refl _ _).alloc _).alloc _).alloc _, by simp, heap_up _ (heap_up _ (heap_at _ rfl)), heap_up _ (heap_at _ (by simp)), heap_at (cobj 34 zeroM) (by simp)⟩)
 rintro W1 ⟨hm, hs, hA, hC, hO⟩
 rw [hb]
 rename_i Q' K hK
 have HK := lh hK
 have HBW := lh hb
 have HS4 := lh hs
 have HA1 := lh hA
 have HC1 := lh hC
 have HM1 := lh hm
 clear hK hm hs hA hC hb
 go_loopw [8] (fun x wr => ∃ p : Nat, p ≤ 21 ∧ x = .int .i64 p ∧ Hid (∃ O : List (Int × Int), O.length = 22 ∧ Mut [b + 1 + 1] W1 wr ∧ wr.heap[b + 1 + 1]? = some (cobj 34 O) ∧ tEachI F a c (22 - p) p O = tEach F a c)) (fun x _ => 21 - (intOf x).toNat)
 case atStart => exact ⟨0, by omega, rfl, lh ⟨zeroM, rfl, Mut.refl _ _, hO, HEA.out⟩⟩
 case round =>
  clear hO
  obtain ⟨p, hn, rfl, HG⟩ := hrel
  obtain ⟨O, hol, hmu, ho, hgo⟩ := HG.out
  have hsz := HS4.out
  have hbw := HBW.out
  have HOL := lh hol
  have HO := lh ho
  have HMU := lh hmu
  have HM := lh ((HM1.out.up (S' := [b + 1 + 1]) (by simp)).trans hmu)
  have HGO := lh hgo
  have HSZ := lh (show b + 3 ≤ wr.heap.size from Nat.le_trans hsz hmu.size)
  have HA := lh ((hmu.same _ (lt_of_block HA1.out) (notin1 (by omega))).trans HA1.out)
  have HC := lh ((hmu.same _ (lt_of_block HC1.out) (notin1 (by omega))).trans HC1.out)
  clear HG hol hmu ho hgo hbw hsz
  rcases Nat.lt_or_ge p 21 with hp | hp
  ·have HPL := lh hp
   have hd : decide ((p : Int) < 21) = true := by simp; omega
   have hlt : (p : Int) < 21 := by omega
   have hp0 : (0 : Int) ≤ p := by omega
   clear hn hp
   go_wp2_with fail
   refine wp_cut_mergeP (n8 (nn :: nn :: nn :: some 11 :: some 12 :: some 13 :: some 14 :: some 15 :: some 16 :: some 17 :: some 18 :: some 19 :: some 20 :: some 21 :: some 22 :: some 23 :: some 24 :: some 25 :: some 26 :: n8 (nn :: nn :: nn :: nn :: []))) (fun _ w' => Mut [b + 1 + 1] wr w' ∧ w'.heap[b + 1 + 1]? = some (cobj 34 (O.set p (F (tAt a p) (tAt c p)).1)) ∧ ((F (tAt a p) (tAt c p))).2 = 0) (fun ch w' => ch = brk (fstE [((F (tAt a p) (tAt c p))).2]) ∧ ¬ fstE [((F (tAt a p) (tAt c p))).2] = 0 ∧ Mut [b + 1 + 1] wr w') ?_ ?_ ?_
   ·intro Q2 hQ2 hP2
    refine wpG ?_
    refine wp_region_G (b := true) (Pn := (fun ch w' => ch = brk (fstE [((F (tAt a p) (tAt c p))).2]) ∧ ¬ fstE [((F (tAt a p) (tAt c p))).2] = 0 ∧ Mut [b + 1 + 1] wr w')) (Ea4 wr b f caps F a c O p) (by kernel_rfl) (by kernel_rfl) ?_ ?_ ?_ ?_
    ·exact ⟨Mut.start _ true _, fun _ => HO.out, nB, nB, nB, nB, nB, nB, nB, nB, nB, nB, nB, nB, nB, nB, nB, nB, nB, nB⟩
    ·refine AllSP.cons ?_ (AllSP.cons ?_ (AllSP.cons ?_ (AllSP.cons ?_ (AllSP.cons ?_ (AllSP.cons ?_ (AllSP.cons ?_ (AllSP.cons ?_ (AllSP.cons ?_ (AllSP.cons ?_ (AllSP.cons ?_ (AllSP.cons ?_ (AllSP.cons ?_ (AllSP.cons ?_ (AllSP.cons ?_ (AllSP.cons ?_ (AllSP.cons ?_ AllSP.nil))))))))))))))))
     ·intro L s w2 h hk hd hn
      have s7 : s 7 = _ := hk 7 (by kernel_rfl)
      refine sP fun K hK => ?_
      exact rs_move rfl s7 (hK _ _ { h with e0 := fun _ => rfl })
     ·intro L s w2 h hk hd hn
      have s2 : s 2 = _ := hk 2 (by kernel_rfl)
      refine sP fun K hK => ?_
      exact rs_move rfl s2 (hK _ _ { h with e1 := fun _ => rfl })
     ·intro L s w2 h hk hd hn
      have s7 : s 7 = _ := hk 7 (by kernel_rfl)
      refine sP fun K hK => ?_
      exact rs_move rfl s7 (hK _ _ { h with e2 := fun _ => rfl })
     ·intro L s w2 h hk hd hn
      have s3 : s 3 = _ := hk 3 (by kernel_rfl)
      refine sP fun K hK => ?_
      exact rs_field rfl s3 (fl_model0 _ _) (hK _ _ { h with e3 := fun _ => rfl })
     ·intro L s w2 h hk hd hn
      have s14 := h.e3 hd.1
      have s13 := h.e2 hd.2.1
      refine sP fun K hK => ?_
      exact rs_index rfl s14 s13 (ix_model _ p HPL.out) (hK _ _ { h with e4 := fun _ => rfl })
     ·intro L s w2 h hk hd hn
      have s15 := h.e4 hd.1
      have kb := ((h.mu.same _ ((Array.getElem?_eq_some_iff.1 HA.out).1) (notin1 (by have := HSZ.out; omega))).trans HA.out)
      refine sP fun K hK => ?_
      exact rs_load rfl s15 (sp_load (p := p) kb (by have := HL.out; have := HLC.out; have := HOL.out; have := HPL.out; omega)) (hK _ _ { h with e5 := fun _ => rfl })
     ·intro L s w2 h hk hd hn
      have s7 : s 7 = _ := hk 7 (by kernel_rfl)
      refine sP fun K hK => ?_
      exact rs_move rfl s7 (hK _ _ { h with e6 := fun _ => rfl })
     ·intro L s w2 h hk hd hn
      have s4 : s 4 = _ := hk 4 (by kernel_rfl)
      refine sP fun K hK => ?_
      exact rs_field rfl s4 (fl_model0 _ _) (hK _ _ { h with e7 := fun _ => rfl })
     ·intro L s w2 h hk hd hn
      have s18 := h.e7 hd.1
      have s17 := h.e6 hd.2.1
      refine sP fun K hK => ?_
      exact rs_index rfl s18 s17 (ix_model _ p HPL.out) (hK _ _ { h with e8 := fun _ => rfl })
     ·intro L s w2 h hk hd hn
      have s19 := h.e8 hd.1
      have kb := ((h.mu.same _ ((Array.getElem?_eq_some_iff.1 HC.out).1) (notin1 (by have := HSZ.out; omega))).trans HC.out)
      refine sP fun K hK => ?_
      exact rs_load rfl s19 (sp_load (p := p) kb (by have := HL.out; have := HLC.out; have := HOL.out; have := HPL.out; omega)) (hK _ _ { h with e9 := fun _ => rfl })
     ·intro L s w2 h hk hd hn
      have s12 := h.e1 hd.1
      have s16 := h.e5 hd.2.1
      have s20 := h.e9 hd.2.2.1
      refine sP fun K hK => ?_
      refine rs_callv rfl s12 (vs := #[sval (tAt a p), sval (tAt c p)]) (by simp [evS_tmp, s16, s20]) (HI.out _ _ _) ?_
      refine (HF.out (tAt a p) (tAt c p) _ ((HM.out.trans h.mu).below (Nat.le_refl _) (by have := HBW.out; intro x hx; simp at hx; omega))).mono ?_
      rintro e w3 ⟨rfl, hb⟩
      exact .inl ⟨_, rfl, hK _ _ { h with mu := h.mu.step hb, kt_out := fun a => bk hb (h.kt_out a), kr_out := fun a => bk hb (h.kr_out a), e10 := fun _ => rfl }⟩
     ·intro L s w2 h hk hd hn
      have s21 := h.e10 hd.1
      refine sP fun K hK => ?_
      exact rs_extract rfl s21 rfl (hK _ _ { h with e11 := fun _ => rfl })
     ·intro L s w2 h hk hd hn
      have s21 := h.e10 hd.1
      refine sP fun K hK => ?_
      exact rs_extract rfl s21 rfl (hK _ _ { h with e12 := fun _ => rfl })
     ·intro L s w2 h hk hd hn
      have s22 := h.e11 hd.1
      have s23 := h.e12 hd.2.1
      refine sP fun K hK => ?_
      go_simp
      refine (tm_must (((F (tAt a p) (tAt c p))).1) (((F (tAt a p) (tAt c p))).2) _).mono ?_
      rintro e w3 ⟨⟨hz, rfl⟩ | ⟨hz, rfl⟩, hb⟩
      ·exact .inl ⟨_, rfl, hK _ _ { h with mu := h.mu.step hb, kt_out := fun a => bk hb (h.kt_out a), kr_out := fun a => bk hb (h.kr_out a), e13 := fun _ => rfl, z13 := fun _ => hz }⟩
      ·exact .inr ⟨_, rfl, congrArg brk (show ((F (tAt a p) (tAt c p))).2 = fstE [((F (tAt a p) (tAt c p))).2] from (by rw [fstE_1 (show ¬ ((F (tAt a p) (tAt c p))).2 = 0 from hz)])), (show ¬ fstE [((F (tAt a p) (tAt c p))).2] = 0 from (by rw [fstE_1 (show ¬ ((F (tAt a p) (tAt c p))).2 = 0 from hz)]; exact hz)), h.mu.step hb⟩
     ·intro L s w2 h hk hd hn
      have s6 : s 6 = _ := hk 6 (by kernel_rfl)
      refine sP fun K hK => ?_
      exact rs_field rfl s6 (fl_model0 _ _) (hK _ _ { h with e14 := fun _ => rfl })
     ·intro L s w2 h hk hd hn
      have s25 := h.e14 hd.1
      have s11 := h.e0 hd.2.1
      refine sP fun K hK => ?_
      exact rs_index rfl s25 s11 (ix_model _ p HPL.out) (hK _ _ { h with e15 := fun _ => rfl })
     ·intro L s w2 h hk hd hn
      have s26 := h.e15 hd.1
      have s24 := h.e13 hd.2.1
      have kb := h.kt_out hn
      refine sP fun K hK => ?_
      exact rs_store rfl s26 s24 (sp_store (p := p) kb (by have := HL.out; have := HLC.out; have := HOL.out; have := HPL.out; omega) (((F (tAt a p) (tAt c p))).1)) (hK _ _ { h with mu := h.mu.put (List.Mem.head _) _, kt_out := nF, kr_out := fun _ => pH kb })
    ·intro L s w2 h hk hl
     refine cA ?_ (hQ2 s w2 (⟨h.mu, h.kr_out (hl 16 (by decide)), h.z13 (hl 13 (by decide))⟩))
     exact frame_eq hk (by kernel_rfl) (by kernel_rfl)
    ·intro c s w2 hc
     exact hP2 _ _ _ hc
   ·rintro s4 V ⟨h1, h2, z1⟩
    simp only [mergeL]
    have HE := lh (show ∃ O' : List (Int × Int), O'.length = 22 ∧ Mut [b + 1 + 1] W1 V ∧ V.heap[b + 1 + 1]? = some (cobj 34 O') ∧ tEachI F a c (22 - (p + 1)) (p + 1) O' = tEach F a c from
     ⟨_, by rw [List.length_set]; exact HOL.out, HMU.out.trans h1, h2, by
      have hg := HGO.out
      rw [show 22 - p = (22 - (p + 1)) + 1 by have := HPL.out; omega, tEachI, thenE_ok z1] at hg
      exact hg⟩)
    clear h1 h2 z1
    go_wp2_with fail
    go_roundw
    case rel => first | exact ⟨p + 1, by have := HPL.out; omega, by go_num, HE⟩ | ((repeat apply Exists.intro); exact ⟨⟨p + 1, by have := HPL.out; omega, by go_num, HE⟩, rfl⟩)
    case measure => simp [intOf]; omega
   ·rintro e l'' w' ⟨rfl, hz, h2⟩
    rw [fstE_one] at hz ⊢
    have hg := HGO.out
    rw [show 22 - p = (22 - (p + 1)) + 1 by have := HPL.out; omega, tEachI, thenE_bad hz] at hg
    have he : (F (tAt a p) (tAt c p)).2 = (tEach F a c).2 := by rw [← hg]
    rw [he] at hz ⊢
    exact ⟨rfl, .inr ⟨hz, rfl⟩, (HM.out.trans h2).below (Nat.le_refl _) (by have := HBW.out; intro x hx; simp at hx; omega)⟩
  ·obtain rfl : p = 21 := by omega
   have HPL := lh (show 21 < 22 by omega)
   clear hp hn
   go_wp2_with fail
   refine HK.out _ _ ?_
   refine wsk fun K5 HK5 => ?_
   refine wp_cut_mergeP (n8 (n8 (n8 (nn :: nn :: nn :: nn :: some 28 :: some 29 :: some 30 :: some 31 :: some 32 :: some 33 :: some 34 :: some 35 :: some 36 :: some 37 :: nn :: [])))) (fun _ w' => Mut [b + 1 + 1] wr w' ∧ w'.heap[b + 1 + 1]? = some (cobj 34 (O.set 21 (F (tAt a 21) (tAt c 21)).1)) ∧ ((F (tAt a 21) (tAt c 21))).2 = 0) (fun ch w' => ch = brk (fstE [((F (tAt a 21) (tAt c 21))).2]) ∧ ¬ fstE [((F (tAt a 21) (tAt c 21))).2] = 0 ∧ Mut [b + 1 + 1] wr w') ?_ ?_ ?_
   ·intro Q2 hQ2 hP2
    refine wpG ?_
    refine wp_region_G (b := false) (Pn := (fun ch w' => ch = brk (fstE [((F (tAt a 21) (tAt c 21))).2]) ∧ ¬ fstE [((F (tAt a 21) (tAt c 21))).2] = 0 ∧ Mut [b + 1 + 1] wr w')) (Ea6 wr b f caps F a c O) (by kernel_rfl) (by kernel_rfl) ?_ ?_ ?_ ?_
    ·exact ⟨Mut.start _ false _, fun _ => HO.out, nB, nB, nB, nB, nB, nB, nB, nB, nB, nB, nB, nB⟩
    ·refine AllSP.cons ?_ (AllSP.cons ?_ (AllSP.cons ?_ (AllSP.cons ?_ (AllSP.cons ?_ (AllSP.cons ?_ (AllSP.cons ?_ (AllSP.cons ?_ (AllSP.cons ?_ (AllSP.cons ?_ (AllSP.cons ?_ AllSP.nil))))))))))
     ·intro L s w2 h hk hd hn
      have s2 : s 2 = _ := hk 2 (by kernel_rfl)
      refine sP fun K hK => ?_
      exact rs_move rfl s2 (hK _ _ { h with e0 := fun _ => rfl })
     ·intro L s w2 h hk hd hn
      have s3 : s 3 = _ := hk 3 (by kernel_rfl)
      refine sP fun K hK => ?_
      exact rs_field rfl s3 (fl_model1 _ _) (hK _ _ { h with e1 := fun _ => rfl })
     ·intro L s w2 h hk hd hn
      have s29 := h.e1 hd.1
      have kb := ((h.mu.same _ ((Array.getElem?_eq_some_iff.1 HA.out).1) (notin1 (by have := HSZ.out; omega))).trans HA.out)
      refine sP fun K hK => ?_
      exact rs_load rfl s29 (sp_load (p := 21) kb (by have := HL.out; have := HLC.out; have := HOL.out; have := HPL.out; omega)) (hK _ _ { h with e2 := fun _ => rfl })
     ·intro L s w2 h hk hd hn
      have s4 : s 4 = _ := hk 4 (by kernel_rfl)
      refine sP fun K hK => ?_
      exact rs_field rfl s4 (fl_model1 _ _) (hK _ _ { h with e3 := fun _ => rfl })
     ·intro L s w2 h hk hd hn
      have s31 := h.e3 hd.1
      have kb := ((h.mu.same _ ((Array.getElem?_eq_some_iff.1 HC.out).1) (notin1 (by have := HSZ.out; omega))).trans HC.out)
      refine sP fun K hK => ?_
      exact rs_load rfl s31 (sp_load (p := 21) kb (by have := HL.out; have := HLC.out; have := HOL.out; have := HPL.out; omega)) (hK _ _ { h with e4 := fun _ => rfl })
     ·intro L s w2 h hk hd hn
      have s28 := h.e0 hd.1
      have s30 := h.e2 hd.2.1
      have s32 := h.e4 hd.2.2.1
      refine sP fun K hK => ?_
      refine rs_callv rfl s28 (vs := #[sval (tAt a 21), sval (tAt c 21)]) (by simp [evS_tmp, s30, s32]) (HI.out _ _ _) ?_
      refine (HF.out (tAt a 21) (tAt c 21) _ ((HM.out.trans h.mu).below (Nat.le_refl _) (by have := HBW.out; intro x hx; simp at hx; omega))).mono ?_
      rintro e w3 ⟨rfl, hb⟩
      exact .inl ⟨_, rfl, hK _ _ { h with mu := h.mu.step hb, kt_out := fun a => bk hb (h.kt_out a), kr_out := fun a => bk hb (h.kr_out a), e5 := fun _ => rfl }⟩
     ·intro L s w2 h hk hd hn
      have s33 := h.e5 hd.1
      refine sP fun K hK => ?_
      exact rs_extract rfl s33 rfl (hK _ _ { h with e6 := fun _ => rfl })
     ·intro L s w2 h hk hd hn
      have s33 := h.e5 hd.1
      refine sP fun K hK => ?_
      exact rs_extract rfl s33 rfl (hK _ _ { h with e7 := fun _ => rfl })
     ·intro L s w2 h hk hd hn
      have s34 := h.e6 hd.1
      have s35 := h.e7 hd.2.1
      refine sP fun K hK => ?_
      go_simp
      refine (tm_must (((F (tAt a 21) (tAt c 21))).1) (((F (tAt a 21) (tAt c 21))).2) _).mono ?_
      rintro e w3 ⟨⟨hz, rfl⟩ | ⟨hz, rfl⟩, hb⟩
      ·exact .inl ⟨_, rfl, hK _ _ { h with mu := h.mu.step hb, kt_out := fun a => bk hb (h.kt_out a), kr_out := fun a => bk hb (h.kr_out a), e8 := fun _ => rfl, z8 := fun _ => hz }⟩
      ·exact .inr ⟨_, rfl, congrArg brk (show ((F (tAt a 21) (tAt c 21))).2 = fstE [((F (tAt a 21) (tAt c 21))).2] from (by rw [fstE_1 (show ¬ ((F (tAt a 21) (tAt c 21))).2 = 0 from hz)])), (show ¬ fstE [((F (tAt a 21) (tAt c 21))).2] = 0 from (by rw [fstE_1 (show ¬ ((F (tAt a 21) (tAt c 21))).2 = 0 from hz)]; exact hz)), h.mu.step hb⟩
     ·intro L s w2 h hk hd hn
      have s6 : s 6 = _ := hk 6 (by kernel_rfl)
      refine sP fun K hK => ?_
      exact rs_field rfl s6 (fl_model1 _ _) (hK _ _ { h with e9 := fun _ => rfl })
     ·intro L s w2 h hk hd hn
      have s37 := h.e9 hd.1
      have s36 := h.e8 hd.2.1
      have kb := h.kt_out hn
      refine sP fun K hK => ?_
      exact rs_store rfl s37 s36 (sp_store (p := 21) kb (by have := HL.out; have := HLC.out; have := HOL.out; have := HPL.out; omega) (((F (tAt a 21) (tAt c 21))).1)) (hK _ _ { h with mu := h.mu.put (List.Mem.head _) _, kt_out := nF, kr_out := fun _ => pH kb })
    ·intro L s w2 h hk hl
     refine cA ?_ (hQ2 s w2 (⟨h.mu, h.kr_out (hl 10 (by decide)), h.z8 (hl 8 (by decide))⟩))
     exact frame_eq hk (by kernel_rfl) (by kernel_rfl)
    ·intro c s w2 hc
     exact hP2 _ _ _ hc
   ·rintro s6 V ⟨h1, h2, z1⟩
    simp only [mergeL]
    refine HK5.out _ _ ?_
    have HOL2 : Hid ((O.set 21 (F (tAt a 21) (tAt c 21)).1).length = 22) := lh (by rw [List.length_set]; exact HOL.out)
    have HGO2 : Hid (tEach F a c = (O.set 21 (F (tAt a 21) (tAt c 21)).1, 0)) := lh (by
     have hg := HGO.out
     rw [show 22 - 21 = 0 + 1 from rfl, tEachI, thenE_ok z1, tEachI] at hg
     exact hg.symm)
    have HM7 := lh (HM.out.trans h1)
    generalize O.set 21 (F (tAt a 21) (tAt c 21)).1 = O2 at *
    have HO2 := lh h2
    clear h1 h2 z1
    refine wsk fun K6 HK6 => ?_
    refine wp_cut_mergeP (n8 (n8 (n8 (n8 (nn :: nn :: nn :: nn :: nn :: nn :: some 38 :: []))))) (fun _ w' => Mut [b + 1 + 1] V w' ∧ w'.heap[b + 1 + 1]? = some (cobj 34 O2)) (fun _ _ => False) ?_ ?_ ?_
    ·intro Q2 hQ2 hP2
     refine wpG ?_
     refine wp_region_G (b := false) (Pn := (fun _ _ => False)) (Ea7 V b O2) (by kernel_rfl) (by kernel_rfl) ?_ ?_ ?_ ?_
     ·exact ⟨Mut.start _ false _, fun _ => HO2.out, nB, nB, nB⟩
     ·refine AllSP.cons ?_ (AllSP.cons ?_ AllSP.nil)
      ·intro L s w2 h hk hd hn
       have s6 : s 6 = _ := hk 6 (by kernel_rfl)
       have kb := (h.kt_out (bF h.b1_0 hn))
       refine sP fun K hK => ?_
       exact rs_load rfl s6 (md_load kb HOL2.out) (hK _ _ { h with e0 := fun _ => rfl, b1_0 := fun _ => rfl })
      ·intro L s w2 h hk hd hn
       have s6 : s 6 = _ := hk 6 (by kernel_rfl)
       have s38 := h.e0 hd.1
       have kb := h.kt_out hn
       refine sP fun K hK => ?_
       exact rs_store rfl s6 s38 (md_store kb HOL2.out _ HOL2.out) (hK _ _ { h with mu := h.mu.put (List.Mem.head _) _, kt_out := nF, kr_out := fun _ => pH kb, b1_0 := fun _ => hd.1 })
     ·intro L s w2 h hk hl
      refine cA ?_ (hQ2 s w2 (⟨h.mu, h.kr_out (hl 1 (by decide))⟩))
      exact frame_eq hk (by kernel_rfl) (by kernel_rfl)
     ·intro c s w2 hc
      exact hc.elim
    ·rintro s7 V2 ⟨h1, h2⟩
     simp only [mergeL]
     refine HK6.out _ _ ?_
     have hl := md_loadVar h2 HOL2.out
     have HM8 := lh ((HM7.out.trans h1).below (Nat.le_refl _) (by have := HBW.out; intro x hx; simp at hx; omega))
     refine wp_ret ?_
     exact bodyPost_ret (v := mval O2) (res_model Tryz.results80 rfl hl) rfl ⟨.inl ⟨by rw [HGO2.out], by rw [HGO2.out]⟩, HM8.out⟩
    ·rintro _ _ _ h
     exact h.elim
   ·rintro e l'' w' ⟨rfl, hz, h2⟩
    rw [fstE_one] at hz ⊢
    have hg := HGO.out
    rw [show 22 - 21 = 0 + 1 from rfl, tEachI, thenE_bad hz] at hg
    have he : (F (tAt a 21) (tAt c 21)).2 = (tEach F a c).2 := by rw [← hg]
    rw [he] at hz ⊢
    exact ⟨rfl, .inr ⟨hz, rfl⟩, (HM.out.trans h2).below (Nat.le_refl _) (by have := HBW.out; intro x hx; simp at hx; omega)⟩
end Go.Proofs.YthhkcfpljgdnhaaGreat
