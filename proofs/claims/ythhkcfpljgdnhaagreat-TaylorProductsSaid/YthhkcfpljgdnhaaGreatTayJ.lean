/- Package taylor: series. Printed by wip/genTJ.py. -/
import Derived.Test.YthhkcfpljgdnhaaGreatTayI
namespace Mnc
open Go
theorem thenE_ind {α β : Type} {z : β} {x : α × Int} {f : α → β × Int} (p : β → Prop) (h : (thenE z x f).2 = 0) (hp : ∀ v, x = (v, 0) → (f v).2 = 0 → p (f v).1) : p (thenE z x f).1 := by
 by_cases h1 : x.2 = 0
 ·rw [thenE_ok h1] at h ⊢
  exact hp x.1 (Prod.ext rfl h1) h
 ·rw [thenE_bad h1] at h
  exact absurd h h1
theorem tStep_len {a b : List (Int × Int)} {i j k l p q : Nat} {S : List (Int × Int)} (hS : S.length = 22) (h : (tStep a b i j k l p q S).2 = 0) : (tStep a b i j k l p q S).1.length = 22 := by
 unfold tStep at h ⊢
 refine thenE_ind (fun x => x.length = 22) h fun v _ h => ?_
 by_cases h5 : 5 < i + j + k + l
 ·simp only [if_pos h5] at h ⊢
  refine thenE_ind (fun x => x.length = 22) h fun v _ h => ?_
  refine thenE_ind (fun x => x.length = 22) h fun v _ h => ?_
  simp [hS]
 ·simp only [if_neg h5] at h ⊢
  refine thenE_ind (fun x => x.length = 22) h fun v _ h => ?_
  simp [hS]
theorem tInner_len {a b : List (Int × Int)} {i j p : Nat} : ∀ {l : List (Nat × Nat)} {q : Nat} {S : List (Int × Int)}, S.length = 22 → (tInner a b i j p l q S).2 = 0 → (tInner a b i j p l q S).1.length = 22 := by
 intro l
 induction l with
 | nil => intro q S hS _; exact hS
 | cons x l ih =>
  obtain ⟨k, m⟩ := x
  intro q S hS h
  rw [tInner] at h ⊢
  exact thenE_ind (fun x => x.length = 22) h fun v hv h => ih (by have := tStep_len hS (by rw [hv]); rw [hv] at this; exact this) h
theorem tOuter_len {a b : List (Int × Int)} : ∀ {l : List (Nat × Nat)} {p : Nat} {S : List (Int × Int)}, S.length = 22 → (tOuter a b l p S).2 = 0 → (tOuter a b l p S).1.length = 22 := by
 intro l
 induction l with
 | nil => intro q S hS _; exact hS
 | cons x l ih =>
  obtain ⟨k, m⟩ := x
  intro q S hS h
  rw [tOuter] at h ⊢
  exact thenE_ind (fun x => x.length = 22) h fun v hv h => ih (by have := tInner_len hS (by rw [hv]); rw [hv] at this; exact this) h
theorem tGrow_len {S : List (Int × Int)} {x y : Int × Int} (hS : S.length = 22) (h : (tGrow S x y).2 = 0) : (tGrow S x y).1.length = 22 := by
 unfold tGrow at h ⊢
 refine thenE_ind (fun x => x.length = 22) h fun v _ h => ?_
 refine thenE_ind (fun x => x.length = 22) h fun v _ h => ?_
 simp [hS]
theorem tProduct_len {a b : List (Int × Int)} (h : (tProduct a b).2 = 0) : (tProduct a b).1.length = 22 := by
 unfold tProduct at h ⊢
 refine thenE_ind (fun x => x.length = 22) h fun S hS h => ?_
 have h1 : S.length = 22 := by have := tOuter_len (a := a) (b := b) (l := tPairs) (p := 0) (S := List.replicate 22 (0, 0)) (by simp) (by rw [hS]); rw [hS] at this; exact this
 refine thenE_ind (fun x => x.length = 22) h fun v _ h => ?_
 refine thenE_ind (fun x => x.length = 22) h fun S2 hS2 h => ?_
 have h2 : S2.length = 22 := by have := tGrow_len h1 (by rw [hS2]); rw [hS2] at this; exact this
 refine thenE_ind (fun x => x.length = 22) h fun v _ h => ?_
 refine thenE_ind (fun x => x.length = 22) h fun S3 hS3 h => ?_
 have h3 : S3.length = 22 := by have := tGrow_len h2 (by rw [hS3]); rw [hS3] at this; exact this
 exact tGrow_len h3 h
theorem tSeries_len {h : List (Int × Int)} : ∀ {l : List Int} {m : List (Int × Int)}, m.length = 22 → (tSeries h l m).2 = 0 → (tSeries h l m).1.length = 22 := by
 intro l
 induction l with
 | nil => intro m hm _; exact hm
 | cons s l ih =>
  intro m hm hz
  rw [tSeries] at hz ⊢
  refine thenE_ind (fun x => x.length = 22) hz fun v hv hz => ?_
  have h1 : v.length = 22 := by have := tProduct_len (a := h) (b := m) (by rw [hv]); rw [hv] at this; exact this
  exact thenE_ind (fun x => x.length = 22) hz fun c hc hz => ih (by simpa using h1) hz
end Mnc
namespace Go.Proofs.YthhkcfpljgdnhaaGreat
open Go.RowKit Mnc
attribute [local go_sem] RunSP_value RunSP_skip RunSP_enter evS_tmp evS_const evS_global evS_func
structure Se5 (wr : World) (b : Nat) (hh m : List (Int × Int)) (L : Nat → Bool) (s : Nat → Value) (w : World) : Prop where
 mu : Mut [b + 1 + 1] wr w
 kt_m : L 3 = false → w.heap[b + 1 + 1]? = some (cobj 34 m)
 kr_m : L 3 = true → w.heap[b + 1 + 1]? = some (cobj 34 ((tProduct hh m).1))
 e0 : L 0 = true → s 14 = mval hh
 e1 : L 1 = true → s 15 = mval m
 z2 : L 2 = true → (tProduct hh m).2 = 0
 e2 : L 2 = true → s 16 = mval ((tProduct hh m).1)
 b3_1 : L 3 = true → L 1 = true
structure Sf6 (V : World) (b : Nat) (hh m : List (Int × Int)) (sk : Int) (L : Nat → Bool) (s : Nat → Value) (w : World) : Prop where
 mu : Mut [b + 1 + 1] V w
 kt_m : L 11 = false → w.heap[b + 1 + 1]? = some (cobj 34 m)
 kr_m : L 11 = true → w.heap[b + 1 + 1]? = some (cobj 34 (m.set 0 (sAdd (tAt m 0) (sk, sk)).1))
 e0 : L 0 = true → s 17 = .pointer (some ⟨b + 1 + 1, 0, none⟩)
 e1 : L 1 = true → s 18 = .pointer (some ⟨b + 1 + 1, 0 * 2, none⟩)
 e2 : L 2 = true → s 19 = sval (tAt m 0)
 e3 : L 3 = true → s 20 = .int .i64 sk
 e4 : L 4 = true → s 21 = sval (sk, sk)
 e5 : L 5 = true → s 22 = .tuple #[sval ((sAdd (tAt m 0) ((sk, sk)))).1, .int .i64 ((sAdd (tAt m 0) ((sk, sk)))).2]
 e6 : L 6 = true → s 23 = sval (((sAdd (tAt m 0) ((sk, sk)))).1)
 e7 : L 7 = true → s 24 = .int .i64 (((sAdd (tAt m 0) ((sk, sk)))).2)
 z8 : L 8 = true → ((sAdd (tAt m 0) ((sk, sk)))).2 = 0
 e8 : L 8 = true → s 25 = sval (((sAdd (tAt m 0) ((sk, sk)))).1)
 e9 : L 9 = true → s 26 = .pointer (some ⟨b + 1 + 1, 0, none⟩)
 e10 : L 10 = true → s 27 = .pointer (some ⟨b + 1 + 1, 0 * 2, none⟩)
 b11_2 : L 11 = true → L 2 = true
structure Se6 (wr : World) (b : Nat) (hh m : List (Int × Int)) (sk : Int) (L : Nat → Bool) (s : Nat → Value) (w : World) : Prop where
 mu : Mut [b + 1 + 1] wr w
 kt_m : L 11 = false → w.heap[b + 1 + 1]? = some (cobj 34 m)
 kr_m : L 11 = true → w.heap[b + 1 + 1]? = some (cobj 34 (m.set 0 (sAdd (tAt m 0) (sk, sk)).1))
 e0 : L 0 = true → s 17 = .pointer (some ⟨b + 1 + 1, 0, none⟩)
 e1 : L 1 = true → s 18 = .pointer (some ⟨b + 1 + 1, 0 * 2, none⟩)
 e2 : L 2 = true → s 19 = sval (tAt m 0)
 e3 : L 3 = true → s 20 = .int .i64 sk
 e4 : L 4 = true → s 21 = sval (sk, sk)
 e5 : L 5 = true → s 22 = .tuple #[sval ((sAdd (tAt m 0) ((sk, sk)))).1, .int .i64 ((sAdd (tAt m 0) ((sk, sk)))).2]
 e6 : L 6 = true → s 23 = sval (((sAdd (tAt m 0) ((sk, sk)))).1)
 e7 : L 7 = true → s 24 = .int .i64 (((sAdd (tAt m 0) ((sk, sk)))).2)
 z8 : L 8 = true → ((sAdd (tAt m 0) ((sk, sk)))).2 = 0
 e8 : L 8 = true → s 25 = sval (((sAdd (tAt m 0) ((sk, sk)))).1)
 e9 : L 9 = true → s 26 = .pointer (some ⟨b + 1 + 1, 0, none⟩)
 e10 : L 10 = true → s 27 = .pointer (some ⟨b + 1 + 1, 0 * 2, none⟩)
 b11_2 : L 11 = true → L 2 = true
structure Se8 (wr : World) (b : Nat) (hh m : List (Int × Int)) (L : Nat → Bool) (s : Nat → Value) (w : World) : Prop where
 mu : Mut [b + 1 + 1] wr w
 kt_m : L 1 = false → w.heap[b + 1 + 1]? = some (cobj 34 m)
 kr_m : L 1 = true → w.heap[b + 1 + 1]? = some (cobj 34 m)
 e0 : L 0 = true → s 29 = mval m
 b1_0 : L 1 = true → L 0 = true
set_option maxRecDepth 100000 in
set_option maxHeartbeats 4000000 in
theorem tay_series (hh : List (Int × Int)) (ha : hh.length = 22) (n0 n1 n2 n3 n4 n5 : Int) (hz0 : sAdd (0, 0) (n0, n0) = ((n0, n0), 0)) (w : World) :
  Calls Tryz.prog 40 #[mval hh, .agg #[.int .i64 n0, .int .i64 n1, .int .i64 n2, .int .i64 n3, .int .i64 n4, .int .i64 n5]] w fun e w' => Ends mval (tSeries hh [n1, n2, n3, n4, n5] (zeroM.set 0 (n0, n0))) e ∧ Below w.heap.size w w' := by
 have HL := lh ha
 have HZ0 := lh hz0
 have HIX := lh (show ∀ k : Nat, k < 6 → ∀ W, (Instr.index 74 (.agg #[.int .i64 n0, .int .i64 n1, .int .i64 n2, .int .i64 n3, .int .i64 n4, .int .i64 n5]) (.int .i64 (k : Int))).run Tryz.prog W = .ok (.int .i64 ([n0, n1, n2, n3, n4, n5].getD k 0)) W from by
  intro k hk W
  rcases k with _ | _ | _ | _ | _ | _ | k <;> first | omega | kernel_rfl)
 obtain ⟨tgt, htgt⟩ : ∃ t, tSeries hh [n1, n2, n3, n4, n5] (zeroM.set 0 (n0, n0)) = t := ⟨_, rfl⟩
 have HT := lh htgt
 rw [htgt]
 clear ha hz0 htgt
 go_enter Tryz.func40, Tryz.ntmps40
 go_wp2_with fail
 rename_i x1 cs1 hc1
 obtain rfl : (mc hh).toArray = cs1 := Value.agg.inj hc1
 clear hc1
 obtain ⟨b, hb⟩ : ∃ b, w.heap.size = b := ⟨_, rfl⟩
 refine wp_world (fun W => Mut [] w W ∧ b + 3 ≤ W.heap.size ∧ W.heap[b]? = some (cobj 34 hh) ∧ W.heap[b + 1 + 1]? = some (cobj 34 zeroM)) ?_
  (by
   rw [← hb]
   exact ⟨(((Mut.refl _ _).alloc _).alloc _).alloc _, by simp, heap_up _ (heap_up _ (heap_at _ rfl)), heap_at (cobj 34 zeroM) (by simp)⟩)
 rintro W1 ⟨hm, hs, hA, hO⟩
 rw [hb]
 rename_i Q' K hK
 have HK := lh hK
 have HBW := lh hb
 have HS4 := lh hs
 have HA1 := lh hA
 have HM1 := lh hm
 clear hK hm hs hA hb
 go_loopw [8] (fun x wr => ∃ k : Nat, k ≤ 6 ∧ x = .int .i64 k ∧ Hid (∃ m : List (Int × Int), m.length = 22 ∧ Mut [b + 1 + 1] W1 wr ∧ wr.heap[b + 1 + 1]? = some (cobj 34 m) ∧ (k = 0 → m = zeroM) ∧ (1 ≤ k → tSeries hh ([n0, n1, n2, n3, n4, n5].drop k) m = tgt))) (fun x _ => 6 - (intOf x).toNat)
 case atStart => exact ⟨0, by omega, rfl, lh ⟨zeroM, rfl, Mut.refl _ _, hO, fun _ => rfl, fun h => by omega⟩⟩
 case round =>
  clear hO
  obtain ⟨k, hn, rfl, HG⟩ := hrel
  obtain ⟨m, hol, hmu, ho, hg0, hgo⟩ := HG.out
  have hsz := HS4.out
  have HML := lh hol
  have HMM := lh ho
  have HMU := lh hmu
  have HM := lh ((HM1.out.up (S' := [b + 1 + 1]) (by simp)).trans hmu)
  have HG0 := lh hg0
  have HGO := lh hgo
  have HH := lh ((hmu.same _ (lt_of_block HA1.out) (notin1 (by omega))).trans HA1.out)
  clear HG hol hmu ho hgo hg0 hsz
  rcases Nat.lt_or_ge k 6 with hk | hk
  ·have HKL := lh hk
   have hix := HIX.out k hk
   obtain ⟨sk, hsk⟩ : ∃ s, [n0, n1, n2, n3, n4, n5].getD k 0 = s := ⟨_, rfl⟩
   rw [hsk] at hix
   have HSK := lh hsk
   have hd : decide ((k : Int) < 6) = true := by simp; omega
   have hlt : (k : Int) < 6 := by omega
   have hk0 : (0 : Int) ≤ k := by omega
   clear hn hk hsk
   refine wsk fun K1 HK1 => ?_
   go_wp2_with fail
   refine HK1.out _ _ ?_
   refine wsk fun K2 HK2 => ?_
   go_wp2_with fail
   refine HK2.out _ _ ?_
   refine wsk fun K3 HK3 => ?_
   refine wp_block ?_
   refine wsk fun K4 HK4 => ?_
   go_wp2_with fail
   refine HK4.out _ _ ?_
   refine wsk fun K5 HK5 => ?_
   refine wsk fun K6 HK6 => ?_
   go_wp2_with fail
   refine HK6.out _ _ ?_
   by_cases hkz : k = 0
   ·have hd0 : decide ((0 : Int) < (k : Int)) = false := by simp; omega
    go_wp2_with fail
    refine HK5.out _ _ ?_
    have HKZ := lh hkz
    clear hkz hd0
    refine wp_cut_mergeP (n8 (n8 (nn :: some 17 :: some 18 :: some 19 :: some 20 :: some 21 :: some 22 :: some 23 :: some 24 :: some 25 :: some 26 :: some 27 :: nn :: nn :: []))) (fun _ w' => Mut [b + 1 + 1] wr w' ∧ w'.heap[b + 1 + 1]? = some (cobj 34 (m.set 0 (sAdd (tAt m 0) (sk, sk)).1)) ∧ ((sAdd (tAt m 0) ((sk, sk)))).2 = 0) (fun ch w' => ch = brk (fstE [((sAdd (tAt m 0) ((sk, sk)))).2]) ∧ ¬ fstE [((sAdd (tAt m 0) ((sk, sk)))).2] = 0 ∧ Mut [b + 1 + 1] wr w') ?_ ?_ ?_
    ·intro Q2 hQ2 hP2
     refine wpG ?_
     refine wp_region_G (b := true) (Pn := (fun ch w' => ch = brk (fstE [((sAdd (tAt m 0) ((sk, sk)))).2]) ∧ ¬ fstE [((sAdd (tAt m 0) ((sk, sk)))).2] = 0 ∧ Mut [b + 1 + 1] wr w')) (Se6 wr b hh m sk) (by kernel_rfl) (by kernel_rfl) ?_ ?_ ?_ ?_
     ·exact ⟨Mut.start _ true _, fun _ => HMM.out, nB, nB, nB, nB, nB, nB, nB, nB, nB, nB, nB, nB, nB, nB⟩
     ·refine AllSP.cons ?_ (AllSP.cons ?_ (AllSP.cons ?_ (AllSP.cons ?_ (AllSP.cons ?_ (AllSP.cons ?_ (AllSP.cons ?_ (AllSP.cons ?_ (AllSP.cons ?_ (AllSP.cons ?_ (AllSP.cons ?_ (AllSP.cons ?_ AllSP.nil)))))))))))
      ·intro L s w2 h hk hd hn
       have s4 : s 4 = _ := hk 4 (by kernel_rfl)
       refine sP fun K hK => ?_
       exact rs_field rfl s4 (fl_model0 _ _) (hK _ _ { h with e0 := fun _ => rfl })
      ·intro L s w2 h hk hd hn
       have s17 := h.e0 hd.1
       refine sP fun K hK => ?_
       exact rs_index rfl s17 rfl (ix_model _ 0 (by omega)) (hK _ _ { h with e1 := fun _ => rfl })
      ·intro L s w2 h hk hd hn
       have s18 := h.e1 hd.1
       have kb := (h.kt_m (bF h.b11_2 hn))
       refine sP fun K hK => ?_
       exact rs_load rfl s18 (sp_load (p := 0) kb (by have := (HML.out : m.length = 22); omega)) (hK _ _ { h with e2 := fun _ => rfl, b11_2 := fun _ => rfl })
      ·intro L s w2 h hk hd hn
       have s6 : s 6 = _ := hk 6 (by kernel_rfl)
       refine sP fun K hK => ?_
       exact rs_move rfl s6 (hK _ _ { h with e3 := fun _ => rfl })
      ·intro L s w2 h hk hd hn
       have s20 := h.e3 hd.1
       refine sP fun K hK => ?_
       go_simp
       refine (tm_point sk _).mono ?_
       rintro e w3 ⟨rfl, hb⟩
       exact .inl ⟨_, rfl, hK _ _ { h with mu := h.mu.step hb, kt_m := fun a => bk hb (h.kt_m a), kr_m := fun a => bk hb (h.kr_m a), e4 := fun _ => rfl }⟩
      ·intro L s w2 h hk hd hn
       have s19 := h.e2 hd.1
       have s21 := h.e4 hd.2.1
       refine sP fun K hK => ?_
       go_simp
       refine (tm_add (tAt m 0) ((sk, sk)) _).mono ?_
       rintro e w3 ⟨rfl, hb⟩
       exact .inl ⟨_, rfl, hK _ _ { h with mu := h.mu.step hb, kt_m := fun a => bk hb (h.kt_m a), kr_m := fun a => bk hb (h.kr_m a), e5 := fun _ => rfl }⟩
      ·intro L s w2 h hk hd hn
       have s22 := h.e5 hd.1
       refine sP fun K hK => ?_
       exact rs_extract rfl s22 rfl (hK _ _ { h with e6 := fun _ => rfl })
      ·intro L s w2 h hk hd hn
       have s22 := h.e5 hd.1
       refine sP fun K hK => ?_
       exact rs_extract rfl s22 rfl (hK _ _ { h with e7 := fun _ => rfl })
      ·intro L s w2 h hk hd hn
       have s23 := h.e6 hd.1
       have s24 := h.e7 hd.2.1
       refine sP fun K hK => ?_
       go_simp
       refine (tm_must (((sAdd (tAt m 0) ((sk, sk)))).1) (((sAdd (tAt m 0) ((sk, sk)))).2) _).mono ?_
       rintro e w3 ⟨⟨hz, rfl⟩ | ⟨hz, rfl⟩, hb⟩
       ·exact .inl ⟨_, rfl, hK _ _ { h with mu := h.mu.step hb, kt_m := fun a => bk hb (h.kt_m a), kr_m := fun a => bk hb (h.kr_m a), e8 := fun _ => rfl, z8 := fun _ => hz }⟩
       ·exact .inr ⟨_, rfl, congrArg brk (show ((sAdd (tAt m 0) ((sk, sk)))).2 = fstE [((sAdd (tAt m 0) ((sk, sk)))).2] from (by rw [fstE_1 (show ¬ ((sAdd (tAt m 0) ((sk, sk)))).2 = 0 from hz)])), (show ¬ fstE [((sAdd (tAt m 0) ((sk, sk)))).2] = 0 from (by rw [fstE_1 (show ¬ ((sAdd (tAt m 0) ((sk, sk)))).2 = 0 from hz)]; exact hz)), h.mu.step hb⟩
      ·intro L s w2 h hk hd hn
       have s4 : s 4 = _ := hk 4 (by kernel_rfl)
       refine sP fun K hK => ?_
       exact rs_field rfl s4 (fl_model0 _ _) (hK _ _ { h with e9 := fun _ => rfl })
      ·intro L s w2 h hk hd hn
       have s26 := h.e9 hd.1
       refine sP fun K hK => ?_
       exact rs_index rfl s26 rfl (ix_model _ 0 (by omega)) (hK _ _ { h with e10 := fun _ => rfl })
      ·intro L s w2 h hk hd hn
       have s27 := h.e10 hd.1
       have s25 := h.e8 hd.2.1
       have kb := h.kt_m hn
       refine sP fun K hK => ?_
       exact rs_store rfl s27 s25 (sp_store (p := 0) kb (by have := (HML.out : m.length = 22); omega) (((sAdd (tAt m 0) ((sk, sk)))).1)) (hK _ _ { h with mu := h.mu.put (List.Mem.head _) _, kt_m := nF, kr_m := fun _ => pH kb, b11_2 := fun _ => hd.2.2.2.2.2.1 })
     ·intro L s w2 h hk hl
      refine cA ?_ (hQ2 s w2 (⟨h.mu, h.kr_m (hl 11 (by decide)), h.z8 (hl 8 (by decide))⟩))
      exact frame_eq hk (by kernel_rfl) (by kernel_rfl)
     ·intro c s w2 hc
      exact hP2 _ _ _ hc
    ·rintro s6 VV ⟨h1, h2, z1⟩
     simp only [mergeL]
     have HE := lh (show ∃ m' : List (Int × Int), m'.length = 22 ∧ Mut [b + 1 + 1] W1 VV ∧ VV.heap[b + 1 + 1]? = some (cobj 34 m') ∧ (k + 1 = 0 → m' = zeroM) ∧ (1 ≤ k + 1 → tSeries hh ([n0, n1, n2, n3, n4, n5].drop (k + 1)) m' = tgt) from
      ⟨_, by rw [List.length_set]; exact HML.out, HMU.out.trans h1, h2, fun h => by omega, fun _ => by
       have hm := HG0.out HKZ.out
       have hs := HSK.out
       rw [HKZ.out] at hs
       rw [HKZ.out, hm]
       have hs' : n0 = sk := hs
       rw [← hs', show tAt zeroM 0 = (0, 0) from rfl, HZ0.out]
       exact HT.out⟩)
     clear h1 h2 z1
     refine HK3.out _ _ ?_
     go_wp2_with fail
     go_roundw
     case rel => first | exact ⟨k + 1, by have := HKL.out; omega, by go_num, HE⟩ | ((repeat apply Exists.intro); exact ⟨⟨k + 1, by have := HKL.out; omega, by go_num, HE⟩, rfl⟩)
     case measure => simp [intOf]; omega
    ·rintro e l'' w' ⟨rfl, hz, h2⟩
     rw [fstE_one] at hz ⊢
     have hm := HG0.out HKZ.out
     have hs := HSK.out
     rw [HKZ.out] at hs
     have hs' : n0 = sk := hs
     rw [hm, ← hs', show tAt zeroM 0 = (0, 0) from rfl, HZ0.out] at hz
     exact absurd rfl hz
   ·have HKZ := lh hkz
    have hgt : (0 : Int) < (k : Int) := by omega
    have hdg : decide ((0 : Int) < (k : Int)) = true := by simp; omega
    clear hkz
    refine wp_cond_true (by first | rfl | exact congrArg Value.bool hdg | exact congrArg Value.bool (decide_eq_true (show 0 < k by omega))) ?_
    have HLEN := lh (show (tProduct hh m).2 = 0 → (tProduct hh m).1.length = 22 from tProduct_len)
    have HDR := lh (show [n0, n1, n2, n3, n4, n5].drop k = sk :: [n0, n1, n2, n3, n4, n5].drop (k + 1) from by
     have h1 : k < 6 := HKL.out
     have h2 := HSK.out
     rw [← h2, List.drop_eq_getElem_cons (by simpa using h1)]
     simp [List.getD, List.getElem?_eq_getElem (show k < [n0, n1, n2, n3, n4, n5].length by simpa using h1)])
    replace HGO := lh (show tgt = thenE [] (tProduct hh m) fun m => thenE [] (sAdd (tAt m 0) (sk, sk)) fun c => tSeries hh ([n0, n1, n2, n3, n4, n5].drop (k + 1)) (m.set 0 c) from by
     have hg := HGO.out (by have := HKZ.out; omega)
     rw [HDR.out, tSeries] at hg
     exact hg.symm)
    refine wp_cut_mergeP (n8 (nn :: nn :: nn :: nn :: nn :: nn :: some 14 :: some 15 :: some 16 :: n8 (nn :: nn :: nn :: nn :: nn :: []))) (fun _ w' => Mut [b + 1 + 1] wr w' ∧ w'.heap[b + 1 + 1]? = some (cobj 34 ((tProduct hh m).1)) ∧ (tProduct hh m).2 = 0) (fun ch w' => ch = brk (fstE [(tProduct hh m).2]) ∧ ¬ fstE [(tProduct hh m).2] = 0 ∧ Mut [b + 1 + 1] wr w') ?_ ?_ ?_
    ·intro Q2 hQ2 hP2
     refine wpG ?_
     refine wp_region_G (b := false) (Pn := (fun ch w' => ch = brk (fstE [(tProduct hh m).2]) ∧ ¬ fstE [(tProduct hh m).2] = 0 ∧ Mut [b + 1 + 1] wr w')) (Se5 wr b hh m) (by kernel_rfl) (by kernel_rfl) ?_ ?_ ?_ ?_
     ·exact ⟨Mut.start _ false _, fun _ => HMM.out, nB, nB, nB, nB, nB, nB⟩
     ·refine AllSP.cons ?_ (AllSP.cons ?_ (AllSP.cons ?_ (AllSP.cons ?_ AllSP.nil)))
      ·intro L s w2 h hk hd hn
       have s2 : s 2 = _ := hk 2 (by kernel_rfl)
       have kb := ((h.mu.same _ ((Array.getElem?_eq_some_iff.1 HH.out).1) (notin1 (by omega))).trans HH.out)
       refine sP fun K hK => ?_
       exact rs_load rfl s2 (md_load kb HL.out) (hK _ _ { h with e0 := fun _ => rfl })
      ·intro L s w2 h hk hd hn
       have s4 : s 4 = _ := hk 4 (by kernel_rfl)
       have kb := (h.kt_m (bF h.b3_1 hn))
       refine sP fun K hK => ?_
       exact rs_load rfl s4 (md_load kb HML.out) (hK _ _ { h with e1 := fun _ => rfl, b3_1 := fun _ => rfl })
      ·intro L s w2 h hk hd hn
       have s14 := h.e0 hd.1
       have s15 := h.e1 hd.2.1
       refine sP fun K hK => ?_
       go_simp
       refine (tay_product hh m HL.out HML.out _).mono ?_
       rintro e w3 ⟨⟨hz, rfl⟩ | ⟨hz, rfl⟩, hb⟩
       ·exact .inl ⟨_, rfl, hK _ _ { h with mu := h.mu.step hb, kt_m := fun a => bk hb (h.kt_m a), kr_m := fun a => bk hb (h.kr_m a), e2 := fun _ => rfl, z2 := fun _ => hz }⟩
       ·exact .inr ⟨_, rfl, congrArg brk (show (tProduct hh m).2 = fstE [(tProduct hh m).2] from (by rw [fstE_1 (show ¬ (tProduct hh m).2 = 0 from hz)])), (show ¬ fstE [(tProduct hh m).2] = 0 from (by rw [fstE_1 (show ¬ (tProduct hh m).2 = 0 from hz)]; exact hz)), h.mu.step hb⟩
      ·intro L s w2 h hk hd hn
       have s4 : s 4 = _ := hk 4 (by kernel_rfl)
       have s16 := h.e2 hd.1
       have kb := h.kt_m hn
       refine sP fun K hK => ?_
       exact rs_store rfl s4 s16 (md_store kb HML.out _ (HLEN.out (h.z2 hd.1))) (hK _ _ { h with mu := h.mu.put (List.Mem.head _) _, kt_m := nF, kr_m := fun _ => pH kb, b3_1 := fun _ => hd.2.2.2.1 })
     ·intro L s w2 h hk hl
      refine cA ?_ (hQ2 s w2 (⟨h.mu, h.kr_m (hl 3 (by decide)), h.z2 (hl 2 (by decide))⟩))
      exact frame_eq hk (by kernel_rfl) (by kernel_rfl)
     ·intro c s w2 hc
      exact hP2 _ _ _ hc
    rotate_left
    ·rintro e l'' w' ⟨rfl, hz, h2⟩
     rw [fstE_one] at hz ⊢
     have he : tgt.2 = (tProduct hh m).2 := by rw [HGO.out, thenE_bad hz]
     rw [← he] at hz ⊢
     exact ⟨rfl, .inr ⟨hz, rfl⟩, by have hX := (HM.out.trans h2).below (Nat.le_refl _) (by have := HBW.out; intro x hx; simp at hx; omega); first | exact hX | (rw [HBW.out] at hX; exact hX)⟩
    rintro s5 V ⟨h1, h2, z1⟩
    simp only [mergeL]
    have HP := lh (show tgt = _ from by rw [HGO.out, thenE_ok z1])
    replace HML := lh (HLEN.out z1)
    generalize (tProduct hh m).1 = m at *
    replace HMM := lh h2
    replace HMU := lh (HMU.out.trans h1)
    replace HM := lh (HM.out.trans h1)
    replace HH := lh ((h1.same _ (lt_of_block HH.out) (notin1 (by omega))).trans HH.out)
    clear h1 h2 z1
    refine HK5.out _ _ ?_
    refine wp_cut_mergeP (n8 (n8 (nn :: some 17 :: some 18 :: some 19 :: some 20 :: some 21 :: some 22 :: some 23 :: some 24 :: some 25 :: some 26 :: some 27 :: nn :: nn :: []))) (fun _ w' => Mut [b + 1 + 1] V w' ∧ w'.heap[b + 1 + 1]? = some (cobj 34 (m.set 0 (sAdd (tAt m 0) (sk, sk)).1)) ∧ ((sAdd (tAt m 0) ((sk, sk)))).2 = 0) (fun ch w' => ch = brk (fstE [((sAdd (tAt m 0) ((sk, sk)))).2]) ∧ ¬ fstE [((sAdd (tAt m 0) ((sk, sk)))).2] = 0 ∧ Mut [b + 1 + 1] V w') ?_ ?_ ?_
    ·intro Q2 hQ2 hP2
     refine wpG ?_
     refine wp_region_G (b := true) (Pn := (fun ch w' => ch = brk (fstE [((sAdd (tAt m 0) ((sk, sk)))).2]) ∧ ¬ fstE [((sAdd (tAt m 0) ((sk, sk)))).2] = 0 ∧ Mut [b + 1 + 1] V w')) (Sf6 V b hh m sk) (by kernel_rfl) (by kernel_rfl) ?_ ?_ ?_ ?_
     ·exact ⟨Mut.start _ true _, fun _ => HMM.out, nB, nB, nB, nB, nB, nB, nB, nB, nB, nB, nB, nB, nB, nB⟩
     ·refine AllSP.cons ?_ (AllSP.cons ?_ (AllSP.cons ?_ (AllSP.cons ?_ (AllSP.cons ?_ (AllSP.cons ?_ (AllSP.cons ?_ (AllSP.cons ?_ (AllSP.cons ?_ (AllSP.cons ?_ (AllSP.cons ?_ (AllSP.cons ?_ AllSP.nil)))))))))))
      ·intro L s w2 h hk hd hn
       have s4 : s 4 = _ := hk 4 (by kernel_rfl)
       refine sP fun K hK => ?_
       exact rs_field rfl s4 (fl_model0 _ _) (hK _ _ { h with e0 := fun _ => rfl })
      ·intro L s w2 h hk hd hn
       have s17 := h.e0 hd.1
       refine sP fun K hK => ?_
       exact rs_index rfl s17 rfl (ix_model _ 0 (by omega)) (hK _ _ { h with e1 := fun _ => rfl })
      ·intro L s w2 h hk hd hn
       have s18 := h.e1 hd.1
       have kb := (h.kt_m (bF h.b11_2 hn))
       refine sP fun K hK => ?_
       exact rs_load rfl s18 (sp_load (p := 0) kb (by have := (HML.out : m.length = 22); omega)) (hK _ _ { h with e2 := fun _ => rfl, b11_2 := fun _ => rfl })
      ·intro L s w2 h hk hd hn
       have s6 : s 6 = _ := hk 6 (by kernel_rfl)
       refine sP fun K hK => ?_
       exact rs_move rfl s6 (hK _ _ { h with e3 := fun _ => rfl })
      ·intro L s w2 h hk hd hn
       have s20 := h.e3 hd.1
       refine sP fun K hK => ?_
       go_simp
       refine (tm_point sk _).mono ?_
       rintro e w3 ⟨rfl, hb⟩
       exact .inl ⟨_, rfl, hK _ _ { h with mu := h.mu.step hb, kt_m := fun a => bk hb (h.kt_m a), kr_m := fun a => bk hb (h.kr_m a), e4 := fun _ => rfl }⟩
      ·intro L s w2 h hk hd hn
       have s19 := h.e2 hd.1
       have s21 := h.e4 hd.2.1
       refine sP fun K hK => ?_
       go_simp
       refine (tm_add (tAt m 0) ((sk, sk)) _).mono ?_
       rintro e w3 ⟨rfl, hb⟩
       exact .inl ⟨_, rfl, hK _ _ { h with mu := h.mu.step hb, kt_m := fun a => bk hb (h.kt_m a), kr_m := fun a => bk hb (h.kr_m a), e5 := fun _ => rfl }⟩
      ·intro L s w2 h hk hd hn
       have s22 := h.e5 hd.1
       refine sP fun K hK => ?_
       exact rs_extract rfl s22 rfl (hK _ _ { h with e6 := fun _ => rfl })
      ·intro L s w2 h hk hd hn
       have s22 := h.e5 hd.1
       refine sP fun K hK => ?_
       exact rs_extract rfl s22 rfl (hK _ _ { h with e7 := fun _ => rfl })
      ·intro L s w2 h hk hd hn
       have s23 := h.e6 hd.1
       have s24 := h.e7 hd.2.1
       refine sP fun K hK => ?_
       go_simp
       refine (tm_must (((sAdd (tAt m 0) ((sk, sk)))).1) (((sAdd (tAt m 0) ((sk, sk)))).2) _).mono ?_
       rintro e w3 ⟨⟨hz, rfl⟩ | ⟨hz, rfl⟩, hb⟩
       ·exact .inl ⟨_, rfl, hK _ _ { h with mu := h.mu.step hb, kt_m := fun a => bk hb (h.kt_m a), kr_m := fun a => bk hb (h.kr_m a), e8 := fun _ => rfl, z8 := fun _ => hz }⟩
       ·exact .inr ⟨_, rfl, congrArg brk (show ((sAdd (tAt m 0) ((sk, sk)))).2 = fstE [((sAdd (tAt m 0) ((sk, sk)))).2] from (by rw [fstE_1 (show ¬ ((sAdd (tAt m 0) ((sk, sk)))).2 = 0 from hz)])), (show ¬ fstE [((sAdd (tAt m 0) ((sk, sk)))).2] = 0 from (by rw [fstE_1 (show ¬ ((sAdd (tAt m 0) ((sk, sk)))).2 = 0 from hz)]; exact hz)), h.mu.step hb⟩
      ·intro L s w2 h hk hd hn
       have s4 : s 4 = _ := hk 4 (by kernel_rfl)
       refine sP fun K hK => ?_
       exact rs_field rfl s4 (fl_model0 _ _) (hK _ _ { h with e9 := fun _ => rfl })
      ·intro L s w2 h hk hd hn
       have s26 := h.e9 hd.1
       refine sP fun K hK => ?_
       exact rs_index rfl s26 rfl (ix_model _ 0 (by omega)) (hK _ _ { h with e10 := fun _ => rfl })
      ·intro L s w2 h hk hd hn
       have s27 := h.e10 hd.1
       have s25 := h.e8 hd.2.1
       have kb := h.kt_m hn
       refine sP fun K hK => ?_
       exact rs_store rfl s27 s25 (sp_store (p := 0) kb (by have := (HML.out : m.length = 22); omega) (((sAdd (tAt m 0) ((sk, sk)))).1)) (hK _ _ { h with mu := h.mu.put (List.Mem.head _) _, kt_m := nF, kr_m := fun _ => pH kb, b11_2 := fun _ => hd.2.2.2.2.2.1 })
     ·intro L s w2 h hk hl
      refine cA ?_ (hQ2 s w2 (⟨h.mu, h.kr_m (hl 11 (by decide)), h.z8 (hl 8 (by decide))⟩))
      exact frame_eq hk (by kernel_rfl) (by kernel_rfl)
     ·intro c s w2 hc
      exact hP2 _ _ _ hc
    ·rintro s6 VV ⟨h1, h2, z1⟩
     simp only [mergeL]
     have HE := lh (show ∃ m' : List (Int × Int), m'.length = 22 ∧ Mut [b + 1 + 1] W1 VV ∧ VV.heap[b + 1 + 1]? = some (cobj 34 m') ∧ (k + 1 = 0 → m' = zeroM) ∧ (1 ≤ k + 1 → tSeries hh ([n0, n1, n2, n3, n4, n5].drop (k + 1)) m' = tgt) from
      ⟨_, by rw [List.length_set]; exact HML.out, HMU.out.trans h1, h2, fun h => by omega, fun _ => by
       have hp := HP.out
       rw [thenE_ok z1] at hp
       exact hp.symm⟩)
     clear h1 h2 z1
     refine HK3.out _ _ ?_
     go_wp2_with fail
     go_roundw
     case rel => first | exact ⟨k + 1, by have := HKL.out; omega, by go_num, HE⟩ | ((repeat apply Exists.intro); exact ⟨⟨k + 1, by have := HKL.out; omega, by go_num, HE⟩, rfl⟩)
     case measure => simp [intOf]; omega
    ·rintro e l'' w' ⟨rfl, hz, h2⟩
     rw [fstE_one] at hz ⊢
     have he : tgt.2 = (sAdd (tAt m 0) (sk, sk)).2 := by rw [HP.out, thenE_bad hz]
     rw [← he] at hz ⊢
     exact ⟨rfl, .inr ⟨hz, rfl⟩, by have hX := (HM.out.trans h2).below (Nat.le_refl _) (by have := HBW.out; intro x hx; simp at hx; omega); first | exact hX | (rw [HBW.out] at hX; exact hX)⟩
  ·obtain rfl : k = 6 := by omega
   have hg : tSeries hh [] m = tgt := HGO.out (by omega)
   have HGT := lh (show tgt = (m, 0) from hg.symm)
   clear hk hn hg
   go_wp2_with fail
   refine HK.out _ _ ?_
   refine wsk fun K8 HK8 => ?_
   refine wp_cut_mergeP (n8 (n8 (n8 (nn :: nn :: nn :: nn :: nn :: some 29 :: [])))) (fun _ w' => Mut [b + 1 + 1] wr w' ∧ w'.heap[b + 1 + 1]? = some (cobj 34 m)) (fun _ _ => False) ?_ ?_ ?_
   ·intro Q2 hQ2 hP2
    refine wpG ?_
    refine wp_region_G (b := false) (Pn := (fun _ _ => False)) (Se8 wr b hh m) (by kernel_rfl) (by kernel_rfl) ?_ ?_ ?_ ?_
    ·exact ⟨Mut.start _ false _, fun _ => HMM.out, nB, nB, nB⟩
    ·refine AllSP.cons ?_ (AllSP.cons ?_ AllSP.nil)
     ·intro L s w2 h hk hd hn
      have s4 : s 4 = _ := hk 4 (by kernel_rfl)
      have kb := (h.kt_m (bF h.b1_0 hn))
      refine sP fun K hK => ?_
      exact rs_load rfl s4 (md_load kb HML.out) (hK _ _ { h with e0 := fun _ => rfl, b1_0 := fun _ => rfl })
     ·intro L s w2 h hk hd hn
      have s4 : s 4 = _ := hk 4 (by kernel_rfl)
      have s29 := h.e0 hd.1
      have kb := h.kt_m hn
      refine sP fun K hK => ?_
      exact rs_store rfl s4 s29 (md_store kb HML.out _ HML.out) (hK _ _ { h with mu := h.mu.put (List.Mem.head _) _, kt_m := nF, kr_m := fun _ => pH kb, b1_0 := fun _ => hd.1 })
    ·intro L s w2 h hk hl
     refine cA ?_ (hQ2 s w2 (⟨h.mu, h.kr_m (hl 1 (by decide))⟩))
     exact frame_eq hk (by kernel_rfl) (by kernel_rfl)
    ·intro c s w2 hc
     exact hc.elim
   ·rintro s8 VV ⟨h1, h2⟩
    simp only [mergeL]
    refine HK8.out _ _ ?_
    refine wp_ret ?_
    exact bodyPost_ret (v := mval m) (res_model Tryz.results40 rfl (md_loadVar h2 HML.out)) rfl ⟨.inl ⟨by rw [HGT.out], by rw [HGT.out]⟩, by have hX := (HM.out.trans h1).below (Nat.le_refl _) (by have := HBW.out; intro x hx; simp at hx; omega); first | exact hX | (rw [HBW.out] at hX; exact hX)⟩
   ·rintro _ _ _ h
    exact h.elim
end Go.Proofs.YthhkcfpljgdnhaaGreat
