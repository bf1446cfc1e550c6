/- Package vec: contracts of the calculator's methods and of each. Printed by wip/genVA.py. -/
import Derived.Deep.DeepCutAuto
import Derived.Deep.CutBlock
import Derived.Test.YtmnccbhlllnlbaaGreatVecA
import Derived.Test.YtmnccbhlllnlbaaGreatRegInvB
import Derived.Test.YtmnccbhlllnlbaaGreatSpanY
import Derived.Test.YtmnccbhlllnlbaaGreatPowE
namespace Go.Proofs.YtmnccbhlllnlbaaGreat
open Go.RowKit Mnc
attribute [local go_sem] RunS_value RunS_skip RunS_enter evS_tmp evS_const evS_global evS_func

set_option maxHeartbeats 2000000 in
theorem vec_add (S : Nat) (e : Int) (x y : Int × Int) (w : World) (h : w.heap[S]? = some (stp e)) :
    Calls Tryz.prog 38 #[.pointer (some ⟨S, 0, none⟩), .agg #[.int .i64 x.1, .int .i64 x.2], .agg #[.int .i64 y.1, .int .i64 y.2]] w fun r w' => r = .returned (.agg #[.int .i64 (sAdd x y).1.1, .int .i64 (sAdd x y).1.2]) ∧ Mv w w' S (fst2 e (sAdd x y).2) := by
  have hS := (((Vk.start h).al (.cells #[.int .i64 x.1, .int .i64 x.2] 23 (0, 0))).alN (.cells #[.int .i64 y.1, .int .i64 y.2] 23 (0, 0)) (n := w.heap.size + 1) (by simp)).alN (.cells #[.int .i64 0, .int .i64 0] 23 (0, 0)) (n := w.heap.size + 1 + 1) (by simp)
  have HC := Lib.hid (fun W => span_Add x y W)
  have HT := Lib.hid (fun W h => vec_take S e (sAdd x y).2 (sAdd x y).1 W h)
  generalize sAdd x y = r at *
  clear h
  go_enter Tryz.func38, Tryz.ntmps38
  go_wp2_with fail
  refine (HC.out _).mono ?_; rintro e1 w1 ⟨rfl, hb⟩
  replace hS := hS.on hb
  clear hb HC
  go_wp2_with fail
  refine (HT.out _ hS.mv.st).mono ?_; rintro e2 w2 ⟨rfl, hm⟩
  replace hS := hS.next hm
  clear hm HT
  have b := (hS.blk (w.heap.size + 1 + 1, .cells #[.int .i64 0, .int .i64 0] 23 (0, 0)) (by simp)).2
  have c0 := cell_two0 b
  have c1 := cell_two1 b
  have f0 := free_two (i := 0) b
  have f1 := free_two (i := 1) b
  have lb := lt_of_block b
  have HE := Lib.hid ((hS.sub (cs := [(w.heap.size + 1 + 1, .cells #[.int .i64 0, .int .i64 0] 23 (0, 0))]) (by simp)).st2 (by omega) (by simp) (.int .i64 r.1.1) (.int .i64 r.1.2))
  clear b hS
  go_wp2_with fail
  exact bodyPost_ret (v := .agg #[.int .i64 r.1.1, .int .i64 r.1.2]) (by simp [results, Tryz.results38, go_sem, c0, c1]) rfl ⟨rfl, HE.out.mv⟩

set_option maxHeartbeats 2000000 in
theorem vec_sub (S : Nat) (e : Int) (x y : Int × Int) (w : World) (h : w.heap[S]? = some (stp e)) :
    Calls Tryz.prog 42 #[.pointer (some ⟨S, 0, none⟩), .agg #[.int .i64 x.1, .int .i64 x.2], .agg #[.int .i64 y.1, .int .i64 y.2]] w fun r w' => r = .returned (.agg #[.int .i64 (sSub x y).1.1, .int .i64 (sSub x y).1.2]) ∧ Mv w w' S (fst2 e (sSub x y).2) := by
  have hS := (((Vk.start h).al (.cells #[.int .i64 x.1, .int .i64 x.2] 23 (0, 0))).alN (.cells #[.int .i64 y.1, .int .i64 y.2] 23 (0, 0)) (n := w.heap.size + 1) (by simp)).alN (.cells #[.int .i64 0, .int .i64 0] 23 (0, 0)) (n := w.heap.size + 1 + 1) (by simp)
  have HC := Lib.hid (fun W => span_Sub x y W)
  have HT := Lib.hid (fun W h => vec_take S e (sSub x y).2 (sSub x y).1 W h)
  generalize sSub x y = r at *
  clear h
  go_enter Tryz.func42, Tryz.ntmps42
  go_wp2_with fail
  refine (HC.out _).mono ?_; rintro e1 w1 ⟨rfl, hb⟩
  replace hS := hS.on hb
  clear hb HC
  go_wp2_with fail
  refine (HT.out _ hS.mv.st).mono ?_; rintro e2 w2 ⟨rfl, hm⟩
  replace hS := hS.next hm
  clear hm HT
  have b := (hS.blk (w.heap.size + 1 + 1, .cells #[.int .i64 0, .int .i64 0] 23 (0, 0)) (by simp)).2
  have c0 := cell_two0 b
  have c1 := cell_two1 b
  have f0 := free_two (i := 0) b
  have f1 := free_two (i := 1) b
  have lb := lt_of_block b
  have HE := Lib.hid ((hS.sub (cs := [(w.heap.size + 1 + 1, .cells #[.int .i64 0, .int .i64 0] 23 (0, 0))]) (by simp)).st2 (by omega) (by simp) (.int .i64 r.1.1) (.int .i64 r.1.2))
  clear b hS
  go_wp2_with fail
  exact bodyPost_ret (v := .agg #[.int .i64 r.1.1, .int .i64 r.1.2]) (by simp [results, Tryz.results42, go_sem, c0, c1]) rfl ⟨rfl, HE.out.mv⟩

set_option maxHeartbeats 2000000 in
theorem vec_mul (S : Nat) (e : Int) (x y : Int × Int) (w : World) (h : w.heap[S]? = some (stp e)) :
    Calls Tryz.prog 47 #[.pointer (some ⟨S, 0, none⟩), .agg #[.int .i64 x.1, .int .i64 x.2], .agg #[.int .i64 y.1, .int .i64 y.2]] w fun r w' => r = .returned (.agg #[.int .i64 (sMul x y).1.1, .int .i64 (sMul x y).1.2]) ∧ Mv w w' S (fst2 e (sMul x y).2) := by
  have hS := (((Vk.start h).al (.cells #[.int .i64 x.1, .int .i64 x.2] 23 (0, 0))).alN (.cells #[.int .i64 y.1, .int .i64 y.2] 23 (0, 0)) (n := w.heap.size + 1) (by simp)).alN (.cells #[.int .i64 0, .int .i64 0] 23 (0, 0)) (n := w.heap.size + 1 + 1) (by simp)
  have HC := Lib.hid (fun W => span_Mul x y W)
  have HT := Lib.hid (fun W h => vec_take S e (sMul x y).2 (sMul x y).1 W h)
  generalize sMul x y = r at *
  clear h
  go_enter Tryz.func47, Tryz.ntmps47
  go_wp2_with fail
  refine (HC.out _).mono ?_; rintro e1 w1 ⟨rfl, hb⟩
  replace hS := hS.on hb
  clear hb HC
  go_wp2_with fail
  refine (HT.out _ hS.mv.st).mono ?_; rintro e2 w2 ⟨rfl, hm⟩
  replace hS := hS.next hm
  clear hm HT
  have b := (hS.blk (w.heap.size + 1 + 1, .cells #[.int .i64 0, .int .i64 0] 23 (0, 0)) (by simp)).2
  have c0 := cell_two0 b
  have c1 := cell_two1 b
  have f0 := free_two (i := 0) b
  have f1 := free_two (i := 1) b
  have lb := lt_of_block b
  have HE := Lib.hid ((hS.sub (cs := [(w.heap.size + 1 + 1, .cells #[.int .i64 0, .int .i64 0] 23 (0, 0))]) (by simp)).st2 (by omega) (by simp) (.int .i64 r.1.1) (.int .i64 r.1.2))
  clear b hS
  go_wp2_with fail
  exact bodyPost_ret (v := .agg #[.int .i64 r.1.1, .int .i64 r.1.2]) (by simp [results, Tryz.results47, go_sem, c0, c1]) rfl ⟨rfl, HE.out.mv⟩

set_option maxHeartbeats 2000000 in
theorem vec_div (S : Nat) (e : Int) (x y : Int × Int) (w : World) (h : w.heap[S]? = some (stp e)) :
    Calls Tryz.prog 58 #[.pointer (some ⟨S, 0, none⟩), .agg #[.int .i64 x.1, .int .i64 x.2], .agg #[.int .i64 y.1, .int .i64 y.2]] w fun r w' => r = .returned (.agg #[.int .i64 (sDiv x y).1.1, .int .i64 (sDiv x y).1.2]) ∧ Mv w w' S (fst2 e (sDiv x y).2) := by
  have hS := (((Vk.start h).al (.cells #[.int .i64 x.1, .int .i64 x.2] 23 (0, 0))).alN (.cells #[.int .i64 y.1, .int .i64 y.2] 23 (0, 0)) (n := w.heap.size + 1) (by simp)).alN (.cells #[.int .i64 0, .int .i64 0] 23 (0, 0)) (n := w.heap.size + 1 + 1) (by simp)
  have HC := Lib.hid (fun W => span_Div x y W)
  have HT := Lib.hid (fun W h => vec_take S e (sDiv x y).2 (sDiv x y).1 W h)
  generalize sDiv x y = r at *
  clear h
  go_enter Tryz.func58, Tryz.ntmps58
  go_wp2_with fail
  refine (HC.out _).mono ?_; rintro e1 w1 ⟨rfl, hb⟩
  replace hS := hS.on hb
  clear hb HC
  go_wp2_with fail
  refine (HT.out _ hS.mv.st).mono ?_; rintro e2 w2 ⟨rfl, hm⟩
  replace hS := hS.next hm
  clear hm HT
  have b := (hS.blk (w.heap.size + 1 + 1, .cells #[.int .i64 0, .int .i64 0] 23 (0, 0)) (by simp)).2
  have c0 := cell_two0 b
  have c1 := cell_two1 b
  have f0 := free_two (i := 0) b
  have f1 := free_two (i := 1) b
  have lb := lt_of_block b
  have HE := Lib.hid ((hS.sub (cs := [(w.heap.size + 1 + 1, .cells #[.int .i64 0, .int .i64 0] 23 (0, 0))]) (by simp)).st2 (by omega) (by simp) (.int .i64 r.1.1) (.int .i64 r.1.2))
  clear b hS
  go_wp2_with fail
  exact bodyPost_ret (v := .agg #[.int .i64 r.1.1, .int .i64 r.1.2]) (by simp [results, Tryz.results58, go_sem, c0, c1]) rfl ⟨rfl, HE.out.mv⟩

set_option maxHeartbeats 2000000 in
theorem vec_neg (S : Nat) (e : Int) (x y : Int × Int) (w : World) (h : w.heap[S]? = some (stp e)) :
    Calls Tryz.prog 44 #[.pointer (some ⟨S, 0, none⟩), .agg #[.int .i64 x.1, .int .i64 x.2], .agg #[.int .i64 y.1, .int .i64 y.2]] w fun r w' => r = .returned (.agg #[.int .i64 (negF x y).1.1, .int .i64 (negF x y).1.2]) ∧ Mv w w' S (fst2 e (negF x y).2) := by
  have hS := (((Vk.start h).al (.cells #[.int .i64 x.1, .int .i64 x.2] 23 (0, 0))).alN (.cells #[.int .i64 y.1, .int .i64 y.2] 23 (0, 0)) (n := w.heap.size + 1) (by simp)).alN (.cells #[.int .i64 0, .int .i64 0] 23 (0, 0)) (n := w.heap.size + 1 + 1) (by simp)
  have HC := Lib.hid (fun W => span_Neg x W)
  have HT := Lib.hid (fun W h => vec_take S e (negF x y).2 (negF x y).1 W h)
  rw [show sNeg x = negF x y from rfl] at HC
  generalize negF x y = r at *
  clear h
  go_enter Tryz.func44, Tryz.ntmps44
  go_wp2_with fail
  refine (HC.out _).mono ?_; rintro e1 w1 ⟨rfl, hb⟩
  replace hS := hS.on hb
  clear hb HC
  go_wp2_with fail
  refine (HT.out _ hS.mv.st).mono ?_; rintro e2 w2 ⟨rfl, hm⟩
  replace hS := hS.next hm
  clear hm HT
  have b := (hS.blk (w.heap.size + 1 + 1, .cells #[.int .i64 0, .int .i64 0] 23 (0, 0)) (by simp)).2
  have c0 := cell_two0 b
  have c1 := cell_two1 b
  have f0 := free_two (i := 0) b
  have f1 := free_two (i := 1) b
  have lb := lt_of_block b
  have HE := Lib.hid ((hS.sub (cs := [(w.heap.size + 1 + 1, .cells #[.int .i64 0, .int .i64 0] 23 (0, 0))]) (by simp)).st2 (by omega) (by simp) (.int .i64 r.1.1) (.int .i64 r.1.2))
  clear b hS
  go_wp2_with fail
  exact bodyPost_ret (v := .agg #[.int .i64 r.1.1, .int .i64 r.1.2]) (by simp [results, Tryz.results44, go_sem, c0, c1]) rfl ⟨rfl, HE.out.mv⟩

structure Nq (W0 : World) (S P K3 K5 : Nat) (e : Int) (x : Int × Int) (r : (Int × Int) × Int) (L : Nat → Bool) (s : Nat → Value) (w : World) : Prop where
  st : L 5 = false → Vk W0 w S e [(K5, .cells #[.int .i64 0, .int .i64 0] 23 (0, 0)), (K3, .cells #[.int .i64 x.1, .int .i64 x.2] 23 (0, 0)), (P, .cells #[.pointer (some ⟨S, 0, none⟩)] 59 (0, 0))]
  st5 : L 5 = true → L 6 = false → Vk W0 w S (fst2 e r.2) [(K5, .cells #[.int .i64 0, .int .i64 0] 23 (0, 0)), (K3, .cells #[.int .i64 x.1, .int .i64 x.2] 23 (0, 0)), (P, .cells #[.pointer (some ⟨S, 0, none⟩)] 59 (0, 0))]
  st6 : L 6 = true → Vk W0 w S (fst2 e r.2) [(K5, .cells #[.int .i64 r.1.1, .int .i64 r.1.2] 23 (0, 0)), (K3, .cells #[.int .i64 x.1, .int .i64 x.2] 23 (0, 0)), (P, .cells #[.pointer (some ⟨S, 0, none⟩)] 59 (0, 0))]
  d0 : L 5 = true → L 0 = true
  d1 : L 5 = true → L 1 = true
  d2 : L 5 = true → L 2 = true
  d65 : L 6 = true → L 5 = true
  e0 : L 0 = true → s 6 = .pointer (some ⟨S, 0, none⟩)
  e1 : L 1 = true → s 7 = .agg #[.int .i64 x.1, .int .i64 x.2]
  e2 : L 2 = true → s 8 = .tuple #[.agg #[.int .i64 r.1.1, .int .i64 r.1.2], .int .i64 r.2]
  e3 : L 3 = true → s 9 = .agg #[.int .i64 r.1.1, .int .i64 r.1.2]
  e4 : L 4 = true → s 10 = .int .i64 r.2
  e5 : L 5 = true → s 11 = .agg #[.int .i64 r.1.1, .int .i64 r.1.2]
  b1 : L 2 = true → L 1 = true

set_option maxRecDepth 100000 in
set_option maxHeartbeats 2000000 in
theorem vec_norm1 (S P : Nat) (e : Int) (x y : Int × Int) (w : World) (h : w.heap[S]? = some (stp e)) (hP : w.heap[P]? = some (.cells #[.pointer (some ⟨S, 0, none⟩)] 59 (0, 0))) :
    Calls Tryz.prog 76 #[.agg #[.int .i64 x.1, .int .i64 x.2], .agg #[.int .i64 y.1, .int .i64 y.2], .pointer (some ⟨P, 0, none⟩)] w fun r w' => r = .returned (.agg #[.int .i64 (sqrF x y).1.1, .int .i64 (sqrF x y).1.2]) ∧ Mv w w' S (fst2 e (sqrF x y).2) := by
  have hPS : P ≠ S := by
    intro c
    subst c
    rw [h] at hP
    simp [stp] at hP
  have h0 : Vk w w S e [(P, .cells #[.pointer (some ⟨S, 0, none⟩)] 59 (0, 0))] := ⟨Mv.start h, fun p hp => by
    rw [List.mem_singleton] at hp
    subst hp
    exact ⟨hPS, hP⟩⟩
  have hS := ((h0.al (.cells #[.int .i64 x.1, .int .i64 x.2] 23 (0, 0))).alN (.cells #[.int .i64 y.1, .int .i64 y.2] 23 (0, 0)) (n := w.heap.size + 1) (by simp)).alN (.cells #[.int .i64 0, .int .i64 0] 23 (0, 0)) (n := w.heap.size + 1 + 1) (by simp)
  have HC := Lib.hid (fun W => span_Sqr x W)
  have HT := Lib.hid (fun W h => vec_take S e (sqrF x y).2 (sqrF x y).1 W h)
  rw [show sPow x 2 = sqrF x y from rfl] at HC
  generalize sqrF x y = r at *
  have HS := Lib.hid (hS.sub (cs := [(w.heap.size + 1 + 1, .cells #[.int .i64 0, .int .i64 0] 23 (0, 0)), (w.heap.size, .cells #[.int .i64 x.1, .int .i64 x.2] 23 (0, 0)), (P, .cells #[.pointer (some ⟨S, 0, none⟩)] 59 (0, 0))]) (by simp))
  have hK5 : Hid (w.heap.size ≤ w.heap.size + 1 + 1) := Lib.hid (by omega)
  have hKn : Hid (∀ p ∈ [(w.heap.size, Obj.cells #[.int .i64 x.1, .int .i64 x.2] 23 (0, 0)), (P, Obj.cells #[.pointer (some ⟨S, 0, none⟩)] 59 (0, 0))], p.1 ≠ w.heap.size + 1 + 1) := Lib.hid (by
    have := lt_of_block hP
    simp
    omega)
  clear h hP hPS h0 hS
  go_enter Tryz.func76, Tryz.ntmps76
  go_upto_region 1 with (fail)
  go_cut [5] (fun v wx => v = .pointer (some ⟨w.heap.size + 1 + 1, 0, none⟩) ∧ Hid (Vk w wx S (fst2 e r.2) [(w.heap.size + 1 + 1, .cells #[.int .i64 r.1.1, .int .i64 r.1.2] 23 (0, 0))]))
  case first =>
    refine wp_region_inv (Nq w S P (w.heap.size) (w.heap.size + 1 + 1) e x r) (by kernel_rfl) (by kernel_rfl) ?_ ?_ ?_
    · exact ⟨fun _ => HS.out.on (Below.refl _ _).drew, fun h => absurd h Bool.false_ne_true, fun h => absurd h Bool.false_ne_true, fun h => absurd h Bool.false_ne_true, fun h => absurd h Bool.false_ne_true, fun h => absurd h Bool.false_ne_true, fun h => absurd h Bool.false_ne_true, fun h => absurd h Bool.false_ne_true, fun h => absurd h Bool.false_ne_true, fun h => absurd h Bool.false_ne_true, fun h => absurd h Bool.false_ne_true, fun h => absurd h Bool.false_ne_true, fun h => absurd h Bool.false_ne_true, fun h => absurd h Bool.false_ne_true⟩
    · refine AllS.consN 1 (some 6) rfl rfl ?_ (AllS.consN 2 (some 7) rfl rfl ?_ (AllS.consN 3 (some 8) rfl rfl ?_ (AllS.consN 4 (some 9) rfl rfl ?_ (AllS.consN 5 (some 10) rfl rfl ?_ (AllS.consN 6 (some 11) rfl rfl ?_ (AllS.consN 7 none rfl rfl ?_ AllS.nil))))))
      · intro L s w2 h hk hd hn
        have s2 : s 2 = _ := hk 2 (by kernel_rfl)
        have h5 : L 5 = false := (Bool.eq_false_or_eq_true (L 5)).elim (fun e => absurd (h.d0 e) (by rw [hn]; exact Bool.false_ne_true)) id
        have c0 := cell_of_one ((h.st h5).blk _ (List.mem_cons_of_mem _ (List.mem_cons_of_mem _ (List.mem_cons_self ..)))).2
        refine stepS rfl fun K hK => ?_
        go_simp
        exact hK _ _ { h with e0 := fun _ => rfl, d0 := fun _ => rfl }
      · intro L s w2 h hk hd hn
        have s3 : s 3 = _ := hk 3 (by kernel_rfl)
        have h5 : L 5 = false := (Bool.eq_false_or_eq_true (L 5)).elim (fun e => absurd (h.d1 e) (by rw [hn]; exact Bool.false_ne_true)) id
        have b := ((h.st h5).blk _ (List.mem_cons_of_mem _ (List.mem_cons_self ..))).2
        have c0 := cell_two0 b
        have c1 := cell_two1 b
        refine stepS rfl fun K hK => ?_
        go_simp
        exact hK _ _ { h with e1 := fun _ => rfl, d1 := fun _ => rfl, b1 := fun _ => rfl }
      · intro L s w2 h hk hd hn
        have s7 := h.e1 hd.1
        have h5 : L 5 = false := (Bool.eq_false_or_eq_true (L 5)).elim (fun e => absurd (h.d2 e) (by rw [hn]; exact Bool.false_ne_true)) id
        refine stepS rfl fun K hK => ?_
        go_simp
        refine (HC.out _).mono ?_
        rintro e w3 ⟨rfl, hb⟩
        exact ⟨_, rfl, hK _ _ { h with b1 := fun _ => hd.1, d2 := fun _ => rfl, st := fun a => (h.st a).on hb, st5 := fun a b => (h.st5 a b).on hb, st6 := fun a => (h.st6 a).on hb, e2 := fun _ => rfl }⟩
      · intro L s w2 h hk hd hn
        have s8 := h.e2 hd.1
        refine stepS rfl fun K hK => ?_
        go_simp
        exact hK _ _ { h with e3 := fun _ => rfl }
      · intro L s w2 h hk hd hn
        have s8 := h.e2 hd.1
        refine stepS rfl fun K hK => ?_
        go_simp
        exact hK _ _ { h with e4 := fun _ => rfl }
      · intro L s w2 h hk hd hn
        have s6 := h.e0 hd.1
        have s9 := h.e3 hd.2.1
        have s10 := h.e4 hd.2.2.1
        refine stepS rfl fun K hK => ?_
        go_simp
        refine (HT.out _ (h.st hn).mv.st).mono ?_
        rintro e w3 ⟨rfl, hm⟩
        exact ⟨_, rfl, hK _ _ { h with st := fun a => absurd a.symm Bool.false_ne_true, st5 := fun _ _ => (h.st hn).next hm, st6 := fun a => absurd (h.d65 a) (by rw [hn]; exact Bool.false_ne_true), e5 := fun _ => rfl, d0 := fun _ => hd.1, d1 := fun _ => h.b1 hd.2.2.2.1, d2 := fun _ => hd.2.2.2.1, d65 := fun _ => rfl }⟩
      · intro L s w2 h hk hd hn
        have s11 := h.e5 hd.1
        have s5 : s 5 = _ := hk 5 (by kernel_rfl)
        have hv := h.st5 hd.1 hn
        have b := (hv.blk _ (List.mem_cons_self ..)).2
        have c0 := cell_two0 b
        have c1 := cell_two1 b
        have f0 := free_two (i := 0) b
        have f1 := free_two (i := 1) b
        have lb := lt_of_block b
        refine stepS rfl fun K hK => ?_
        go_simp
        exact hK _ _ { h with st := fun a => absurd ((show L 5 = true from hd.1).symm.trans a) (fun c => Bool.noConfusion c), st5 := fun _ a => absurd a.symm Bool.false_ne_true, st6 := fun _ => hv.st2 hK5.out hKn.out _ _, d65 := fun _ => hd.1 }
    · intro L s w2 h hk hl
      rename_i J K' hR hM
      refine hM _ _ (Met.intro (hR _ _ ?_))
      repeat apply Exists.intro
      refine ⟨⟨hk 5 (by kernel_rfl), Lib.hid ((h.st6 (hl 6 (by decide))).sub (by simp))⟩, ?_⟩
      refine congrArg (fun l => (⟨List.toArray l, []⟩ : Act)) ?_
      show [s 0, s 1, s 2, s 3, s 4, s 5, s 6, s 7, s 8, s 9, s 10, s 11] = _
      exact lc (hk 0 (by kernel_rfl)) (lc (hk 1 (by kernel_rfl)) (lc (hk 2 (by kernel_rfl)) (lc (hk 3 (by kernel_rfl)) (lc (hk 4 (by kernel_rfl)) (lc rfl (lc rfl (lc rfl (lc rfl (lc rfl (lc rfl (lc rfl rfl)))))))))))

  case rest =>
    obtain ⟨rfl, HV⟩ := hcut
    have b := (HV.out.blk _ (List.mem_cons_self ..)).2
    have c0 := cell_two0 b
    have c1 := cell_two1 b
    clear b
    go_wp2_with fail
    exact bodyPost_ret (v := .agg #[.int .i64 r.1.1, .int .i64 r.1.2]) (by simp [results, Tryz.results76, go_sem, c0, c1]) rfl ⟨rfl, HV.out.mv⟩
end Go.Proofs.YtmnccbhlllnlbaaGreat
