/- Law 06's part, within, inside, Parts.of. Printed by wip/genVN.py. -/
import Derived.Deep.DeepCutAuto
import Derived.Deep.CutBlock
import Derived.Deep.QuietTactic
import Derived.BigQuiet
import Derived.Test.YtmnccbhlllnlbaaLawQ
import Derived.Test.YtmnccbhlllnlbaaCutMerge
import Derived.Test.YtmnccbhlllnlbaaLawVS
import Derived.Test.YtmnccbhlllnlbaaVecLaw
namespace Mnc
/-- The parts of a vector that six numbers choose. -/
def partsOf (a q : V3) : V3 := (partOf a.1 q.1.1 q.1.2, partOf a.2.1 q.2.1.1 q.2.1.2, partOf a.2.2 q.2.2.1 q.2.2.2)
def parL (a q : V3) (k : Nat) : List (Int × Int) :=
  [if 0 < k then partOf a.1 q.1.1 q.1.2 else a.1, if 1 < k then partOf a.2.1 q.2.1.1 q.2.1.2 else a.2.1, if 2 < k then partOf a.2.2 q.2.2.1 q.2.2.2 else a.2.2]
theorem parL_next {a q : V3} {k : Nat} {x y : Int × Int} (hk : k < 3) (hx : (vl a)[k]? = some x) (hy : (vl q)[k]? = some y) : parL a q (k + 1) = (parL a q k).set k (partOf x y.1 y.2) ∧ (parL a q k)[k]? = some x := by
  obtain rfl | rfl | rfl : k = 0 ∨ k = 1 ∨ k = 2 := by omega
  all_goals
    simp [vl] at hx hy
    subst hx hy
    exact ⟨rfl, rfl⟩
def u64s (q : V3) : Prop := ∀ y ∈ vl q, (0 ≤ y.1 ∧ y.1 < 18446744073709551616) ∧ (0 ≤ y.2 ∧ y.2 < 18446744073709551616)
theorem partsOf_in {a : V3} (h : okV a) (q : V3) : okV (partsOf a q) ∧ vIn (partsOf a q) a :=
  ⟨⟨(partOf_in h.1 _ _).1, (partOf_in h.2.1 _ _).1, (partOf_in h.2.2 _ _).1⟩, ⟨(partOf_in h.1 _ _).2, (partOf_in h.2.1 _ _).2, (partOf_in h.2.2 _ _).2⟩⟩
theorem okV_vl {a : V3} (h : okV a) : ∀ x ∈ vl a, okS x := by
  intro x hx
  simp only [vl, List.mem_cons, List.not_mem_nil, or_false] at hx
  rcases hx with rfl | rfl | rfl
  · exact h.1
  · exact h.2.1
  · exact h.2.2
end Mnc
namespace Go.Proofs.Ytmnccbhlllnlbaa
open Go.RowKit Mnc
attribute [local go_sem] RunS_value RunS_skip RunS_enter evS_tmp evS_const evS_global evS_func
set_option maxHeartbeats 1000000 in
theorem law6_within {a b : Int × Int} (h1 : b.1 ≤ a.1) (h2 : a.2 ≤ b.2) (w : World) :
    Calls Try.prog 16 #[.agg #[.int .i64 a.1, .int .i64 a.2], .agg #[.int .i64 b.1, .int .i64 b.2]] w fun e w' => e = .returned (.bool true) ∧ Below w.heap.size w w' := by
  go_enter Try.func16, Try.ntmps16
  go_wp2
  go_ret
  exact ⟨rfl, below_alloc (below_alloc (Below.refl _ _) _) _⟩

set_option maxRecDepth 100000 in
set_option maxHeartbeats 2000000 in
theorem law6_part {a : Int × Int} (h : okS a) (v u : Int) (hv : 0 ≤ v ∧ v < 18446744073709551616) (hu : 0 ≤ u ∧ u < 18446744073709551616) (w : World) :
    Calls Try.prog 31 #[.agg #[.int .i64 a.1, .int .i64 a.2], .int .u64 v, .int .u64 u] w fun e w' => e = .returned (.agg #[.int .i64 (partOf a v u).1, .int .i64 (partOf a v u).2]) ∧ Below w.heap.size w w' := by
  have hB := two_start w a.1 a.2 0 0
  have HV := Lib.hid (show partOf a v u = (a.1 + min (v % (a.2 - a.1 + 1)) (u % (a.2 - a.1 + 1)), a.1 + max (v % (a.2 - a.1 + 1)) (u % (a.2 - a.1 + 1))) by unfold partOf; exact Prod.ext (by simp only; omega) (by simp only; omega))
  obtain ⟨h1, h2, h3⟩ := h
  obtain ⟨v1, v2⟩ := hv
  obtain ⟨u1, u2⟩ := hu
  have e1 := Int.emod_nonneg v (show a.2 - a.1 + 1 ≠ 0 by omega)
  have e2 := Int.emod_lt_of_pos v (show 0 < a.2 - a.1 + 1 by omega)
  have e3 := Int.emod_nonneg u (show a.2 - a.1 + 1 ≠ 0 by omega)
  have e4 := Int.emod_lt_of_pos u (show 0 < a.2 - a.1 + 1 by omega)
  have e5 : (a.2 - a.1 + 1) ≠ 0 := by omega
  go_enter Try.func31, Try.ntmps31
  go_wp2_with fail
  go_quiet (fail)
  go_wp2_with fail
  have hB := hB.on (below_drewN (Below.refl _ _) nq)
  have hr := hB.b1
  exact bodyPost_ret (v := .agg #[.int .i64 (a.1 + min (v % (a.2 - a.1 + 1)) (u % (a.2 - a.1 + 1))), .int .i64 (a.1 + max (v % (a.2 - a.1 + 1)) (u % (a.2 - a.1 + 1)))]) (by simp [results, Try.results31, go_sem]) rfl ⟨by rw [HV.out], below_set2 hB.bel (by omega) _ _⟩
theorem quo_cell {W : World} {B k : Nat} {q : V3} {y : Int × Int} (h : W.heap[B]? = some (.cells #[.int .u64 q.1.1, .int .u64 q.1.2, .int .u64 q.2.1.1, .int .u64 q.2.1.2, .int .u64 q.2.2.1, .int .u64 q.2.2.2] 36 (0, 0))) (hy : (vl q)[k]? = some y) : W.cell? ⟨B, k * 2, none⟩ = some (.int .u64 y.1) ∧ W.cell? ⟨B, k * 2 + 1, none⟩ = some (.int .u64 y.2) := by
  have hk : k < 3 := (List.getElem?_eq_some_iff.1 hy).1
  rw [cell_of_row W B _ _ _ _ h, cell_of_row W B _ _ _ _ h]
  obtain rfl | rfl | rfl : k = 0 ∨ k = 1 ∨ k = 2 := by omega
  all_goals
    simp [vl] at hy
    subst hy
    exact ⟨rfl, rfl⟩
theorem quo_six {W : World} {B : Nat} {q : V3} (h : W.heap[B]? = some (.cells #[.int .u64 q.1.1, .int .u64 q.1.2, .int .u64 q.2.1.1, .int .u64 q.2.1.2, .int .u64 q.2.2.1, .int .u64 q.2.2.2] 36 (0, 0))) : W.cell? ⟨B, 0, none⟩ = some (.int .u64 q.1.1) ∧ W.cell? ⟨B, 1, none⟩ = some (.int .u64 q.1.2) ∧ W.cell? ⟨B, 2, none⟩ = some (.int .u64 q.2.1.1) ∧ W.cell? ⟨B, 3, none⟩ = some (.int .u64 q.2.1.2) ∧ W.cell? ⟨B, 4, none⟩ = some (.int .u64 q.2.2.1) ∧ W.cell? ⟨B, 5, none⟩ = some (.int .u64 q.2.2.2) := by
  refine ⟨?_, ?_, ?_, ?_, ?_, ?_⟩ <;> rw [cell_of_row W B _ _ _ _ h] <;> rfl
structure Po (W0 : World) (K2 K3 K4 k : Nat) (q : V3) (O : List (Int × Int)) (x y : Int × Int) (L : Nat → Bool) (s : Nat → Value) (w : World) : Prop where
  st : L 14 = false → Kv W0 w [(K3, vobj (O)), (K2, .cells #[.int .u64 q.1.1, .int .u64 q.1.2, .int .u64 q.2.1.1, .int .u64 q.2.1.2, .int .u64 q.2.2.1, .int .u64 q.2.2.2] 36 (0, 0)), (K4, vobj (vl v30))]
  sf : L 14 = true → Kv W0 w [(K3, vobj (O.set k (partOf x y.1 y.2))), (K2, .cells #[.int .u64 q.1.1, .int .u64 q.1.2, .int .u64 q.2.1.1, .int .u64 q.2.1.2, .int .u64 q.2.2.1, .int .u64 q.2.2.2] 36 (0, 0)), (K4, vobj (vl v30))]
  b3 : L 14 = true → L 3 = true
  b7 : L 14 = true → L 7 = true
  b11 : L 14 = true → L 11 = true
  b12 : L 14 = true → L 12 = true
  e0 : L 0 = true → s 9 = .int .i64 (k : Int)
  e1 : L 1 = true → s 10 = .int .i64 (k : Int)
  e2 : L 2 = true → s 11 = .pointer (some ⟨K3, k * 2, none⟩)
  e3 : L 3 = true → s 12 = .agg #[.int .i64 x.1, .int .i64 x.2]
  e4 : L 4 = true → s 13 = .int .i64 (k : Int)
  e5 : L 5 = true → s 14 = .pointer (some ⟨K2, k * 2, none⟩)
  e6 : L 6 = true → s 15 = .pointer (some ⟨K2, k * 2, none⟩)
  e7 : L 7 = true → s 16 = .int .u64 y.1
  e8 : L 8 = true → s 17 = .int .i64 (k : Int)
  e9 : L 9 = true → s 18 = .pointer (some ⟨K2, k * 2, none⟩)
  e10 : L 10 = true → s 19 = .pointer (some ⟨K2, k * 2 + 1, none⟩)
  e11 : L 11 = true → s 20 = .int .u64 y.2
  e12 : L 12 = true → s 21 = .agg #[.int .i64 (partOf x y.1 y.2).1, .int .i64 (partOf x y.1 y.2).2]
  e13 : L 13 = true → s 22 = .pointer (some ⟨K3, k * 2, none⟩)
set_option maxRecDepth 100000 in
set_option maxHeartbeats 4000000 in
theorem law6_parts (q a : V3) (ha : okV a) (hq : u64s q) (w : World) :
    Calls Try.prog 9 #[.agg #[.int .u64 q.1.1, .int .u64 q.1.2, .int .u64 q.2.1.1, .int .u64 q.2.1.2, .int .u64 q.2.2.1, .int .u64 q.2.2.2], .agg #[.int .i64 a.1.1, .int .i64 a.1.2, .int .i64 a.2.1.1, .int .i64 a.2.1.2, .int .i64 a.2.2.1, .int .i64 a.2.2.2]] w fun e w' => e = .returned (.agg #[.int .i64 (partsOf a q).1.1, .int .i64 (partsOf a q).1.2, .int .i64 (partsOf a q).2.1.1, .int .i64 (partsOf a q).2.1.2, .int .i64 (partsOf a q).2.2.1, .int .i64 (partsOf a q).2.2.2]) ∧ Below w.heap.size w w' := by
  have hK : Kv w (((w.alloc (.cells #[.int .u64 q.1.1, .int .u64 q.1.2, .int .u64 q.2.1.1, .int .u64 q.2.1.2, .int .u64 q.2.2.1, .int .u64 q.2.2.2] 36)).alloc (.cells #[.int .i64 a.1.1, .int .i64 a.1.2, .int .i64 a.2.1.1, .int .i64 a.2.1.2, .int .i64 a.2.2.1, .int .i64 a.2.2.2] 25)).alloc (.cells #[.int .i64 0, .int .i64 0, .int .i64 0, .int .i64 0, .int .i64 0, .int .i64 0] 25)) [(w.heap.size + 1, vobj (parL a q 0)), (w.heap.size, .cells #[.int .u64 q.1.1, .int .u64 q.1.2, .int .u64 q.2.1.1, .int .u64 q.2.1.2, .int .u64 q.2.2.1, .int .u64 q.2.2.2] 36 (0, 0)), (w.heap.size + 1 + 1, vobj (vl v30))] :=
    ((((Kv.start w).al (.cells #[.int .u64 q.1.1, .int .u64 q.1.2, .int .u64 q.2.1.1, .int .u64 q.2.1.2, .int .u64 q.2.2.1, .int .u64 q.2.2.2] 36 (0, 0)) (n := w.heap.size) rfl).al (vobj (vl a)) (n := w.heap.size + 1) (by simp)).al (vobj (vl v30)) (n := w.heap.size + 1 + 1) (by simp)).sub (List.forall_mem_cons.2 ⟨(List.Mem.tail _ (List.Mem.head _)), List.forall_mem_cons.2 ⟨(List.Mem.tail _ (List.Mem.tail _ (List.Mem.head _))), List.forall_mem_cons.2 ⟨(List.Mem.head _), List.forall_mem_nil _⟩⟩⟩)
  have HS := Lib.hid hK
  have HA := Lib.hid (okV_vl ha)
  have HQ := Lib.hid hq
  clear hK ha hq
  obtain ⟨r, HR⟩ : ∃ r, Hid (parL a q 3 = vl r ∧ partsOf a q = r) := ⟨_, Lib.hid ⟨rfl, rfl⟩⟩
  rw [HR.out.2]
  go_enter Try.func9, Try.ntmps9
  go_wp2_with fail
  go_loopw [6] (fun i wr => ∃ k : Nat, k ≤ 3 ∧ i = .int .i64 k ∧ Hid (Kv w wr [(w.heap.size + 1, vobj (parL a q k)), (w.heap.size, .cells #[.int .u64 q.1.1, .int .u64 q.1.2, .int .u64 q.2.1.1, .int .u64 q.2.1.2, .int .u64 q.2.2.1, .int .u64 q.2.2.2] 36 (0, 0)), (w.heap.size + 1 + 1, vobj (vl v30))])) (fun i _ => 3 - (intOf i).toNat)
  case atStart => exact ⟨0, by omega, rfl, HS⟩
  case round =>
    clear HS
    obtain ⟨k, hk, rfl, HB⟩ := hrel
    rcases Nat.lt_or_ge k 3 with hk' | hk'
    · obtain ⟨x, hx⟩ := vl_at a hk'
      obtain ⟨y, hy⟩ := vl_at q hk'
      obtain ⟨hn, ho⟩ := parL_next hk' hx hy
      have HX := Lib.hid ho
      have HY := Lib.hid hy
      have HNx := Lib.hid hn
      have HK := Lib.hid hk'
      have HC := Lib.hid (fun W => law6_part (HA.out x (List.mem_of_getElem? hx)) y.1 y.2 (HQ.out y (List.mem_of_getElem? hy)).1 (HQ.out y (List.mem_of_getElem? hy)).2 W)
      clear hx hy hn ho
      go_upto_region 4 with (fail)
      refine wp_cut_merge [none, none, none, none, none, none, none, none, none, some 9, some 10, some 11, some 12, some 13, some 14, some 15, some 16, some 17, some 18, some 19, some 20, some 21, some 22, none, none] (fun s wx => Hid (Kv w wx [(w.heap.size + 1, vobj ((parL a q k).set k (partOf x y.1 y.2))), (w.heap.size, .cells #[.int .u64 q.1.1, .int .u64 q.1.2, .int .u64 q.2.1.1, .int .u64 q.2.1.2, .int .u64 q.2.2.1, .int .u64 q.2.2.2] 36 (0, 0)), (w.heap.size + 1 + 1, vobj (vl v30))])) ?_ ?_
      · intro Q2 hQ2
        have hA := HB.out.sub (cs := [(w.heap.size + 1, vobj (parL a q k)), (w.heap.size, .cells #[.int .u64 q.1.1, .int .u64 q.1.2, .int .u64 q.2.1.1, .int .u64 q.2.1.2, .int .u64 q.2.2.1, .int .u64 q.2.2.2] 36 (0, 0)), (w.heap.size + 1 + 1, vobj (vl v30))]) (by simp)
        refine wp_region_inv (Po w w.heap.size (w.heap.size + 1) (w.heap.size + 1 + 1) k q (parL a q k) x y) (by kernel_rfl) (by kernel_rfl) ?_ ?_ ?_
        · exact ⟨fun _ => hA.on (Below.refl _ _).drew, fun h => absurd h Bool.false_ne_true, fun h => absurd h Bool.false_ne_true, fun h => absurd h Bool.false_ne_true, fun h => absurd h Bool.false_ne_true, fun h => absurd h Bool.false_ne_true, fun h => absurd h Bool.false_ne_true, fun h => absurd h Bool.false_ne_true, fun h => absurd h Bool.false_ne_true, fun h => absurd h Bool.false_ne_true, fun h => absurd h Bool.false_ne_true, fun h => absurd h Bool.false_ne_true, fun h => absurd h Bool.false_ne_true, fun h => absurd h Bool.false_ne_true, fun h => absurd h Bool.false_ne_true, fun h => absurd h Bool.false_ne_true, fun h => absurd h Bool.false_ne_true, fun h => absurd h Bool.false_ne_true, fun h => absurd h Bool.false_ne_true, fun h => absurd h Bool.false_ne_true⟩
        · refine AllS.consN 1 (some 9) rfl rfl ?_ (AllS.consN 2 (some 10) rfl rfl ?_ (AllS.consN 3 (some 11) rfl rfl ?_ (AllS.consN 4 (some 12) rfl rfl ?_ (AllS.consN 5 (some 13) rfl rfl ?_ (AllS.consN 6 (some 14) rfl rfl ?_ (AllS.consN 7 (some 15) rfl rfl ?_ (AllS.consN 8 (some 16) rfl rfl ?_ (AllS.consN 9 (some 17) rfl rfl ?_ (AllS.consN 10 (some 18) rfl rfl ?_ (AllS.consN 11 (some 19) rfl rfl ?_ (AllS.consN 12 (some 20) rfl rfl ?_ (AllS.consN 13 (some 21) rfl rfl ?_ (AllS.consN 14 (some 22) rfl rfl ?_ (AllS.consN 15 none rfl rfl ?_ AllS.nil))))))))))))))
          · intro L s w2 h hk hd hn
            have s5 : s 5 = _ := hk 5 (by kernel_rfl)
            refine stepS rfl fun K hK => ?_
            go_simp
            exact hK _ _ { h with e0 := fun _ => rfl }
          · intro L s w2 h hk hd hn
            have s5 : s 5 = _ := hk 5 (by kernel_rfl)
            refine stepS rfl fun K hK => ?_
            go_simp
            exact hK _ _ { h with e1 := fun _ => rfl }
          · intro L s w2 h hk hd hn
            have s3 : s 3 = _ := hk 3 (by kernel_rfl)
            have s10 := h.e1 hd.1
            have hk3 := HK.out
            refine stepS rfl fun K hK => ?_
            go_simp
            exact hK _ _ { h with e2 := fun _ => rfl }
          · intro L s w2 h hk hd hn
            have s11 := h.e2 hd.1
            have h14 : L 14 = false := (Bool.eq_false_or_eq_true (L 14)).elim (fun e => absurd (h.b3 e) (by rw [hn]; exact Bool.false_ne_true)) id
            obtain ⟨c0, c1⟩ := vobj_cell ((h.st h14).blk _ (List.Mem.head _)) HX.out
            have lb := lt_of_block ((h.st h14).blk _ (List.Mem.head _))
            refine stepS rfl fun K hK => ?_
            go_simp
            exact hK _ _ { h with e3 := fun _ => rfl, b3 := fun _ => rfl }
          · intro L s w2 h hk hd hn
            have s5 : s 5 = _ := hk 5 (by kernel_rfl)
            refine stepS rfl fun K hK => ?_
            go_simp
            exact hK _ _ { h with e4 := fun _ => rfl }
          · intro L s w2 h hk hd hn
            have s2 : s 2 = _ := hk 2 (by kernel_rfl)
            have s13 := h.e4 hd.1
            have hk3 := HK.out
            refine stepS rfl fun K hK => ?_
            go_simp
            exact hK _ _ { h with e5 := fun _ => rfl }
          · intro L s w2 h hk hd hn
            have s14 := h.e5 hd.1
            refine stepS rfl fun K hK => ?_
            go_simp
            exact hK _ _ { h with e6 := fun _ => rfl }
          · intro L s w2 h hk hd hn
            have s15 := h.e6 hd.1
            have h14 : L 14 = false := (Bool.eq_false_or_eq_true (L 14)).elim (fun e => absurd (h.b7 e) (by rw [hn]; exact Bool.false_ne_true)) id
            obtain ⟨c0, c1⟩ := quo_cell ((h.st h14).blk _ (List.Mem.tail _ (List.Mem.head _))) HY.out
            refine stepS rfl fun K hK => ?_
            go_simp
            exact hK _ _ { h with e7 := fun _ => rfl, b7 := fun _ => rfl }
          · intro L s w2 h hk hd hn
            have s5 : s 5 = _ := hk 5 (by kernel_rfl)
            refine stepS rfl fun K hK => ?_
            go_simp
            exact hK _ _ { h with e8 := fun _ => rfl }
          · intro L s w2 h hk hd hn
            have s2 : s 2 = _ := hk 2 (by kernel_rfl)
            have s17 := h.e8 hd.1
            have hk3 := HK.out
            refine stepS rfl fun K hK => ?_
            go_simp
            exact hK _ _ { h with e9 := fun _ => rfl }
          · intro L s w2 h hk hd hn
            have s18 := h.e9 hd.1
            refine stepS rfl fun K hK => ?_
            go_simp
            exact hK _ _ { h with e10 := fun _ => rfl }
          · intro L s w2 h hk hd hn
            have s19 := h.e10 hd.1
            have h14 : L 14 = false := (Bool.eq_false_or_eq_true (L 14)).elim (fun e => absurd (h.b11 e) (by rw [hn]; exact Bool.false_ne_true)) id
            obtain ⟨c0, c1⟩ := quo_cell ((h.st h14).blk _ (List.Mem.tail _ (List.Mem.head _))) HY.out
            refine stepS rfl fun K hK => ?_
            go_simp
            exact hK _ _ { h with e11 := fun _ => rfl, b11 := fun _ => rfl }
          · intro L s w2 h hk hd hn
            have s12 := h.e3 hd.1
            have s16 := h.e7 hd.2.1
            have s20 := h.e11 hd.2.2.1
            have h14 : L 14 = false := (Bool.eq_false_or_eq_true (L 14)).elim (fun e => absurd (h.b12 e) (by rw [hn]; exact Bool.false_ne_true)) id
            refine stepS rfl fun K hK => ?_
            go_simp
            refine (HC.out _).mono ?_
            rintro e w3 ⟨rfl, hb⟩
            exact ⟨_, rfl, hK _ _ { h with b12 := fun _ => rfl, st := fun a => (h.st a).on hb, sf := fun a => (h.sf a).on hb, e12 := fun _ => rfl }⟩
          · intro L s w2 h hk hd hn
            have s3 : s 3 = _ := hk 3 (by kernel_rfl)
            have s9 := h.e0 hd.1
            have hk3 := HK.out
            refine stepS rfl fun K hK => ?_
            go_simp
            exact hK _ _ { h with e13 := fun _ => rfl }
          · intro L s w2 h hk hd hn
            have s22 := h.e13 hd.1
            have s21 := h.e12 hd.2.1
            have hN := h.st hn
            have b := hN.blk _ (List.Mem.head _)
            obtain ⟨c0, c1⟩ := vobj_cell b HX.out
            have f0 := vobj_free b (k * 2)
            have f1 := vobj_free b (k * 2 + 1)
            have lb := lt_of_block b
            have hN2 := hN.setl (by omega) (List.forall_mem_cons.2 ⟨by simp only; omega, List.forall_mem_cons.2 ⟨by simp only; omega, List.forall_mem_nil _⟩⟩) HX.out (partOf x y.1 y.2)
            have HN2 := Lib.hid hN2
            clear hN hN2 b
            refine stepS rfl fun K hK => ?_
            go_simp
            exact hK _ _ { h with st := fun a => absurd a.symm Bool.false_ne_true, sf := fun _ => HN2.out, b3 := fun _ => hd.2.2.2.2.2.2.1, b7 := fun _ => hd.2.2.2.2.2.2.2.2.2.2.1, b11 := fun _ => hd.2.2.2.2.2.2.2.2.2.2.2.2.2.2.1, b12 := fun _ => hd.2.1 }
        · intro L s w2 h hk hl
          refine (congrArg (fun a => Q2 .normal a w2) (?_ : _ = _)).mpr (hQ2 s w2 (Lib.hid (h.sf (hl 14 (by decide)))))
          refine congrArg (fun l => (⟨List.toArray l, []⟩ : Act)) ?_
          show [s 0, s 1, s 2, s 3, s 4, s 5, s 6, s 7, s 8, s 9, s 10, s 11, s 12, s 13, s 14, s 15, s 16, s 17, s 18, s 19, s 20, s 21, s 22, s 23, s 24] = _
          exact lc (hk 0 (by kernel_rfl)) (lc (hk 1 (by kernel_rfl)) (lc (hk 2 (by kernel_rfl)) (lc (hk 3 (by kernel_rfl)) (lc (hk 4 (by kernel_rfl)) (lc (hk 5 (by kernel_rfl)) (lc (hk 6 (by kernel_rfl)) (lc (hk 7 (by kernel_rfl)) (lc (hk 8 (by kernel_rfl)) (lc rfl (lc rfl (lc rfl (lc rfl (lc rfl (lc rfl (lc rfl (lc rfl (lc rfl (lc rfl (lc rfl (lc rfl (lc rfl (lc rfl (lc (hk 23 (by kernel_rfl)) (lc (hk 24 (by kernel_rfl)) rfl))))))))))))))))))))))))
      · rintro s wc hcut
        simp only [mergeL]
        rw [← HNx.out] at hcut
        go_wp2_with fail
        go_roundw
        case rel => exact ⟨k + 1, by omega, by go_num, hcut⟩
        case measure => simp [intOf]; omega
    · obtain rfl : k = 3 := by omega
      have hK : Kv w wr [(w.heap.size + 1 + 1, vobj (vl v30)), (w.heap.size + 1, vobj (parL a q 3))] := HB.out.sub (List.forall_mem_cons.2 ⟨(List.Mem.tail _ (List.Mem.tail _ (List.Mem.head _))), List.forall_mem_cons.2 ⟨(List.Mem.head _), List.forall_mem_nil _⟩⟩)
      clear HB
      rw [HR.out.1] at hK
      obtain ⟨a0, a1, a2, a3, a4, a5⟩ := vobj_six (hK.blk _ (List.Mem.tail _ (List.Mem.head _)))
      have la := lt_of_block (hK.blk _ (List.Mem.tail _ (List.Mem.head _)))
      have b := hK.blk _ (List.Mem.head _)
      obtain ⟨c0, c1, c2, c3, c4, c5⟩ := vobj_six b
      have f0 := vobj_free b 0
      have f1 := vobj_free b 1
      have f2 := vobj_free b 2
      have f3 := vobj_free b 3
      have f4 := vobj_free b 4
      have f5 := vobj_free b 5
      have lb := lt_of_block b
      have HE := Lib.hid (hK.set6 (by omega) (List.forall_mem_cons.2 ⟨by simp only; omega, List.forall_mem_nil _⟩) r)
      clear b hK
      obtain ⟨g0, g1, g2, g3, g4, g5⟩ := vobj_six (HE.out.blk _ (List.mem_cons_self ..))
      go_wp2_with fail
      exact bodyPost_ret (v := .agg #[.int .i64 r.1.1, .int .i64 r.1.2, .int .i64 r.2.1.1, .int .i64 r.2.1.2, .int .i64 r.2.2.1, .int .i64 r.2.2.2]) (by simp [results, Try.results9, go_sem, g0, g1, g2, g3, g4, g5]) rfl ⟨rfl, HE.out.bel⟩
set_option maxRecDepth 100000 in
set_option maxHeartbeats 4000000 in
theorem law6_inside (r s : V3 × Int) (h : rInV r s) (w : World) :
    Calls Try.prog 13 #[.agg #[.int .i64 r.1.1.1, .int .i64 r.1.1.2, .int .i64 r.1.2.1.1, .int .i64 r.1.2.1.2, .int .i64 r.1.2.2.1, .int .i64 r.1.2.2.2], .int .i64 r.2, .agg #[.int .i64 s.1.1.1, .int .i64 s.1.1.2, .int .i64 s.1.2.1.1, .int .i64 s.1.2.1.2, .int .i64 s.1.2.2.1, .int .i64 s.1.2.2.2], .int .i64 s.2] w fun e w' => e = .returned (.bool true) ∧ Below w.heap.size w w' := by
  obtain ⟨r1, r2⟩ := r
  obtain ⟨s1, s2⟩ := s
  have hK : Kv w ((w.alloc (.cells #[.int .i64 r1.1.1, .int .i64 r1.1.2, .int .i64 r1.2.1.1, .int .i64 r1.2.1.2, .int .i64 r1.2.2.1, .int .i64 r1.2.2.2] 25)).alloc (.cells #[.int .i64 s1.1.1, .int .i64 s1.1.2, .int .i64 s1.2.1.1, .int .i64 s1.2.1.2, .int .i64 s1.2.2.1, .int .i64 s1.2.2.2] 25)) [(w.heap.size + 1, vobj (vl s1)), (w.heap.size, vobj (vl r1))] :=
    ((Kv.start w).al (vobj (vl r1)) (n := w.heap.size) rfl).al (vobj (vl s1)) (n := w.heap.size + 1) (by simp)
  by_cases hs : s2 = 0
  · obtain rfl : s2 = 0 := hs
    obtain ⟨h1, h2⟩ := h rfl
    obtain rfl : r2 = 0 := h1
    have HI0 := Lib.hid h2.1
    have HI1 := Lib.hid h2.2.1
    have HI2 := Lib.hid h2.2.2
    clear h h2
    go_enter Try.func13, Try.ntmps13
    obtain ⟨cR0, cR1, cR2, cR3, cR4, cR5⟩ := vobj_six (hK.blk _ (List.Mem.tail _ (List.Mem.head _)))
    have lR := lt_of_block (hK.blk _ (List.Mem.tail _ (List.Mem.head _)))
    obtain ⟨cS0, cS1, cS2, cS3, cS4, cS5⟩ := vobj_six (hK.blk _ (List.Mem.head _))
    have lS := lt_of_block (hK.blk _ (List.Mem.head _))
    go_wp2_with fail
    refine (law6_within HI0.out.1 HI0.out.2 _).mono ?_; rintro e w1 ⟨rfl, hb⟩
    replace hK := hK.on hb
    clear cR0 cR1 cR2 cR3 cR4 cR5 lR cS0 cS1 cS2 cS3 cS4 cS5 lS hb
    obtain ⟨cR0, cR1, cR2, cR3, cR4, cR5⟩ := vobj_six (hK.blk _ (List.Mem.tail _ (List.Mem.head _)))
    have lR := lt_of_block (hK.blk _ (List.Mem.tail _ (List.Mem.head _)))
    obtain ⟨cS0, cS1, cS2, cS3, cS4, cS5⟩ := vobj_six (hK.blk _ (List.Mem.head _))
    have lS := lt_of_block (hK.blk _ (List.Mem.head _))
    go_wp2_with fail
    refine (law6_within HI1.out.1 HI1.out.2 _).mono ?_; rintro e w2 ⟨rfl, hb⟩
    replace hK := hK.on hb
    clear cR0 cR1 cR2 cR3 cR4 cR5 lR cS0 cS1 cS2 cS3 cS4 cS5 lS hb
    obtain ⟨cR0, cR1, cR2, cR3, cR4, cR5⟩ := vobj_six (hK.blk _ (List.Mem.tail _ (List.Mem.head _)))
    have lR := lt_of_block (hK.blk _ (List.Mem.tail _ (List.Mem.head _)))
    obtain ⟨cS0, cS1, cS2, cS3, cS4, cS5⟩ := vobj_six (hK.blk _ (List.Mem.head _))
    have lS := lt_of_block (hK.blk _ (List.Mem.head _))
    go_wp2_with fail
    refine (law6_within HI2.out.1 HI2.out.2 _).mono ?_; rintro e w3 ⟨rfl, hb⟩
    replace hK := hK.on hb
    clear cR0 cR1 cR2 cR3 cR4 cR5 lR cS0 cS1 cS2 cS3 cS4 cS5 lS hb
    go_wp2_with fail
    go_ret
    exact ⟨rfl, hK.bel⟩
  · have q0 : (s2 == 0) = false := by simp [hs]
    clear h
    go_enter Try.func13, Try.ntmps13
    go_wp2_with fail
    go_ret
    exact ⟨rfl, hK.bel⟩
end Go.Proofs.Ytmnccbhlllnlbaa
