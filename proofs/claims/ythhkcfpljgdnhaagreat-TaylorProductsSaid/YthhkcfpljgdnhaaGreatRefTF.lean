/- The reference of layer 21: exponents, rang. Printed by wip/genSU.py. -/
import Derived.Test.YthhkcfpljgdnhaaGreatRefTA
import Derived.Test.YthhkcfpljgdnhaaGreatDrT
namespace Go.Proofs.YthhkcfpljgdnhaaGreat
open Go.RowKit Mnc
attribute [local go_sem] RunSP_value RunSP_skip RunSP_enter evS_tmp evS_const evS_global evS_func
theorem place_inj : ∀ i j i0 j0 : Fin 6, i.1 + j.1 ≤ 5 → i0.1 + j0.1 ≤ 5 → tPlace i.1 j.1 = tPlace i0.1 j0.1 → i.1 = i0.1 ∧ j.1 = j0.1 := by decide +kernel
theorem place_le : ∀ i j : Fin 6, i.1 + j.1 ≤ 5 → tPlace i.1 j.1 ≤ 20 := by decide
set_option maxRecDepth 100000 in
theorem rf_exps (i0 j0 : Nat) (h : i0 + j0 ≤ 5) (w : World) : Calls Tryz.prog 67 #[.int .i64 ((tPlace i0 j0 : Nat) : Int)] w fun e w' => e = .returned (.tuple #[.int .i64 (i0 : Int), .int .i64 (j0 : Int)]) ∧ Below w.heap.size w w' := by
 have H0 := lh h
 have HP := lh (show ∀ i j : Nat, i + j ≤ 5 → tPlace i j = tPlace i0 j0 → i = i0 ∧ j = j0 from fun i j hij e => place_inj ⟨i, by omega⟩ ⟨j, by omega⟩ ⟨i0, by omega⟩ ⟨j0, by omega⟩ hij h e)
 obtain ⟨P, hP⟩ : ∃ P : Int, ((tPlace i0 j0 : Nat) : Int) = P := ⟨_, rfl⟩
 rw [hP]
 have HPP := lh hP
 have p0 : (0 : Int) ≤ P := by omega
 have p9 : P ≤ 20 := by have := place_le ⟨i0, by omega⟩ ⟨j0, by omega⟩ h; dsimp only at this; omega
 clear h hP
 go_enter Tryz.func67, Tryz.ntmps67
 go_wp2_with fail
 go_loopw [4] (fun x wr => ∃ s : Nat, s ≤ i0 + j0 ∧ x = .int .i64 s ∧ Hid (Below w.heap.size w wr)) (fun x _ => 6 - (intOf x).toNat)
 case atStart => exact ⟨0, by omega, rfl, lh (Below.refl _ _)⟩
 case round =>
  obtain ⟨s, hs, rfl, HG⟩ := hrel
  have HS := lh (show s ≤ i0 + j0 ∧ s ≤ 5 from ⟨hs, by have := H0.out; omega⟩)
  have s0 : (0 : Int) ≤ s := by omega
  have s9 : (s : Int) ≤ 5 := by have := HS.out.2; omega
  have t1 : decide ((s : Int) ≤ 5) = true := by simp; omega
  clear hs
  go_wp2_with fail
  go_loopw [5] (fun x wr => ∃ i : Nat, i ≤ s + 1 ∧ (s = i0 + j0 → i ≤ i0) ∧ x = .int .i64 i ∧ Hid (Below w.heap.size w wr)) (fun x _ => s + 1 - (intOf x).toNat)
  case atStart => exact ⟨0, by omega, fun _ => by omega, rfl, HG⟩
  case round =>
   obtain ⟨i, hi, hi2, rfl, HG2⟩ := hrel
   have HI := lh hi2
   have i0' : (0 : Int) ≤ i := by omega
   have i9 : (i : Int) ≤ 6 := by omega
   rcases Nat.lt_or_ge s i with hk | hk
   ·have t2 : decide (i ≤ s) = false := by simp; omega
    have HN := lh (show s < i0 + j0 by
     have := HS.out.1
     have := HI.out
     omega)
    clear hk hi hi2
    go_wp2_with fail
    go_roundw
    case rel => first | exact ⟨s + 1, by have := HN.out; omega, by go_num, HG2⟩ | ((repeat apply Exists.intro); exact ⟨⟨s + 1, by have := HN.out; omega, by go_num, HG2⟩, rfl⟩)
    case measure => simp [intOf]; have := HS.out; omega
   ·have t2 : decide (i ≤ s) = true := by simp; omega
    obtain ⟨j, hj⟩ : ∃ j, s - i = j := ⟨_, rfl⟩
    have es : (s : Int) - (i : Int) = (j : Int) := by omega
    have HJ := lh (show s = i + j by omega)
    have j0' : (0 : Int) ≤ j := by omega
    have j9 : (j : Int) ≤ 5 := by omega
    have wj : IntKind.i64.wrap (j : Int) = (j : Int) := by simp [IntKind.wrap, IntKind.bits, IntKind.signed]; omega
    clear hk hi hi2 hj
    go_wp2_with fail
    refine (rf_place i j (by have := HJ.out; have := HS.out; omega) _).mono ?_
    rintro e w2 ⟨rfl, hb⟩
    have HB := lh (below_step HG2.out hb)
    clear hb
    obtain ⟨Q, hQ⟩ : ∃ Q : Int, ((tPlace i j : Nat) : Int) = Q := ⟨_, rfl⟩
    rw [hQ]
    have q0 : (0 : Int) ≤ Q := by omega
    have q9 : Q ≤ 20 := by have := place_le ⟨i, by have := HJ.out; have := HS.out; omega⟩ ⟨j, by have := HJ.out; have := HS.out; omega⟩ (by have := HJ.out; have := HS.out; dsimp only; omega); dsimp only at this; omega
    by_cases hq : Q = P
    ·have HF := lh (HP.out i j (by have := HJ.out; have := HS.out; omega) (by have := HPP.out; omega))
     have t3 : (Q == P) = true := by simp; omega
     clear hq hQ
     go_wp2_with fail
     exact bodyPost_ret (v := .tuple #[.int .i64 (i : Int), .int .i64 (j : Int)]) (by simp [results, Tryz.results67, go_sem]) rfl ⟨by rw [HF.out.1, HF.out.2], HB.out⟩
    ·have t3 : (Q == P) = false := by simp; omega
     have HNE := lh (show s = i0 + j0 → i < i0 from fun e => by
      have h1 := HI.out e
      have h2 := HJ.out
      rcases Nat.lt_or_ge i i0 with h | h
      ·exact h
      ·have e1 : i = i0 := by omega
       have e2 : j = j0 := by omega
       exact absurd (by rw [← hQ, e1, e2]; exact HPP.out) hq)
     clear hq hQ
     go_wp2_with fail
     go_roundw
     case rel => first | exact ⟨i + 1, by have := HJ.out; omega, fun e => by have := HNE.out e; omega, by go_num, HB⟩ | ((repeat apply Exists.intro); exact ⟨⟨i + 1, by have := HJ.out; omega, fun e => by have := HNE.out e; omega, by go_num, HB⟩, rfl⟩)
     case measure => simp [intOf]; have := HJ.out; omega
set_option maxRecDepth 100000 in
theorem rf_rang (i j : Nat) (hi : i ≤ 10) (hj : j ≤ 10) (w : World) : Calls Tryz.prog 69 #[.int .i64 (i : Int), .int .i64 (j : Int)] w fun e w' => e = .returned (sval (tReach i j)) ∧ Below w.heap.size w w' := by
 have i0 : (0 : Int) ≤ i := by omega
 have i9 : (i : Int) ≤ 10 := by omega
 have j0 : (0 : Int) ≤ j := by omega
 have j9 : (j : Int) ≤ 10 := by omega
 have ei : (i : Int).tmod 2 = ((i % 2 : Nat) : Int) := by rw [Int.tmod_eq_emod_of_nonneg i0]; rfl
 have ej : (j : Int).tmod 2 = ((j % 2 : Nat) : Int) := by rw [Int.tmod_eq_emod_of_nonneg j0]; rfl
 by_cases h : i + j = 0
 ·obtain rfl : i = 0 := by omega
  obtain rfl : j = 0 := by omega
  rw [show tReach 0 0 = (4294967296, 4294967296) from rfl]
  go_enter Tryz.func69, Tryz.ntmps69
  go_wp2_with fail
  refine (rf_point 4294967296 _).mono ?_
  rintro e w2 ⟨rfl, hb⟩
  have hr : w2.heap[w.heap.size]? = some (.cells #[.int .i64 0, .int .i64 0] 31 (0, 0)) := (hb.block _ (by simp)).trans (heap_at _ rfl)
  have hf : ∀ o, w2.frozen? ⟨w.heap.size, o, none⟩ = false := fun o => by simp [World.frozen?, hr]
  have hB := below_step (below_alloc (Below.refl w.heap.size w) (.cells #[.int .i64 0, .int .i64 0] 31)) hb
  have g : (w2.setCell ⟨w.heap.size, 0, none⟩ (.int .i64 4294967296)).heap[w.heap.size]? = some (.cells #[.int .i64 4294967296, .int .i64 0] 31 (0, 0)) := by rw [setCell_put hr]; exact World.putObj_heap_same (lt_of_block hr)
  have c0 := cell_two0 hr
  have c1 := cell_two1 g
  have hg : ∀ o, (w2.setCell ⟨w.heap.size, 0, none⟩ (.int .i64 4294967296)).frozen? ⟨w.heap.size, o, none⟩ = false := fun o => by simp [World.frozen?, g]
  have g2 : ((w2.setCell ⟨w.heap.size, 0, none⟩ (.int .i64 4294967296)).setCell ⟨w.heap.size, 1, none⟩ (.int .i64 4294967296)).heap[w.heap.size]? = some (.cells #[.int .i64 4294967296, .int .i64 4294967296] 31 (0, 0)) := by rw [setCell_put g]; exact World.putObj_heap_same (lt_of_block g)
  have d0 := cell_two0 g2
  have d1 := cell_two1 g2
  unfold sval
  go_wp2_with fail
  exact bodyPost_ret (v := sval (4294967296, 4294967296)) (by simp [results, Tryz.results69, go_sem, sval, d0, d1]) rfl ⟨rfl, (hB.setCell (Nat.le_refl _) _).setCell (Nat.le_refl _) _⟩
 ·by_cases k : i % 2 = 0 ∧ j % 2 = 0
  ·rw [show tReach i j = (0, 4294967296) by unfold tReach; rw [if_neg h, if_pos k]]
   have HH := lh h
   obtain ⟨e1, e2⟩ := k
   clear h
   rw [e1] at ei
   rw [e2] at ej
   by_cases hi0 : i = 0
   ·subst hi0
    have t1 : ((j : Int) == 0) = false := by have := HH.out; simp; omega
    clear e1 e2
    go_enter Tryz.func69, Tryz.ntmps69
    go_wp2_with fail
    exact bodyPost_ret (v := sval (0, 4294967296)) (by simp [results, Tryz.results69, go_sem, sval]) rfl ⟨rfl, below_alloc (Below.refl _ _) _⟩
   ·have t1 : ((i : Int) == 0) = false := by simp; omega
    clear e1 e2 hi0
    go_enter Tryz.func69, Tryz.ntmps69
    go_wp2_with fail
    exact bodyPost_ret (v := sval (0, 4294967296)) (by simp [results, Tryz.results69, go_sem, sval]) rfl ⟨rfl, below_alloc (Below.refl _ _) _⟩
  ·rw [show tReach i j = (-4294967296, 4294967296) by unfold tReach; rw [if_neg h, if_neg k]]
   have HH := lh h
   have HK := lh k
   clear h k
   by_cases hi0 : i = 0
   ·subst hi0
    have t1 : ((j : Int) == 0) = false := by have := HH.out; simp; omega
    rw [show j % 2 = 1 by have := HK.out; omega] at ej
    go_enter Tryz.func69, Tryz.ntmps69
    go_wp2_with fail
    exact bodyPost_ret (v := sval (-4294967296, 4294967296)) (by simp [results, Tryz.results69, go_sem, sval]) rfl ⟨rfl, below_alloc (Below.refl _ _) _⟩
   ·have t1 : ((i : Int) == 0) = false := by simp; omega
    clear hi0
    by_cases e : i % 2 = 0
    ·rw [e] at ei
     rw [show j % 2 = 1 by have := HK.out; omega] at ej
     clear e
     go_enter Tryz.func69, Tryz.ntmps69
     go_wp2_with fail
     exact bodyPost_ret (v := sval (-4294967296, 4294967296)) (by simp [results, Tryz.results69, go_sem, sval]) rfl ⟨rfl, below_alloc (Below.refl _ _) _⟩
    ·rw [show i % 2 = 1 by omega] at ei
     clear e
     go_enter Tryz.func69, Tryz.ntmps69
     go_wp2_with fail
     exact bodyPost_ret (v := sval (-4294967296, 4294967296)) (by simp [results, Tryz.results69, go_sem, sval]) rfl ⟨rfl, below_alloc (Below.refl _ _) _⟩
end Go.Proofs.YthhkcfpljgdnhaaGreat
