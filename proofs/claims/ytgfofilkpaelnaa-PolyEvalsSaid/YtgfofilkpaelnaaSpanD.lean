/- Contracts of package span: corners and its iterator. -/
import Derived.RangeFuncNested
import Derived.RangeFuncBound
import Derived.RangeFuncCalls
import Derived.RangeFuncLeaves
import Derived.RangeFuncFrom
import Derived.Shelf.Abstract
import Derived.Shelf.RegionOpen
import Derived.OwnWalkIn
import Derived.TacticsInMore
import Derived.LoopNIn
import Derived.LoopIn
import Derived.Test.YtgfofilkpaelnaaSpanC
namespace Go.Proofs.Ytgfofilkpaelnaa
open Go.RowKit Go.Shelf Mnc
attribute [local go_sem] Oper.semAt_some

/-- The pairs of ends. -/
def four (s t : Int × Int) : List (Int × Int) := [(s.1, t.1), (s.1, t.2), (s.2, t.1), (s.2, t.2)]
def enc2 (x : Int × Int) : Array Value := #[.int .i64 x.1, .int .i64 x.2]
/-- What a round must keep: the two boxes that the iterator reads. -/
def KeepAB (A B : Nat) (W W' : World) : Prop := W'.heap[A]? = W.heap[A]? ∧ W'.heap[B]? = W.heap[B]?
theorem KeepAB.trans {A B : Nat} {U V W : World} (h : KeepAB A B U V) (k : KeepAB A B V W) : KeepAB A B U W := ⟨k.1.trans h.1, k.2.trans h.2⟩

theorem pick2_0 (x y : Int) (w : World) : (Instr.index 108 (.agg #[.int .i64 x, .int .i64 y]) (.int .i64 0)).run Try.prog w = .ok (.int .i64 x) w := by kernel_rfl
theorem pick2_1 (x y : Int) (w : World) : (Instr.index 108 (.agg #[.int .i64 x, .int .i64 y]) (.int .i64 1)).run Try.prog w = .ok (.int .i64 y) w := by kernel_rfl

theorem span_corners (s t : Int × Int) (w : World) :
    Calls Try.prog 170 #[.agg #[.int .i64 s.1, .int .i64 s.2], .agg #[.int .i64 t.1, .int .i64 t.2]] w fun e w' => e = .returned (.func (.func 189) #[] #[.pointer (some ⟨w.heap.size, 0, none⟩), .pointer (some ⟨w.heap.size + 1, 0, none⟩)]) ∧ (w.alloc (.cells #[.int .i64 s.1, .int .i64 s.2] 24)).alloc (.cells #[.int .i64 t.1, .int .i64 t.2] 24) = w' := by
  go_enter Try.func170, Try.ntmps170
  go_wp2
  go_ret
  exact ⟨rfl, rfl⟩

set_option maxRecDepth 100000 in
set_option maxHeartbeats 2000000 in
theorem corners_in (s t : Int × Int) (n : Nat) (hn : 1 ≤ n) (A B : Nat) (w : World)
    (hA : w.heap[A]? = some (.cells #[.int .i64 s.1, .int .i64 s.2] 24 (0, 0))) (hB : w.heap[B]? = some (.cells #[.int .i64 t.1, .int .i64 t.2] 24 (0, 0))) :
    SeqStopsK Fence.wide n Try.prog 189 #[.pointer (some ⟨A, 0, none⟩), .pointer (some ⟨B, 0, none⟩)] enc2 (KeepAB A B) (fun xs => xs = four s t) (fun pre => pre <+: four s t) 4 w := fun l J Jx W hW hJ hJx hY h0 => by
  have hA := (hW.block _ (lt_of_block hA)).trans hA
  have hB := (hW.block _ (lt_of_block hB)).trans hB
  refine callsIn_of_wp Try.func189 rfl trivial ?_ rfl
  simp only [Try.ntmps189, List.size_toArray, List.length_cons, List.length_nil, Nat.reduceAdd, Nat.reduceSub, Array.replicate_succ, Array.replicate_zero, List.push_toArray, List.append_toArray, List.nil_append, List.cons_append]
  have a0 := cell_two0 hA
  have a1 := cell_two1 hA
  gi_wp2
  gi_loopw [13] (fun i wr => ∃ k : Nat, k ≤ 2 ∧ i = .int .i64 k ∧ Hid (J ((four s t).take (2 * k)) wr) ∧ wr.heap[A]? = some (.cells #[.int .i64 s.1, .int .i64 s.2] 24 (0, 0)) ∧ wr.heap[B]? = some (.cells #[.int .i64 t.1, .int .i64 t.2] 24 (0, 0))) (fun i _ => 2 - (intOf i).toNat)
  case atStart => exact ⟨0, by omega, rfl, Lib.hid h0, hA, hB⟩
  case round =>
    clear a0 a1 hA hB
    obtain ⟨k, hk, rfl, HJ, hAr, hBr⟩ := hrel
    obtain ⟨wo, rfl⟩ : ∃ wo : World, wo = wr := ⟨_, rfl⟩
    rcases (by omega : k = 0 ∨ k = 1 ∨ k = 2) with rfl | rfl | rfl
    · have HJ : Hid (J [] wo) := Lib.hid (by simpa [four] using HJ.out)
      have b0 := cell_two0 hBr
      have b1 := cell_two1 hBr
      have hi := pick2_0 s.1 s.2
      gi_wp2
      gi_loopw [21] (fun j wr => ∃ m : Nat, m ≤ 2 ∧ j = .int .i64 m ∧ Hid (J ([] ++ [(s.1, t.1), (s.1, t.2)].take m) wr) ∧ wr.heap[A]? = some (.cells #[.int .i64 s.1, .int .i64 s.2] 24 (0, 0)) ∧ wr.heap[B]? = some (.cells #[.int .i64 t.1, .int .i64 t.2] 24 (0, 0))) (fun j _ => 2 - (intOf j).toNat)
      case atStart => exact ⟨0, by omega, rfl, Lib.hid (by simpa using HJ.out), hAr, hBr⟩
      case round =>
        clear hi b0 b1
        obtain ⟨m, hm, rfl, HJ2, hA2, hB2⟩ := hrel
        rcases (by omega : m = 0 ∨ m = 1 ∨ m = 2) with rfl | rfl | rfl
        · have hi := pick2_0 t.1 t.2
          obtain ⟨fn, tmps, assign, body, hy, hR⟩ := hY [] (s.1, t.1) wr (by simpa using HJ2.out) (by simp)
          dsimp only [enc2] at hy
          gi_wp2
          refine hR.mono ?_
          rintro e W3 (⟨rfl, hJ3, hk3⟩ | ⟨rfl, hJx3⟩)
          · have HJ3 := Lib.hid hJ3
            have hA3 := hk3.1.trans hA2
            have hB3 := hk3.2.trans hB2
            clear hJ3 hk3 hA2 hB2
            gi_wp2
            go_roundw
            case rel => first | exact ⟨1, by omega, rfl, Lib.hid (by simpa using HJ3.out), hA3, hB3⟩ | ((repeat apply Exists.intro); exact ⟨⟨1, by omega, rfl, Lib.hid (by simpa using HJ3.out), hA3, hB3⟩, rfl⟩)
            case measure => simp [intOf]
          · have HJ3 := Lib.hid hJx3
            clear hJx3
            gi_wp2
            refine bodyPost_ret (results_none rfl _ _ _) rfl ?_
            exact ⟨⟨_, rfl⟩, .inr ⟨_, by simp [four], HJ3.out⟩⟩
        · have hi := pick2_1 t.1 t.2
          obtain ⟨fn, tmps, assign, body, hy, hR⟩ := hY ([] ++ [(s.1, t.1)]) (s.1, t.2) wr (by simpa using HJ2.out) (by simp)
          dsimp only [enc2] at hy
          gi_wp2
          refine hR.mono ?_
          rintro e W3 (⟨rfl, hJ3, hk3⟩ | ⟨rfl, hJx3⟩)
          · have HJ3 := Lib.hid hJ3
            have hA3 := hk3.1.trans hA2
            have hB3 := hk3.2.trans hB2
            clear hJ3 hk3 hA2 hB2
            gi_wp2
            go_roundw
            case rel => first | exact ⟨2, by omega, rfl, Lib.hid (by simpa using HJ3.out), hA3, hB3⟩ | ((repeat apply Exists.intro); exact ⟨⟨2, by omega, rfl, Lib.hid (by simpa using HJ3.out), hA3, hB3⟩, rfl⟩)
            case measure => simp [intOf]
          · have HJ3 := Lib.hid hJx3
            clear hJx3
            gi_wp2
            refine bodyPost_ret (results_none rfl _ _ _) rfl ?_
            exact ⟨⟨_, rfl⟩, .inr ⟨_, by simp [four], HJ3.out⟩⟩
        · gi_wp2
          go_roundw
          case rel => exact ⟨1, by omega, rfl, Lib.hid (by simpa [four] using HJ2.out), hA2, hB2⟩
          case measure => simp [intOf]
    · have HJ : Hid (J [(s.1, t.1), (s.1, t.2)] wo) := Lib.hid (by simpa [four] using HJ.out)
      have b0 := cell_two0 hBr
      have b1 := cell_two1 hBr
      have hi := pick2_1 s.1 s.2
      gi_wp2
      gi_loopw [21] (fun j wr => ∃ m : Nat, m ≤ 2 ∧ j = .int .i64 m ∧ Hid (J ([(s.1, t.1), (s.1, t.2)] ++ [(s.2, t.1), (s.2, t.2)].take m) wr) ∧ wr.heap[A]? = some (.cells #[.int .i64 s.1, .int .i64 s.2] 24 (0, 0)) ∧ wr.heap[B]? = some (.cells #[.int .i64 t.1, .int .i64 t.2] 24 (0, 0))) (fun j _ => 2 - (intOf j).toNat)
      case atStart => exact ⟨0, by omega, rfl, Lib.hid (by simpa using HJ.out), hAr, hBr⟩
      case round =>
        clear hi b0 b1
        obtain ⟨m, hm, rfl, HJ2, hA2, hB2⟩ := hrel
        rcases (by omega : m = 0 ∨ m = 1 ∨ m = 2) with rfl | rfl | rfl
        · have hi := pick2_0 t.1 t.2
          obtain ⟨fn, tmps, assign, body, hy, hR⟩ := hY [(s.1, t.1), (s.1, t.2)] (s.2, t.1) wr (by simpa using HJ2.out) (by simp)
          dsimp only [enc2] at hy
          gi_wp2
          refine hR.mono ?_
          rintro e W3 (⟨rfl, hJ3, hk3⟩ | ⟨rfl, hJx3⟩)
          · have HJ3 := Lib.hid hJ3
            have hA3 := hk3.1.trans hA2
            have hB3 := hk3.2.trans hB2
            clear hJ3 hk3 hA2 hB2
            gi_wp2
            go_roundw
            case rel => first | exact ⟨1, by omega, rfl, Lib.hid (by simpa using HJ3.out), hA3, hB3⟩ | ((repeat apply Exists.intro); exact ⟨⟨1, by omega, rfl, Lib.hid (by simpa using HJ3.out), hA3, hB3⟩, rfl⟩)
            case measure => simp [intOf]
          · have HJ3 := Lib.hid hJx3
            clear hJx3
            gi_wp2
            refine bodyPost_ret (results_none rfl _ _ _) rfl ?_
            exact ⟨⟨_, rfl⟩, .inr ⟨_, by simp [four], HJ3.out⟩⟩
        · have hi := pick2_1 t.1 t.2
          obtain ⟨fn, tmps, assign, body, hy, hR⟩ := hY ([(s.1, t.1), (s.1, t.2)] ++ [(s.2, t.1)]) (s.2, t.2) wr (by simpa using HJ2.out) (by simp)
          dsimp only [enc2] at hy
          gi_wp2
          refine hR.mono ?_
          rintro e W3 (⟨rfl, hJ3, hk3⟩ | ⟨rfl, hJx3⟩)
          · have HJ3 := Lib.hid hJ3
            have hA3 := hk3.1.trans hA2
            have hB3 := hk3.2.trans hB2
            clear hJ3 hk3 hA2 hB2
            gi_wp2
            go_roundw
            case rel => first | exact ⟨2, by omega, rfl, Lib.hid (by simpa using HJ3.out), hA3, hB3⟩ | ((repeat apply Exists.intro); exact ⟨⟨2, by omega, rfl, Lib.hid (by simpa using HJ3.out), hA3, hB3⟩, rfl⟩)
            case measure => simp [intOf]
          · have HJ3 := Lib.hid hJx3
            clear hJx3
            gi_wp2
            refine bodyPost_ret (results_none rfl _ _ _) rfl ?_
            exact ⟨⟨_, rfl⟩, .inr ⟨_, by simp [four], HJ3.out⟩⟩
        · gi_wp2
          go_roundw
          case rel => exact ⟨2, by omega, rfl, Lib.hid (by simpa [four] using HJ2.out), hA2, hB2⟩
          case measure => simp [intOf]
    · gi_wp2
      go_end0
      exact ⟨⟨_, rfl⟩, .inl ⟨_, rfl, by simpa [four] using HJ.out⟩⟩
end Go.Proofs.Ytgfofilkpaelnaa
