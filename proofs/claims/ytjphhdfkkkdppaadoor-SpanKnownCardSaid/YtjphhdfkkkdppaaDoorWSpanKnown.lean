/- The walk of monoclelaw02.SpanKnown. Printed by wip/genKN.py. -/
import Derived.Deep.DeepCutAuto
import Derived.Test.YtjphhdfkkkdppaaDoorRegInvB
import Derived.Test.YtjphhdfkkkdppaaDoorLawT
namespace Go.Proofs.YtjphhdfkkkdppaaDoor
open Go.RowKit Mnc
attribute [local go_sem] RunS_value RunS_skip RunS_enter evS_tmp evS_const evS_global evS_func


def IsB (w : World) (v : Value) (x y : Int) : Prop := ∃ B : Nat, v = .func (.func 81) #[] #[.pointer (some ⟨B, 0, none⟩)] ∧ w.heap[B]? = some (.cells #[.int .i64 x, .int .i64 y] 23 (0, 0))
def FlB (w : World) (v : Value) (n : Int) : Prop := ∃ B : Nat, v = .func (.func 82) #[] #[.pointer (some ⟨B, 0, none⟩)] ∧ w.heap[B]? = some (.cells #[.int .i64 n] 30 (0, 0))
def SyB (w : World) (v : Value) (n : Int) : Prop := ∃ B : Nat, v = .func (.func 87) #[] #[.pointer (some ⟨B, 0, none⟩)] ∧ w.heap[B]? = some (.cells #[.int .i64 n] 3 (0, 0))
section
variable {w w' : World} {v : Value} {x y n : Int}
theorem IsB.on (h : IsB w v x y) (k : Below w.heap.size w w') : IsB w' v x y := by
  obtain ⟨B, h1, h2⟩ := h
  exact ⟨B, h1, (k.block _ (lt_of_block h2)).trans h2⟩
theorem FlB.on (h : FlB w v n) (k : Below w.heap.size w w') : FlB w' v n := by
  obtain ⟨B, h1, h2⟩ := h
  exact ⟨B, h1, (k.block _ (lt_of_block h2)).trans h2⟩
theorem SyB.on (h : SyB w v n) (k : Below w.heap.size w w') : SyB w' v n := by
  obtain ⟨B, h1, h2⟩ := h
  exact ⟨B, h1, (k.block _ (lt_of_block h2)).trans h2⟩
end
theorem kn_thr {w : World} {n : Nat} {a b c : Value} {t : TypeId} (h : w.heap[n]? = some (.cells #[a, b, c] t (0, 0))) : w.cell? ⟨n, 0, none⟩ = some a ∧ w.cell? ⟨n, 1, none⟩ = some b ∧ w.cell? ⟨n, 2, none⟩ = some c := by
  simp [World.cell?, h]
theorem is_at (x y : Int) (W : World) : Calls Tryd.prog 58 #[.agg #[.int .i64 x, .int .i64 y]] W fun e w' => ∃ v, e = .returned v ∧ IsB w' v x y ∧ Below W.heap.size W w' :=
  (law2_is x y (Kn.start W)).mono fun _ _ ⟨h1, h2⟩ => ⟨_, h1, ⟨_, rfl, h2.blk _ (.head _)⟩, h2.bel⟩
theorem fl_at (n : Int) (W : World) : Calls Tryd.prog 59 #[.int .i64 n] W fun e w' => ∃ v, e = .returned v ∧ FlB w' v n ∧ Below W.heap.size W w' :=
  (law2_fails n (Kn.start W)).mono fun _ _ ⟨h1, h2⟩ => ⟨_, h1, ⟨_, rfl, h2.blk _ (.head _)⟩, h2.bel⟩
theorem sy_at (n : Int) (W : World) : Calls Tryd.prog 63 #[.int .i64 n] W fun e w' => ∃ v, e = .returned v ∧ SyB w' v n ∧ Below W.heap.size W w' :=
  (law2_says n (Kn.start W)).mono fun _ _ ⟨h1, h2⟩ => ⟨_, h1, ⟨_, rfl, h2.blk _ (.head _)⟩, h2.bel⟩
theorem is1_at {x y : Int} {B : Nat} {W : World} (h : W.heap[B]? = some (.cells #[.int .i64 x, .int .i64 y] 23 (0, 0))) : Calls Tryd.prog 81 #[.agg #[.int .i64 x, .int .i64 y], .int .i64 0, .pointer (some ⟨B, 0, none⟩)] W fun e w' => e = .returned (.bool true) ∧ Below W.heap.size W w' :=
  (law2_is1 x y B (w := W) (bs := [(B, .cells #[.int .i64 x, .int .i64 y] 23 (0, 0))]) ⟨Below.refl _ _, fun p hp => by rw [List.mem_singleton] at hp; subst hp; exact h⟩ (.head _)).mono fun _ _ ⟨h1, h2⟩ => ⟨h1, h2.bel⟩
theorem fl1_at {n : Int} {B : Nat} {W : World} (h : W.heap[B]? = some (.cells #[.int .i64 n] 30 (0, 0))) : Calls Tryd.prog 82 #[.agg #[.int .i64 0, .int .i64 0], .int .i64 n, .pointer (some ⟨B, 0, none⟩)] W fun e w' => e = .returned (.bool true) ∧ Below W.heap.size W w' :=
  (law2_fails1 n B (w := W) (bs := [(B, .cells #[.int .i64 n] 30 (0, 0))]) ⟨Below.refl _ _, fun p hp => by rw [List.mem_singleton] at hp; subst hp; exact h⟩ (.head _)).mono fun _ _ ⟨h1, h2⟩ => ⟨h1, h2.bel⟩
theorem sy1_at {n : Int} {B : Nat} {W : World} (h : W.heap[B]? = some (.cells #[.int .i64 n] 3 (0, 0))) : Calls Tryd.prog 87 #[.int .i64 n, .int .i64 0, .pointer (some ⟨B, 0, none⟩)] W fun e w' => e = .returned (.bool true) ∧ Below W.heap.size W w' :=
  (law2_says1 n B (w := W) (bs := [(B, .cells #[.int .i64 n] 3 (0, 0))]) ⟨Below.refl _ _, fun p hp => by rw [List.mem_singleton] at hp; subst hp; exact h⟩ (.head _)).mono fun _ _ ⟨h1, h2⟩ => ⟨h1, h2.bel⟩
theorem kn5_1 (W : World) : Calls Tryd.prog 18 #[.agg #[.int .i64 (-4503599627370496), .int .i64 4503599627370496]] W fun e w' => e = .returned (.int .i64 0) ∧ Below W.heap.size W w' := span_Check_ok (s := ((-4503599627370496), 4503599627370496)) (by decide) W
theorem kn5_5 (W : World) : Calls Tryd.prog 18 #[.agg #[.int .i64 1, .int .i64 0]] W fun e w' => e = .returned (.int .i64 20) ∧ Below W.heap.size W w' := span_Check_bad (s := (1, 0)) (by decide) W
theorem kn5_10 (W : World) : Calls Tryd.prog 18 #[.agg #[.int .i64 (-4503599627370497), .int .i64 0]] W fun e w' => e = .returned (.int .i64 20) ∧ Below W.heap.size W w' := span_Check_bad (s := ((-4503599627370497), 0)) (by decide) W
theorem kn5_15 (W : World) : Calls Tryd.prog 18 #[.agg #[.int .i64 0, .int .i64 4503599627370497]] W fun e w' => e = .returned (.int .i64 20) ∧ Below W.heap.size W w' := span_Check_bad (s := (0, 4503599627370497)) (by decide) W
theorem kn5_22 (W : World) : Calls Tryd.prog 28 #[.agg #[.int .i64 (-4503599627370496), .int .i64 4503599627370496]] W fun e w' => e = .returned (.tuple #[.agg #[.int .i64 (-4503599627370496), .int .i64 4503599627370496], .int .i64 0]) ∧ Below W.heap.size W w' := by
  have h := span_Neg ((-4503599627370496), 4503599627370496) W
  rw [show sNeg ((-4503599627370496), 4503599627370496) = (((-4503599627370496), 4503599627370496), 0) from by decide +kernel] at h
  exact h
theorem kn5_31 (W : World) : Calls Tryd.prog 24 #[.agg #[.int .i64 (-4503599627370496), .int .i64 4503599627370496], .agg #[.int .i64 0, .int .i64 1]] W fun e w' => e = .returned (.tuple #[.agg #[.int .i64 0, .int .i64 0], .int .i64 6]) ∧ Below W.heap.size W w' := by
  have h := span_Add ((-4503599627370496), 4503599627370496) (0, 1) W
  rw [show sAdd ((-4503599627370496), 4503599627370496) (0, 1) = ((0, 0), 6) from by decide +kernel] at h
  exact h
theorem kn5_41 (W : World) : Calls Tryd.prog 24 #[.agg #[.int .i64 (-4503599627370496), .int .i64 4503599627370496], .agg #[.int .i64 0, .int .i64 0]] W fun e w' => e = .returned (.tuple #[.agg #[.int .i64 (-4503599627370496), .int .i64 4503599627370496], .int .i64 0]) ∧ Below W.heap.size W w' := by
  have h := span_Add ((-4503599627370496), 4503599627370496) (0, 0) W
  rw [show sAdd ((-4503599627370496), 4503599627370496) (0, 0) = (((-4503599627370496), 4503599627370496), 0) from by decide +kernel] at h
  exact h
theorem kn5_50 (W : World) : Calls Tryd.prog 24 #[.agg #[.int .i64 (-4503599627370496), .int .i64 4503599627370496], .agg #[.int .i64 1, .int .i64 0]] W fun e w' => e = .returned (.tuple #[.agg #[.int .i64 0, .int .i64 0], .int .i64 20]) ∧ Below W.heap.size W w' := by
  have h := span_Add ((-4503599627370496), 4503599627370496) (1, 0) W
  rw [show sAdd ((-4503599627370496), 4503599627370496) (1, 0) = ((0, 0), 20) from by decide +kernel] at h
  exact h
theorem kn6_5 (W : World) : Calls Tryd.prog 36 #[.agg #[.int .i64 (-4503599627370496), .int .i64 4503599627370496]] W fun e w' => e = .returned (.tuple #[.agg #[.int .i64 0, .int .i64 4503599627370496], .int .i64 0]) ∧ Below W.heap.size W w' := by
  have h := span_Abs ((-4503599627370496), 4503599627370496) W
  rw [show sAbs ((-4503599627370496), 4503599627370496) = ((0, 4503599627370496), 0) from by decide +kernel] at h
  exact h
theorem kn6_15 (W : World) : Calls Tryd.prog 30 #[.agg #[.int .i64 (-1), .int .i64 1], .agg #[.int .i64 4294967296, .int .i64 4294967296]] W fun e w' => e = .returned (.tuple #[.agg #[.int .i64 (-1), .int .i64 1], .int .i64 0]) ∧ Below W.heap.size W w' := by
  have h := span_Mul ((-1), 1) (4294967296, 4294967296) W
  rw [show sMul ((-1), 1) (4294967296, 4294967296) = (((-1), 1), 0) from by decide +kernel] at h
  exact h
theorem kn6_25 (W : World) : Calls Tryd.prog 30 #[.agg #[.int .i64 1, .int .i64 1], .agg #[.int .i64 1, .int .i64 1]] W fun e w' => e = .returned (.tuple #[.agg #[.int .i64 0, .int .i64 1], .int .i64 0]) ∧ Below W.heap.size W w' := by
  have h := span_Mul (1, 1) (1, 1) W
  rw [show sMul (1, 1) (1, 1) = ((0, 1), 0) from by decide +kernel] at h
  exact h
theorem kn6_34 (W : World) : Calls Tryd.prog 32 #[.agg #[.int .i64 (-1), .int .i64 1]] W fun e w' => e = .returned (.tuple #[.agg #[.int .i64 0, .int .i64 1], .int .i64 0]) ∧ Below W.heap.size W w' := by
  have h := span_Sqr ((-1), 1) W
  rw [show sPow ((-1), 1) 2 = ((0, 1), 0) from by decide +kernel] at h
  exact h
theorem kn6_43 (W : World) : Calls Tryd.prog 34 #[.agg #[.int .i64 (-1), .int .i64 1], .int .i64 3] W fun e w' => e = .returned (.tuple #[.agg #[.int .i64 (-1), .int .i64 1], .int .i64 0]) ∧ Below W.heap.size W w' := by
  have h := span_Pow ((-1), 1) 3 W
  rw [show sPow ((-1), 1) 3 = (((-1), 1), 0) from by decide +kernel] at h
  exact h
theorem kn7_2 (W : World) : Calls Tryd.prog 57 #[.int .i64 1, .int .i64 65536] W fun e w' => e = .returned (.agg #[.int .i64 4294967296, .int .i64 281474976710656]) ∧ Below W.heap.size W w' := law2_whole 1 65536 (by decide) (by decide) W
theorem kn7_4 (W : World) : Calls Tryd.prog 57 #[.int .i64 1, .int .i64 2] W fun e w' => e = .returned (.agg #[.int .i64 4294967296, .int .i64 8589934592]) ∧ Below W.heap.size W w' := law2_whole 1 2 (by decide) (by decide) W
theorem kn7_5 (W : World) : Calls Tryd.prog 34 #[.agg #[.int .i64 4294967296, .int .i64 8589934592], .int .i64 16] W fun e w' => e = .returned (.tuple #[.agg #[.int .i64 4294967296, .int .i64 281474976710656], .int .i64 0]) ∧ Below W.heap.size W w' := by
  have h := span_Pow (4294967296, 8589934592) 16 W
  rw [show sPow (4294967296, 8589934592) 16 = ((4294967296, 281474976710656), 0) from by decide +kernel] at h
  exact h
theorem kn7_12 (W : World) : Calls Tryd.prog 57 #[.int .i64 1, .int .i64 3] W fun e w' => e = .returned (.agg #[.int .i64 4294967296, .int .i64 12884901888]) ∧ Below W.heap.size W w' := law2_whole 1 3 (by decide) (by decide) W
theorem kn7_13 (W : World) : Calls Tryd.prog 34 #[.agg #[.int .i64 4294967296, .int .i64 12884901888], .int .i64 16] W fun e w' => e = .returned (.tuple #[.agg #[.int .i64 0, .int .i64 0], .int .i64 6]) ∧ Below W.heap.size W w' := by
  have h := span_Pow (4294967296, 12884901888) 16 W
  rw [show sPow (4294967296, 12884901888) 16 = ((0, 0), 6) from by decide +kernel] at h
  exact h
theorem kn7_22 (W : World) : Calls Tryd.prog 34 #[.agg #[.int .i64 (-4503599627370496), .int .i64 4503599627370496], .int .i64 0] W fun e w' => e = .returned (.tuple #[.agg #[.int .i64 4294967296, .int .i64 4294967296], .int .i64 0]) ∧ Below W.heap.size W w' := by
  have h := span_Pow ((-4503599627370496), 4503599627370496) 0 W
  rw [show sPow ((-4503599627370496), 4503599627370496) 0 = ((4294967296, 4294967296), 0) from by decide +kernel] at h
  exact h
theorem kn7_30 (W : World) : Calls Tryd.prog 34 #[.agg #[.int .i64 (-4503599627370496), .int .i64 4503599627370496], .int .i64 (-1)] W fun e w' => e = .returned (.tuple #[.agg #[.int .i64 0, .int .i64 0], .int .i64 2]) ∧ Below W.heap.size W w' := by
  have h := span_Pow ((-4503599627370496), 4503599627370496) (-1) W
  rw [show sPow ((-4503599627370496), 4503599627370496) (-1) = ((0, 0), 2) from by decide +kernel] at h
  exact h
theorem kn7_38 (W : World) : Calls Tryd.prog 34 #[.agg #[.int .i64 1, .int .i64 0], .int .i64 (-1)] W fun e w' => e = .returned (.tuple #[.agg #[.int .i64 0, .int .i64 0], .int .i64 20]) ∧ Below W.heap.size W w' := by
  have h := span_Pow (1, 0) (-1) W
  rw [show sPow (1, 0) (-1) = ((0, 0), 20) from by decide +kernel] at h
  exact h
theorem kn7_47 (W : World) : Calls Tryd.prog 34 #[.agg #[.int .i64 (-4503599627370496), .int .i64 4503599627370496], .int .i64 1] W fun e w' => e = .returned (.tuple #[.agg #[.int .i64 (-4503599627370496), .int .i64 4503599627370496], .int .i64 0]) ∧ Below W.heap.size W w' := by
  have h := span_Pow ((-4503599627370496), 4503599627370496) 1 W
  rw [show sPow ((-4503599627370496), 4503599627370496) 1 = (((-4503599627370496), 4503599627370496), 0) from by decide +kernel] at h
  exact h
theorem kn7_53 (W : World) : Calls Tryd.prog 60 #[.int .i64 (-2), .int .i64 1] W fun e w' => e = .returned (.agg #[.int .i64 (-2147483648), .int .i64 1073741824]) ∧ Below W.heap.size W w' := law2_of (-2) 1 (by decide) (by decide) W
theorem kn7_55 (W : World) : Calls Tryd.prog 60 #[.int .i64 (-2), .int .i64 1] W fun e w' => e = .returned (.agg #[.int .i64 (-2147483648), .int .i64 1073741824]) ∧ Below W.heap.size W w' := law2_of (-2) 1 (by decide) (by decide) W
theorem kn7_56 (W : World) : Calls Tryd.prog 34 #[.agg #[.int .i64 (-2147483648), .int .i64 1073741824], .int .i64 1] W fun e w' => e = .returned (.tuple #[.agg #[.int .i64 (-2147483648), .int .i64 1073741824], .int .i64 0]) ∧ Below W.heap.size W w' := by
  have h := span_Pow ((-2147483648), 1073741824) 1 W
  rw [show sPow ((-2147483648), 1073741824) 1 = (((-2147483648), 1073741824), 0) from by decide +kernel] at h
  exact h
theorem kn7_62 (W : World) : Calls Tryd.prog 57 #[.int .i64 0, .int .i64 1048576] W fun e w' => e = .returned (.agg #[.int .i64 0, .int .i64 4503599627370496]) ∧ Below W.heap.size W w' := law2_whole 0 1048576 (by decide) (by decide) W
theorem kn7_64 (W : World) : Calls Tryd.prog 57 #[.int .i64 (-1024), .int .i64 1] W fun e w' => e = .returned (.agg #[.int .i64 (-4398046511104), .int .i64 4294967296]) ∧ Below W.heap.size W w' := law2_whole (-1024) 1 (by decide) (by decide) W
theorem kn7_65 (W : World) : Calls Tryd.prog 32 #[.agg #[.int .i64 (-4398046511104), .int .i64 4294967296]] W fun e w' => e = .returned (.tuple #[.agg #[.int .i64 0, .int .i64 4503599627370496], .int .i64 0]) ∧ Below W.heap.size W w' := by
  have h := span_Sqr ((-4398046511104), 4294967296) W
  rw [show sPow ((-4398046511104), 4294967296) 2 = ((0, 4503599627370496), 0) from by decide +kernel] at h
  exact h
theorem kn7_72 (W : World) : Calls Tryd.prog 57 #[.int .i64 (-1025), .int .i64 1] W fun e w' => e = .returned (.agg #[.int .i64 (-4402341478400), .int .i64 4294967296]) ∧ Below W.heap.size W w' := law2_whole (-1025) 1 (by decide) (by decide) W
theorem kn7_73 (W : World) : Calls Tryd.prog 32 #[.agg #[.int .i64 (-4402341478400), .int .i64 4294967296]] W fun e w' => e = .returned (.tuple #[.agg #[.int .i64 0, .int .i64 0], .int .i64 6]) ∧ Below W.heap.size W w' := by
  have h := span_Sqr ((-4402341478400), 4294967296) W
  rw [show sPow ((-4402341478400), 4294967296) 2 = ((0, 0), 6) from by decide +kernel] at h
  exact h
theorem kn8_4 (W : World) : Calls Tryd.prog 57 #[.int .i64 0, .int .i64 1] W fun e w' => e = .returned (.agg #[.int .i64 0, .int .i64 4294967296]) ∧ Below W.heap.size W w' := law2_whole 0 1 (by decide) (by decide) W
theorem kn8_5 (W : World) : Calls Tryd.prog 47 #[.agg #[.int .i64 1, .int .i64 0], .agg #[.int .i64 0, .int .i64 4294967296]] W fun e w' => e = .returned (.tuple #[.agg #[.int .i64 0, .int .i64 0], .int .i64 20]) ∧ Below W.heap.size W w' := by
  have h := span_Div (1, 0) (0, 4294967296) W
  rw [show sDiv (1, 0) (0, 4294967296) = ((0, 0), 20) from by decide +kernel] at h
  exact h
theorem kn8_14 (W : World) : Calls Tryd.prog 47 #[.agg #[.int .i64 4294967296, .int .i64 4294967296], .agg #[.int .i64 0, .int .i64 0]] W fun e w' => e = .returned (.tuple #[.agg #[.int .i64 0, .int .i64 0], .int .i64 7]) ∧ Below W.heap.size W w' := by
  have h := span_Div (4294967296, 4294967296) (0, 0) W
  rw [show sDiv (4294967296, 4294967296) (0, 0) = ((0, 0), 7) from by decide +kernel] at h
  exact h
theorem kn8_23 (W : World) : Calls Tryd.prog 47 #[.agg #[.int .i64 4294967296, .int .i64 4294967296], .agg #[.int .i64 (-4503599627370496), .int .i64 4503599627370496]] W fun e w' => e = .returned (.tuple #[.agg #[.int .i64 0, .int .i64 0], .int .i64 7]) ∧ Below W.heap.size W w' := by
  have h := span_Div (4294967296, 4294967296) ((-4503599627370496), 4503599627370496) W
  rw [show sDiv (4294967296, 4294967296) ((-4503599627370496), 4503599627370496) = ((0, 0), 7) from by decide +kernel] at h
  exact h
theorem kn8_32 (W : World) : Calls Tryd.prog 47 #[.agg #[.int .i64 4294967296, .int .i64 4294967296], .agg #[.int .i64 1, .int .i64 2]] W fun e w' => e = .returned (.tuple #[.agg #[.int .i64 0, .int .i64 0], .int .i64 6]) ∧ Below W.heap.size W w' := by
  have h := span_Div (4294967296, 4294967296) (1, 2) W
  rw [show sDiv (4294967296, 4294967296) (1, 2) = ((0, 0), 6) from by decide +kernel] at h
  exact h
theorem kn8_40 (W : World) : Calls Tryd.prog 61 #[.agg #[.int .i64 (-1), .int .i64 0]] W fun e w' => e = .returned (.tuple #[.agg #[.int .i64 0, .int .i64 0], .int .i64 2]) ∧ Below W.heap.size W w' := by
  have h := span_Sqrt ((-1), 0) W
  rw [show sSqrt ((-1), 0) = ((0, 0), 2) from by decide +kernel] at h
  exact h
theorem kn8_49 (W : World) : Calls Tryd.prog 61 #[.agg #[.int .i64 0, .int .i64 0]] W fun e w' => e = .returned (.tuple #[.agg #[.int .i64 0, .int .i64 0], .int .i64 0]) ∧ Below W.heap.size W w' := by
  have h := span_Sqrt (0, 0) W
  rw [show sSqrt (0, 0) = ((0, 0), 0) from by
  have e : sSqrt (0, 0) = _ := on1_ok (by decide)
  rw [e, if_neg (by decide), show ((0 : Int), (0 : Int)).1 = ((0 : Nat) : Int) from rfl, show ((0 : Int), (0 : Int)).2 = ((0 : Nat) : Int) from rfl, rt_down (a := 0) (r := 0) (by omega) (by omega) (by omega), rt_up_eq (a := 0) (r := 0) (by omega) (by omega)]
  rfl] at h
  exact h
theorem kn8_58 (W : World) : Calls Tryd.prog 61 #[.agg #[.int .i64 0, .int .i64 4503599627370496]] W fun e w' => e = .returned (.tuple #[.agg #[.int .i64 0, .int .i64 4398046511104], .int .i64 0]) ∧ Below W.heap.size W w' := by
  have h := span_Sqrt (0, 4503599627370496) W
  rw [show sSqrt (0, 4503599627370496) = ((0, 4398046511104), 0) from by
  have e : sSqrt (0, 4503599627370496) = _ := on1_ok (by decide)
  rw [e, if_neg (by decide), show ((0 : Int), (4503599627370496 : Int)).1 = ((0 : Nat) : Int) from rfl, show ((0 : Int), (4503599627370496 : Int)).2 = ((4503599627370496 : Nat) : Int) from rfl, rt_down (a := 0) (r := 0) (by omega) (by omega) (by omega), rt_up_eq (a := 4503599627370496) (r := 4398046511104) (by omega) (by omega)]
  rfl] at h
  exact h
theorem kn9_5 (W : World) : Calls Tryd.prog 62 #[.agg #[.int .i64 (-4503599627370496), .int .i64 4503599627370496], .int .i64 0, .int .i64 1] W fun e w' => e = .returned (.tuple #[.agg #[.int .i64 0, .int .i64 0], .int .i64 0]) ∧ Below W.heap.size W w' := by
  have h := span_Scale ((-4503599627370496), 4503599627370496) 0 1 W
  rw [show sScl ((-4503599627370496), 4503599627370496) 0 1 = ((0, 0), 0) from by decide +kernel] at h
  exact h
theorem kn9_14 (W : World) : Calls Tryd.prog 62 #[.agg #[.int .i64 (-4503599627370496), .int .i64 4503599627370496], .int .i64 (-7), .int .i64 7] W fun e w' => e = .returned (.tuple #[.agg #[.int .i64 (-4503599627370496), .int .i64 4503599627370496], .int .i64 0]) ∧ Below W.heap.size W w' := by
  have h := span_Scale ((-4503599627370496), 4503599627370496) (-7) 7 W
  rw [show sScl ((-4503599627370496), 4503599627370496) (-7) 7 = (((-4503599627370496), 4503599627370496), 0) from by decide +kernel] at h
  exact h
theorem kn9_22 (W : World) : Calls Tryd.prog 62 #[.agg #[.int .i64 4294967296, .int .i64 4294967296], .int .i64 1, .int .i64 0] W fun e w' => e = .returned (.tuple #[.agg #[.int .i64 0, .int .i64 0], .int .i64 2]) ∧ Below W.heap.size W w' := by
  have h := span_Scale (4294967296, 4294967296) 1 0 W
  rw [show sScl (4294967296, 4294967296) 1 0 = ((0, 0), 2) from by decide +kernel] at h
  exact h
theorem kn9_30 (W : World) : Calls Tryd.prog 62 #[.agg #[.int .i64 4294967296, .int .i64 4294967296], .int .i64 (-9223372036854775808), .int .i64 1] W fun e w' => e = .returned (.tuple #[.agg #[.int .i64 0, .int .i64 0], .int .i64 2]) ∧ Below W.heap.size W w' := by
  have h := span_Scale (4294967296, 4294967296) (-9223372036854775808) 1 W
  rw [show sScl (4294967296, 4294967296) (-9223372036854775808) 1 = ((0, 0), 2) from by decide +kernel] at h
  exact h
theorem kn9_38 (W : World) : Calls Tryd.prog 62 #[.agg #[.int .i64 (-4503599627370496), .int .i64 4503599627370496], .int .i64 2, .int .i64 1] W fun e w' => e = .returned (.tuple #[.agg #[.int .i64 0, .int .i64 0], .int .i64 6]) ∧ Below W.heap.size W w' := by
  have h := span_Scale ((-4503599627370496), 4503599627370496) 2 1 W
  rw [show sScl ((-4503599627370496), 4503599627370496) 2 1 = ((0, 0), 6) from by decide +kernel] at h
  exact h
theorem kn9_47 (W : World) : Calls Tryd.prog 62 #[.agg #[.int .i64 (-1), .int .i64 0], .int .i64 1, .int .i64 4611686018427387904] W fun e w' => e = .returned (.tuple #[.agg #[.int .i64 (-1), .int .i64 0], .int .i64 0]) ∧ Below W.heap.size W w' := by
  have h := span_Scale ((-1), 0) 1 4611686018427387904 W
  rw [show sScl ((-1), 0) 1 4611686018427387904 = (((-1), 0), 0) from by decide +kernel] at h
  exact h
theorem kn9_55 (W : World) : Calls Tryd.prog 62 #[.agg #[.int .i64 1, .int .i64 0], .int .i64 1, .int .i64 0] W fun e w' => e = .returned (.tuple #[.agg #[.int .i64 0, .int .i64 0], .int .i64 20]) ∧ Below W.heap.size W w' := by
  have h := span_Scale (1, 0) 1 0 W
  rw [show sScl (1, 0) 1 0 = ((0, 0), 20) from by decide +kernel] at h
  exact h
theorem kn10_6 (W : World) : Calls Tryd.prog 44 #[.agg #[.int .i64 2, .int .i64 5], .agg #[.int .i64 5, .int .i64 9]] W fun e w' => e = .returned (.tuple #[.agg #[.int .i64 5, .int .i64 5], .int .i64 0]) ∧ Below W.heap.size W w' := by
  have h := span_Meet (2, 5) (5, 9) W
  rw [show sMeet (2, 5) (5, 9) = ((5, 5), 0) from by decide +kernel] at h
  exact h
theorem kn10_15 (W : World) : Calls Tryd.prog 44 #[.agg #[.int .i64 0, .int .i64 0], .agg #[.int .i64 1, .int .i64 0]] W fun e w' => e = .returned (.tuple #[.agg #[.int .i64 0, .int .i64 0], .int .i64 20]) ∧ Below W.heap.size W w' := by
  have h := span_Meet (0, 0) (1, 0) W
  rw [show sMeet (0, 0) (1, 0) = ((0, 0), 20) from by decide +kernel] at h
  exact h
theorem kn10_23 (W : World) : Calls Tryd.prog 51 #[.agg #[.int .i64 (-1), .int .i64 0]] W fun e w' => e = .returned (.tuple #[.int .i64 (-1), .int .i64 0]) ∧ Below W.heap.size W w' := by
  have h := span_Mid ((-1), 0) W
  rw [show sMid ((-1), 0) = ((-1), 0) from by decide +kernel] at h
  exact h
theorem kn10_31 (W : World) : Calls Tryd.prog 53 #[.agg #[.int .i64 (-4503599627370496), .int .i64 4503599627370496]] W fun e w' => e = .returned (.tuple #[.int .i64 9007199254740992, .int .i64 0]) ∧ Below W.heap.size W w' := by
  have h := span_Width ((-4503599627370496), 4503599627370496) W
  rw [show sWidth ((-4503599627370496), 4503599627370496) = (9007199254740992, 0) from by decide +kernel] at h
  exact h
theorem kn10_39 (W : World) : Calls Tryd.prog 55 #[.agg #[.int .i64 (-2), .int .i64 (-1)]] W fun e w' => e = .returned (.tuple #[.int .i64 (-1), .int .i64 0]) ∧ Below W.heap.size W w' := by
  have h := span_Sign ((-2), (-1)) W
  rw [show sSign ((-2), (-1)) = ((-1), 0) from by decide +kernel] at h
  exact h
theorem kn10_47 (W : World) : Calls Tryd.prog 55 #[.agg #[.int .i64 4294967296, .int .i64 4294967296]] W fun e w' => e = .returned (.tuple #[.int .i64 1, .int .i64 0]) ∧ Below W.heap.size W w' := by
  have h := span_Sign (4294967296, 4294967296) W
  rw [show sSign (4294967296, 4294967296) = (1, 0) from by decide +kernel] at h
  exact h
theorem kn10_54 (W : World) (hP : Pows W) : Calls Tryd.prog 21 #[.int .i64 1, .int .i64 13] W fun e w' => e = .returned (.tuple #[.agg #[.int .i64 0, .int .i64 0], .int .i64 2]) ∧ Below W.heap.size W w' := by
  have h := span_Dec 1 13 (by decide) W hP
  rw [show sDec 1 13 = ((0, 0), 2) from by decide +kernel] at h
  exact h
theorem kn10_61 (W : World) (hP : Pows W) : Calls Tryd.prog 21 #[.int .i64 2097152, .int .i64 0] W fun e w' => e = .returned (.tuple #[.agg #[.int .i64 0, .int .i64 0], .int .i64 6]) ∧ Below W.heap.size W w' := by
  have h := span_Dec 2097152 0 (by decide) W hP
  rw [show sDec 2097152 0 = ((0, 0), 6) from by decide +kernel] at h
  exact h
structure Kn5 (W : World) (M B O : Nat) (L : Nat → Bool) (s : Nat → Value) (w : World) : Prop where
  bel : Below W.heap.size W w
  e0 : L 0 = true → s 15 = .agg #[.int .i64 (-4503599627370496), .int .i64 4503599627370496]
  e1 : L 1 = true → s 16 = .int .i64 0
  e2 : L 2 = true → s 17 = .bool true
  e3 : L 3 = true → s 18 = .bool true
  e4 : L 4 = true → s 19 = .agg #[.int .i64 1, .int .i64 0]
  e5 : L 5 = true → s 20 = .int .i64 20
  e6 : L 6 = true → s 21 = .bool true
  e7 : L 7 = true → s 22 = .bool true
  e8 : L 8 = true → s 23 = .bool true
  e9 : L 9 = true → s 24 = .agg #[.int .i64 (-4503599627370497), .int .i64 0]
  e10 : L 10 = true → s 25 = .int .i64 20
  e11 : L 11 = true → s 26 = .bool true
  e12 : L 12 = true → s 27 = .bool true
  e13 : L 13 = true → s 28 = .bool true
  e14 : L 14 = true → s 29 = .agg #[.int .i64 0, .int .i64 4503599627370497]
  e15 : L 15 = true → s 30 = .int .i64 20
  e16 : L 16 = true → s 31 = .bool true
  e17 : L 17 = true → s 32 = .bool true
  e18 : L 18 = true → s 33 = .bool true
  e19 : L 19 = true → s 34 = .agg #[.int .i64 (-4503599627370496), .int .i64 4503599627370496]
  e20 : L 20 = true → IsB w (s 35) (-4503599627370496) 4503599627370496
  e21 : L 21 = true → s 36 = .agg #[.int .i64 (-4503599627370496), .int .i64 4503599627370496]
  e22 : L 22 = true → s 37 = .tuple #[.agg #[.int .i64 (-4503599627370496), .int .i64 4503599627370496], .int .i64 0]
  e23 : L 23 = true → s 38 = .agg #[.int .i64 (-4503599627370496), .int .i64 4503599627370496]
  e24 : L 24 = true → s 39 = .int .i64 0
  e25 : L 25 = true → s 40 = .bool true
  e26 : L 26 = true → s 41 = .bool true
  e27 : L 27 = true → s 42 = .bool true
  e28 : L 28 = true → FlB w (s 43) 6
  e29 : L 29 = true → s 44 = .agg #[.int .i64 (-4503599627370496), .int .i64 4503599627370496]
  e30 : L 30 = true → s 45 = .agg #[.int .i64 0, .int .i64 1]
  e31 : L 31 = true → s 46 = .tuple #[.agg #[.int .i64 0, .int .i64 0], .int .i64 6]
  e32 : L 32 = true → s 47 = .agg #[.int .i64 0, .int .i64 0]
  e33 : L 33 = true → s 48 = .int .i64 6
  e34 : L 34 = true → s 49 = .bool true
  e35 : L 35 = true → s 50 = .bool true
  e36 : L 36 = true → s 51 = .bool true
  e37 : L 37 = true → s 52 = .agg #[.int .i64 (-4503599627370496), .int .i64 4503599627370496]
  e38 : L 38 = true → IsB w (s 53) (-4503599627370496) 4503599627370496
  e39 : L 39 = true → s 54 = .agg #[.int .i64 (-4503599627370496), .int .i64 4503599627370496]
  e40 : L 40 = true → s 55 = .agg #[.int .i64 0, .int .i64 0]
  e41 : L 41 = true → s 56 = .tuple #[.agg #[.int .i64 (-4503599627370496), .int .i64 4503599627370496], .int .i64 0]
  e42 : L 42 = true → s 57 = .agg #[.int .i64 (-4503599627370496), .int .i64 4503599627370496]
  e43 : L 43 = true → s 58 = .int .i64 0
  e44 : L 44 = true → s 59 = .bool true
  e45 : L 45 = true → s 60 = .bool true
  e46 : L 46 = true → s 61 = .bool true
  e47 : L 47 = true → FlB w (s 62) 20
  e48 : L 48 = true → s 63 = .agg #[.int .i64 (-4503599627370496), .int .i64 4503599627370496]
  e49 : L 49 = true → s 64 = .agg #[.int .i64 1, .int .i64 0]
  e50 : L 50 = true → s 65 = .tuple #[.agg #[.int .i64 0, .int .i64 0], .int .i64 20]
  e51 : L 51 = true → s 66 = .agg #[.int .i64 0, .int .i64 0]
  e52 : L 52 = true → s 67 = .int .i64 20
  e53 : L 53 = true → s 68 = .bool true
  e54 : L 54 = true → s 69 = .bool true
  e55 : L 55 = true → s 4 = .bool true
structure Kn6 (W : World) (M B O : Nat) (L : Nat → Bool) (s : Nat → Value) (w : World) : Prop where
  bel : Below W.heap.size W w
  o4 : L 48 = false → s 4 = .bool true
  dl : L 48 = true → L 0 = true
  e0 : L 0 = true → s 70 = .bool true
  e1 : L 1 = true → s 71 = .bool true
  e2 : L 2 = true → s 72 = .agg #[.int .i64 0, .int .i64 4503599627370496]
  e3 : L 3 = true → IsB w (s 73) 0 4503599627370496
  e4 : L 4 = true → s 74 = .agg #[.int .i64 (-4503599627370496), .int .i64 4503599627370496]
  e5 : L 5 = true → s 75 = .tuple #[.agg #[.int .i64 0, .int .i64 4503599627370496], .int .i64 0]
  e6 : L 6 = true → s 76 = .agg #[.int .i64 0, .int .i64 4503599627370496]
  e7 : L 7 = true → s 77 = .int .i64 0
  e8 : L 8 = true → s 78 = .bool true
  e9 : L 9 = true → s 79 = .bool true
  e10 : L 10 = true → s 80 = .bool true
  e11 : L 11 = true → s 81 = .agg #[.int .i64 (-1), .int .i64 1]
  e12 : L 12 = true → IsB w (s 82) (-1) 1
  e13 : L 13 = true → s 83 = .agg #[.int .i64 (-1), .int .i64 1]
  e14 : L 14 = true → s 84 = .agg #[.int .i64 4294967296, .int .i64 4294967296]
  e15 : L 15 = true → s 85 = .tuple #[.agg #[.int .i64 (-1), .int .i64 1], .int .i64 0]
  e16 : L 16 = true → s 86 = .agg #[.int .i64 (-1), .int .i64 1]
  e17 : L 17 = true → s 87 = .int .i64 0
  e18 : L 18 = true → s 88 = .bool true
  e19 : L 19 = true → s 89 = .bool true
  e20 : L 20 = true → s 90 = .bool true
  e21 : L 21 = true → s 91 = .agg #[.int .i64 0, .int .i64 1]
  e22 : L 22 = true → IsB w (s 92) 0 1
  e23 : L 23 = true → s 93 = .agg #[.int .i64 1, .int .i64 1]
  e24 : L 24 = true → s 94 = .agg #[.int .i64 1, .int .i64 1]
  e25 : L 25 = true → s 95 = .tuple #[.agg #[.int .i64 0, .int .i64 1], .int .i64 0]
  e26 : L 26 = true → s 96 = .agg #[.int .i64 0, .int .i64 1]
  e27 : L 27 = true → s 97 = .int .i64 0
  e28 : L 28 = true → s 98 = .bool true
  e29 : L 29 = true → s 99 = .bool true
  e30 : L 30 = true → s 100 = .bool true
  e31 : L 31 = true → s 101 = .agg #[.int .i64 0, .int .i64 1]
  e32 : L 32 = true → IsB w (s 102) 0 1
  e33 : L 33 = true → s 103 = .agg #[.int .i64 (-1), .int .i64 1]
  e34 : L 34 = true → s 104 = .tuple #[.agg #[.int .i64 0, .int .i64 1], .int .i64 0]
  e35 : L 35 = true → s 105 = .agg #[.int .i64 0, .int .i64 1]
  e36 : L 36 = true → s 106 = .int .i64 0
  e37 : L 37 = true → s 107 = .bool true
  e38 : L 38 = true → s 108 = .bool true
  e39 : L 39 = true → s 109 = .bool true
  e40 : L 40 = true → s 110 = .agg #[.int .i64 (-1), .int .i64 1]
  e41 : L 41 = true → IsB w (s 111) (-1) 1
  e42 : L 42 = true → s 112 = .agg #[.int .i64 (-1), .int .i64 1]
  e43 : L 43 = true → s 113 = .tuple #[.agg #[.int .i64 (-1), .int .i64 1], .int .i64 0]
  e44 : L 44 = true → s 114 = .agg #[.int .i64 (-1), .int .i64 1]
  e45 : L 45 = true → s 115 = .int .i64 0
  e46 : L 46 = true → s 116 = .bool true
  e47 : L 47 = true → s 117 = .bool true
  e48 : L 48 = true → s 4 = .bool true
structure Kn7 (W : World) (M B O : Nat) (L : Nat → Bool) (s : Nat → Value) (w : World) : Prop where
  bel : Below W.heap.size W w
  o4 : L 78 = false → s 4 = .bool true
  dl : L 78 = true → L 0 = true
  e0 : L 0 = true → s 118 = .bool true
  e1 : L 1 = true → s 119 = .bool true
  e2 : L 2 = true → s 120 = .agg #[.int .i64 4294967296, .int .i64 281474976710656]
  e3 : L 3 = true → IsB w (s 121) 4294967296 281474976710656
  e4 : L 4 = true → s 122 = .agg #[.int .i64 4294967296, .int .i64 8589934592]
  e5 : L 5 = true → s 123 = .tuple #[.agg #[.int .i64 4294967296, .int .i64 281474976710656], .int .i64 0]
  e6 : L 6 = true → s 124 = .agg #[.int .i64 4294967296, .int .i64 281474976710656]
  e7 : L 7 = true → s 125 = .int .i64 0
  e8 : L 8 = true → s 126 = .bool true
  e9 : L 9 = true → s 127 = .bool true
  e10 : L 10 = true → s 128 = .bool true
  e11 : L 11 = true → FlB w (s 129) 6
  e12 : L 12 = true → s 130 = .agg #[.int .i64 4294967296, .int .i64 12884901888]
  e13 : L 13 = true → s 131 = .tuple #[.agg #[.int .i64 0, .int .i64 0], .int .i64 6]
  e14 : L 14 = true → s 132 = .agg #[.int .i64 0, .int .i64 0]
  e15 : L 15 = true → s 133 = .int .i64 6
  e16 : L 16 = true → s 134 = .bool true
  e17 : L 17 = true → s 135 = .bool true
  e18 : L 18 = true → s 136 = .bool true
  e19 : L 19 = true → s 137 = .agg #[.int .i64 4294967296, .int .i64 4294967296]
  e20 : L 20 = true → IsB w (s 138) 4294967296 4294967296
  e21 : L 21 = true → s 139 = .agg #[.int .i64 (-4503599627370496), .int .i64 4503599627370496]
  e22 : L 22 = true → s 140 = .tuple #[.agg #[.int .i64 4294967296, .int .i64 4294967296], .int .i64 0]
  e23 : L 23 = true → s 141 = .agg #[.int .i64 4294967296, .int .i64 4294967296]
  e24 : L 24 = true → s 142 = .int .i64 0
  e25 : L 25 = true → s 143 = .bool true
  e26 : L 26 = true → s 144 = .bool true
  e27 : L 27 = true → s 145 = .bool true
  e28 : L 28 = true → FlB w (s 146) 2
  e29 : L 29 = true → s 147 = .agg #[.int .i64 (-4503599627370496), .int .i64 4503599627370496]
  e30 : L 30 = true → s 148 = .tuple #[.agg #[.int .i64 0, .int .i64 0], .int .i64 2]
  e31 : L 31 = true → s 149 = .agg #[.int .i64 0, .int .i64 0]
  e32 : L 32 = true → s 150 = .int .i64 2
  e33 : L 33 = true → s 151 = .bool true
  e34 : L 34 = true → s 152 = .bool true
  e35 : L 35 = true → s 153 = .bool true
  e36 : L 36 = true → FlB w (s 154) 20
  e37 : L 37 = true → s 155 = .agg #[.int .i64 1, .int .i64 0]
  e38 : L 38 = true → s 156 = .tuple #[.agg #[.int .i64 0, .int .i64 0], .int .i64 20]
  e39 : L 39 = true → s 157 = .agg #[.int .i64 0, .int .i64 0]
  e40 : L 40 = true → s 158 = .int .i64 20
  e41 : L 41 = true → s 159 = .bool true
  e42 : L 42 = true → s 160 = .bool true
  e43 : L 43 = true → s 161 = .bool true
  e44 : L 44 = true → s 162 = .agg #[.int .i64 (-4503599627370496), .int .i64 4503599627370496]
  e45 : L 45 = true → IsB w (s 163) (-4503599627370496) 4503599627370496
  e46 : L 46 = true → s 164 = .agg #[.int .i64 (-4503599627370496), .int .i64 4503599627370496]
  e47 : L 47 = true → s 165 = .tuple #[.agg #[.int .i64 (-4503599627370496), .int .i64 4503599627370496], .int .i64 0]
  e48 : L 48 = true → s 166 = .agg #[.int .i64 (-4503599627370496), .int .i64 4503599627370496]
  e49 : L 49 = true → s 167 = .int .i64 0
  e50 : L 50 = true → s 168 = .bool true
  e51 : L 51 = true → s 169 = .bool true
  e52 : L 52 = true → s 170 = .bool true
  e53 : L 53 = true → s 171 = .agg #[.int .i64 (-2147483648), .int .i64 1073741824]
  e54 : L 54 = true → IsB w (s 172) (-2147483648) 1073741824
  e55 : L 55 = true → s 173 = .agg #[.int .i64 (-2147483648), .int .i64 1073741824]
  e56 : L 56 = true → s 174 = .tuple #[.agg #[.int .i64 (-2147483648), .int .i64 1073741824], .int .i64 0]
  e57 : L 57 = true → s 175 = .agg #[.int .i64 (-2147483648), .int .i64 1073741824]
  e58 : L 58 = true → s 176 = .int .i64 0
  e59 : L 59 = true → s 177 = .bool true
  e60 : L 60 = true → s 178 = .bool true
  e61 : L 61 = true → s 179 = .bool true
  e62 : L 62 = true → s 180 = .agg #[.int .i64 0, .int .i64 4503599627370496]
  e63 : L 63 = true → IsB w (s 181) 0 4503599627370496
  e64 : L 64 = true → s 182 = .agg #[.int .i64 (-4398046511104), .int .i64 4294967296]
  e65 : L 65 = true → s 183 = .tuple #[.agg #[.int .i64 0, .int .i64 4503599627370496], .int .i64 0]
  e66 : L 66 = true → s 184 = .agg #[.int .i64 0, .int .i64 4503599627370496]
  e67 : L 67 = true → s 185 = .int .i64 0
  e68 : L 68 = true → s 186 = .bool true
  e69 : L 69 = true → s 187 = .bool true
  e70 : L 70 = true → s 188 = .bool true
  e71 : L 71 = true → FlB w (s 189) 6
  e72 : L 72 = true → s 190 = .agg #[.int .i64 (-4402341478400), .int .i64 4294967296]
  e73 : L 73 = true → s 191 = .tuple #[.agg #[.int .i64 0, .int .i64 0], .int .i64 6]
  e74 : L 74 = true → s 192 = .agg #[.int .i64 0, .int .i64 0]
  e75 : L 75 = true → s 193 = .int .i64 6
  e76 : L 76 = true → s 194 = .bool true
  e77 : L 77 = true → s 195 = .bool true
  e78 : L 78 = true → s 4 = .bool true
structure Kn8 (W : World) (M B O : Nat) (L : Nat → Bool) (s : Nat → Value) (w : World) : Prop where
  bel : Below W.heap.size W w
  o4 : L 63 = false → s 4 = .bool true
  dl : L 63 = true → L 0 = true
  e0 : L 0 = true → s 196 = .bool true
  e1 : L 1 = true → s 197 = .bool true
  e2 : L 2 = true → FlB w (s 198) 20
  e3 : L 3 = true → s 199 = .agg #[.int .i64 1, .int .i64 0]
  e4 : L 4 = true → s 200 = .agg #[.int .i64 0, .int .i64 4294967296]
  e5 : L 5 = true → s 201 = .tuple #[.agg #[.int .i64 0, .int .i64 0], .int .i64 20]
  e6 : L 6 = true → s 202 = .agg #[.int .i64 0, .int .i64 0]
  e7 : L 7 = true → s 203 = .int .i64 20
  e8 : L 8 = true → s 204 = .bool true
  e9 : L 9 = true → s 205 = .bool true
  e10 : L 10 = true → s 206 = .bool true
  e11 : L 11 = true → FlB w (s 207) 7
  e12 : L 12 = true → s 208 = .agg #[.int .i64 4294967296, .int .i64 4294967296]
  e13 : L 13 = true → s 209 = .agg #[.int .i64 0, .int .i64 0]
  e14 : L 14 = true → s 210 = .tuple #[.agg #[.int .i64 0, .int .i64 0], .int .i64 7]
  e15 : L 15 = true → s 211 = .agg #[.int .i64 0, .int .i64 0]
  e16 : L 16 = true → s 212 = .int .i64 7
  e17 : L 17 = true → s 213 = .bool true
  e18 : L 18 = true → s 214 = .bool true
  e19 : L 19 = true → s 215 = .bool true
  e20 : L 20 = true → FlB w (s 216) 7
  e21 : L 21 = true → s 217 = .agg #[.int .i64 4294967296, .int .i64 4294967296]
  e22 : L 22 = true → s 218 = .agg #[.int .i64 (-4503599627370496), .int .i64 4503599627370496]
  e23 : L 23 = true → s 219 = .tuple #[.agg #[.int .i64 0, .int .i64 0], .int .i64 7]
  e24 : L 24 = true → s 220 = .agg #[.int .i64 0, .int .i64 0]
  e25 : L 25 = true → s 221 = .int .i64 7
  e26 : L 26 = true → s 222 = .bool true
  e27 : L 27 = true → s 223 = .bool true
  e28 : L 28 = true → s 224 = .bool true
  e29 : L 29 = true → FlB w (s 225) 6
  e30 : L 30 = true → s 226 = .agg #[.int .i64 4294967296, .int .i64 4294967296]
  e31 : L 31 = true → s 227 = .agg #[.int .i64 1, .int .i64 2]
  e32 : L 32 = true → s 228 = .tuple #[.agg #[.int .i64 0, .int .i64 0], .int .i64 6]
  e33 : L 33 = true → s 229 = .agg #[.int .i64 0, .int .i64 0]
  e34 : L 34 = true → s 230 = .int .i64 6
  e35 : L 35 = true → s 231 = .bool true
  e36 : L 36 = true → s 232 = .bool true
  e37 : L 37 = true → s 233 = .bool true
  e38 : L 38 = true → FlB w (s 234) 2
  e39 : L 39 = true → s 235 = .agg #[.int .i64 (-1), .int .i64 0]
  e40 : L 40 = true → s 236 = .tuple #[.agg #[.int .i64 0, .int .i64 0], .int .i64 2]
  e41 : L 41 = true → s 237 = .agg #[.int .i64 0, .int .i64 0]
  e42 : L 42 = true → s 238 = .int .i64 2
  e43 : L 43 = true → s 239 = .bool true
  e44 : L 44 = true → s 240 = .bool true
  e45 : L 45 = true → s 241 = .bool true
  e46 : L 46 = true → s 242 = .agg #[.int .i64 0, .int .i64 0]
  e47 : L 47 = true → IsB w (s 243) 0 0
  e48 : L 48 = true → s 244 = .agg #[.int .i64 0, .int .i64 0]
  e49 : L 49 = true → s 245 = .tuple #[.agg #[.int .i64 0, .int .i64 0], .int .i64 0]
  e50 : L 50 = true → s 246 = .agg #[.int .i64 0, .int .i64 0]
  e51 : L 51 = true → s 247 = .int .i64 0
  e52 : L 52 = true → s 248 = .bool true
  e53 : L 53 = true → s 249 = .bool true
  e54 : L 54 = true → s 250 = .bool true
  e55 : L 55 = true → s 251 = .agg #[.int .i64 0, .int .i64 4398046511104]
  e56 : L 56 = true → IsB w (s 252) 0 4398046511104
  e57 : L 57 = true → s 253 = .agg #[.int .i64 0, .int .i64 4503599627370496]
  e58 : L 58 = true → s 254 = .tuple #[.agg #[.int .i64 0, .int .i64 4398046511104], .int .i64 0]
  e59 : L 59 = true → s 255 = .agg #[.int .i64 0, .int .i64 4398046511104]
  e60 : L 60 = true → s 256 = .int .i64 0
  e61 : L 61 = true → s 257 = .bool true
  e62 : L 62 = true → s 258 = .bool true
  e63 : L 63 = true → s 4 = .bool true
structure Kn9 (W : World) (M B O : Nat) (L : Nat → Bool) (s : Nat → Value) (w : World) : Prop where
  bel : Below W.heap.size W w
  o4 : L 60 = false → s 4 = .bool true
  dl : L 60 = true → L 0 = true
  e0 : L 0 = true → s 259 = .bool true
  e1 : L 1 = true → s 260 = .bool true
  e2 : L 2 = true → s 261 = .agg #[.int .i64 0, .int .i64 0]
  e3 : L 3 = true → IsB w (s 262) 0 0
  e4 : L 4 = true → s 263 = .agg #[.int .i64 (-4503599627370496), .int .i64 4503599627370496]
  e5 : L 5 = true → s 264 = .tuple #[.agg #[.int .i64 0, .int .i64 0], .int .i64 0]
  e6 : L 6 = true → s 265 = .agg #[.int .i64 0, .int .i64 0]
  e7 : L 7 = true → s 266 = .int .i64 0
  e8 : L 8 = true → s 267 = .bool true
  e9 : L 9 = true → s 268 = .bool true
  e10 : L 10 = true → s 269 = .bool true
  e11 : L 11 = true → s 270 = .agg #[.int .i64 (-4503599627370496), .int .i64 4503599627370496]
  e12 : L 12 = true → IsB w (s 271) (-4503599627370496) 4503599627370496
  e13 : L 13 = true → s 272 = .agg #[.int .i64 (-4503599627370496), .int .i64 4503599627370496]
  e14 : L 14 = true → s 273 = .tuple #[.agg #[.int .i64 (-4503599627370496), .int .i64 4503599627370496], .int .i64 0]
  e15 : L 15 = true → s 274 = .agg #[.int .i64 (-4503599627370496), .int .i64 4503599627370496]
  e16 : L 16 = true → s 275 = .int .i64 0
  e17 : L 17 = true → s 276 = .bool true
  e18 : L 18 = true → s 277 = .bool true
  e19 : L 19 = true → s 278 = .bool true
  e20 : L 20 = true → FlB w (s 279) 2
  e21 : L 21 = true → s 280 = .agg #[.int .i64 4294967296, .int .i64 4294967296]
  e22 : L 22 = true → s 281 = .tuple #[.agg #[.int .i64 0, .int .i64 0], .int .i64 2]
  e23 : L 23 = true → s 282 = .agg #[.int .i64 0, .int .i64 0]
  e24 : L 24 = true → s 283 = .int .i64 2
  e25 : L 25 = true → s 284 = .bool true
  e26 : L 26 = true → s 285 = .bool true
  e27 : L 27 = true → s 286 = .bool true
  e28 : L 28 = true → FlB w (s 287) 2
  e29 : L 29 = true → s 288 = .agg #[.int .i64 4294967296, .int .i64 4294967296]
  e30 : L 30 = true → s 289 = .tuple #[.agg #[.int .i64 0, .int .i64 0], .int .i64 2]
  e31 : L 31 = true → s 290 = .agg #[.int .i64 0, .int .i64 0]
  e32 : L 32 = true → s 291 = .int .i64 2
  e33 : L 33 = true → s 292 = .bool true
  e34 : L 34 = true → s 293 = .bool true
  e35 : L 35 = true → s 294 = .bool true
  e36 : L 36 = true → FlB w (s 295) 6
  e37 : L 37 = true → s 296 = .agg #[.int .i64 (-4503599627370496), .int .i64 4503599627370496]
  e38 : L 38 = true → s 297 = .tuple #[.agg #[.int .i64 0, .int .i64 0], .int .i64 6]
  e39 : L 39 = true → s 298 = .agg #[.int .i64 0, .int .i64 0]
  e40 : L 40 = true → s 299 = .int .i64 6
  e41 : L 41 = true → s 300 = .bool true
  e42 : L 42 = true → s 301 = .bool true
  e43 : L 43 = true → s 302 = .bool true
  e44 : L 44 = true → s 303 = .agg #[.int .i64 (-1), .int .i64 0]
  e45 : L 45 = true → IsB w (s 304) (-1) 0
  e46 : L 46 = true → s 305 = .agg #[.int .i64 (-1), .int .i64 0]
  e47 : L 47 = true → s 306 = .tuple #[.agg #[.int .i64 (-1), .int .i64 0], .int .i64 0]
  e48 : L 48 = true → s 307 = .agg #[.int .i64 (-1), .int .i64 0]
  e49 : L 49 = true → s 308 = .int .i64 0
  e50 : L 50 = true → s 309 = .bool true
  e51 : L 51 = true → s 310 = .bool true
  e52 : L 52 = true → s 311 = .bool true
  e53 : L 53 = true → FlB w (s 312) 20
  e54 : L 54 = true → s 313 = .agg #[.int .i64 1, .int .i64 0]
  e55 : L 55 = true → s 314 = .tuple #[.agg #[.int .i64 0, .int .i64 0], .int .i64 20]
  e56 : L 56 = true → s 315 = .agg #[.int .i64 0, .int .i64 0]
  e57 : L 57 = true → s 316 = .int .i64 20
  e58 : L 58 = true → s 317 = .bool true
  e59 : L 59 = true → s 318 = .bool true
  e60 : L 60 = true → s 4 = .bool true
structure Kn10 (W : World) (M B O : Nat) (L : Nat → Bool) (s : Nat → Value) (w : World) : Prop where
  bel : Below W.heap.size W w
  o4 : L 66 = false → s 4 = .bool true
  dl : L 66 = true → L 0 = true
  e0 : L 0 = true → s 319 = .bool true
  e1 : L 1 = true → s 320 = .bool true
  e2 : L 2 = true → s 321 = .agg #[.int .i64 5, .int .i64 5]
  e3 : L 3 = true → IsB w (s 322) 5 5
  e4 : L 4 = true → s 323 = .agg #[.int .i64 2, .int .i64 5]
  e5 : L 5 = true → s 324 = .agg #[.int .i64 5, .int .i64 9]
  e6 : L 6 = true → s 325 = .tuple #[.agg #[.int .i64 5, .int .i64 5], .int .i64 0]
  e7 : L 7 = true → s 326 = .agg #[.int .i64 5, .int .i64 5]
  e8 : L 8 = true → s 327 = .int .i64 0
  e9 : L 9 = true → s 328 = .bool true
  e10 : L 10 = true → s 329 = .bool true
  e11 : L 11 = true → s 330 = .bool true
  e12 : L 12 = true → FlB w (s 331) 20
  e13 : L 13 = true → s 332 = .agg #[.int .i64 0, .int .i64 0]
  e14 : L 14 = true → s 333 = .agg #[.int .i64 1, .int .i64 0]
  e15 : L 15 = true → s 334 = .tuple #[.agg #[.int .i64 0, .int .i64 0], .int .i64 20]
  e16 : L 16 = true → s 335 = .agg #[.int .i64 0, .int .i64 0]
  e17 : L 17 = true → s 336 = .int .i64 20
  e18 : L 18 = true → s 337 = .bool true
  e19 : L 19 = true → s 338 = .bool true
  e20 : L 20 = true → s 339 = .bool true
  e21 : L 21 = true → SyB w (s 340) (-1)
  e22 : L 22 = true → s 341 = .agg #[.int .i64 (-1), .int .i64 0]
  e23 : L 23 = true → s 342 = .tuple #[.int .i64 (-1), .int .i64 0]
  e24 : L 24 = true → s 343 = .int .i64 (-1)
  e25 : L 25 = true → s 344 = .int .i64 0
  e26 : L 26 = true → s 345 = .bool true
  e27 : L 27 = true → s 346 = .bool true
  e28 : L 28 = true → s 347 = .bool true
  e29 : L 29 = true → SyB w (s 348) 9007199254740992
  e30 : L 30 = true → s 349 = .agg #[.int .i64 (-4503599627370496), .int .i64 4503599627370496]
  e31 : L 31 = true → s 350 = .tuple #[.int .i64 9007199254740992, .int .i64 0]
  e32 : L 32 = true → s 351 = .int .i64 9007199254740992
  e33 : L 33 = true → s 352 = .int .i64 0
  e34 : L 34 = true → s 353 = .bool true
  e35 : L 35 = true → s 354 = .bool true
  e36 : L 36 = true → s 355 = .bool true
  e37 : L 37 = true → SyB w (s 356) (-1)
  e38 : L 38 = true → s 357 = .agg #[.int .i64 (-2), .int .i64 (-1)]
  e39 : L 39 = true → s 358 = .tuple #[.int .i64 (-1), .int .i64 0]
  e40 : L 40 = true → s 359 = .int .i64 (-1)
  e41 : L 41 = true → s 360 = .int .i64 0
  e42 : L 42 = true → s 361 = .bool true
  e43 : L 43 = true → s 362 = .bool true
  e44 : L 44 = true → s 363 = .bool true
  e45 : L 45 = true → SyB w (s 364) 1
  e46 : L 46 = true → s 365 = .agg #[.int .i64 4294967296, .int .i64 4294967296]
  e47 : L 47 = true → s 366 = .tuple #[.int .i64 1, .int .i64 0]
  e48 : L 48 = true → s 367 = .int .i64 1
  e49 : L 49 = true → s 368 = .int .i64 0
  e50 : L 50 = true → s 369 = .bool true
  e51 : L 51 = true → s 370 = .bool true
  e52 : L 52 = true → s 371 = .bool true
  e53 : L 53 = true → FlB w (s 372) 2
  e54 : L 54 = true → s 373 = .tuple #[.agg #[.int .i64 0, .int .i64 0], .int .i64 2]
  e55 : L 55 = true → s 374 = .agg #[.int .i64 0, .int .i64 0]
  e56 : L 56 = true → s 375 = .int .i64 2
  e57 : L 57 = true → s 376 = .bool true
  e58 : L 58 = true → s 377 = .bool true
  e59 : L 59 = true → s 378 = .bool true
  e60 : L 60 = true → FlB w (s 379) 6
  e61 : L 61 = true → s 380 = .tuple #[.agg #[.int .i64 0, .int .i64 0], .int .i64 6]
  e62 : L 62 = true → s 381 = .agg #[.int .i64 0, .int .i64 0]
  e63 : L 63 = true → s 382 = .int .i64 6
  e64 : L 64 = true → s 383 = .bool true
  e65 : L 65 = true → s 384 = .bool true
  e66 : L 66 = true → s 4 = .bool true

set_option maxRecDepth 100000 in
set_option maxHeartbeats 8000000 in
theorem law2_SpanKnown (w : World) (hP : Pows w) :
    Calls Tryd.prog 11 #[] w fun e w' => e = .returned (.bool true) ∧ Below w.heap.size w w' := by
  have HP := Lib.hid hP
  clear hP
  have hS := Kn.start w
  go_enter Tryd.func11, Tryd.ntmps11
  go_wp2_with fail
  refine (hS.call (law2_works _ (HP.out.below hS.bel))).mono ?_; rintro e w1 ⟨rfl, hS⟩
  go_wp2_with fail
  replace hS := hS.al (.cells #[.int .i64 (-4503599627370496), .int .i64 4503599627370496] 23 (0, 0))
  refine (hS.call (law2_whole 1 1 (by decide) (by decide) _)).mono ?_; rintro e w2 ⟨rfl, hS⟩
  go_upto_region 5 with (fail)
  replace hS := (hS.al (.cells #[.int .i64 1, .int .i64 0] 23 (0, 0))).alN (.cells #[.int .i64 4294967296, .int .i64 4294967296] 23 (0, 0)) (n := w2.heap.size + 1) (by simp)
  have HK := Lib.hid hS
  clear hS
  generalize w2.heap.size + 1 = O at *
  generalize hW : (w2.alloc (.cells #[.int .i64 1, .int .i64 0] 23 (0, 0))).alloc (.cells #[.int .i64 4294967296, .int .i64 4294967296] 23 (0, 0)) = W5 at *
  generalize w2.heap.size = B at *
  generalize w1.heap.size = M at *
  clear hW
  have HBO := Lib.hid (HK.out.blk (O, .cells #[.int .i64 4294967296, .int .i64 4294967296] 23 (0, 0)) (.head _))
  have HBB := Lib.hid (HK.out.blk (B, .cells #[.int .i64 1, .int .i64 0] 23 (0, 0)) (.tail _ (.head _)))
  have HBM := Lib.hid (HK.out.blk (M, .cells #[.int .i64 (-4503599627370496), .int .i64 4503599627370496] 23 (0, 0)) (.tail _ (.tail _ (.head _))))
  have HPW := Lib.hid (HP.out.below HK.out.bel)
  refine wp_region_go (Kn5 W5 M B O) (by kernel_rfl) (by kernel_rfl) ?_ ?_ ?_
  · exact ⟨(Below.refl _ _).drew, fun h => absurd h Bool.false_ne_true, fun h => absurd h Bool.false_ne_true, fun h => absurd h Bool.false_ne_true, fun h => absurd h Bool.false_ne_true, fun h => absurd h Bool.false_ne_true, fun h => absurd h Bool.false_ne_true, fun h => absurd h Bool.false_ne_true, fun h => absurd h Bool.false_ne_true, fun h => absurd h Bool.false_ne_true, fun h => absurd h Bool.false_ne_true, fun h => absurd h Bool.false_ne_true, fun h => absurd h Bool.false_ne_true, fun h => absurd h Bool.false_ne_true, fun h => absurd h Bool.false_ne_true, fun h => absurd h Bool.false_ne_true, fun h => absurd h Bool.false_ne_true, fun h => absurd h Bool.false_ne_true, fun h => absurd h Bool.false_ne_true, fun h => absurd h Bool.false_ne_true, fun h => absurd h Bool.false_ne_true, fun h => absurd h Bool.false_ne_true, fun h => absurd h Bool.false_ne_true, fun h => absurd h Bool.false_ne_true, fun h => absurd h Bool.false_ne_true, fun h => absurd h Bool.false_ne_true, fun h => absurd h Bool.false_ne_true, fun h => absurd h Bool.false_ne_true, fun h => absurd h Bool.false_ne_true, fun h => absurd h Bool.false_ne_true, fun h => absurd h Bool.false_ne_true, fun h => absurd h Bool.false_ne_true, fun h => absurd h Bool.false_ne_true, fun h => absurd h Bool.false_ne_true, fun h => absurd h Bool.false_ne_true, fun h => absurd h Bool.false_ne_true, fun h => absurd h Bool.false_ne_true, fun h => absurd h Bool.false_ne_true, fun h => absurd h Bool.false_ne_true, fun h => absurd h Bool.false_ne_true, fun h => absurd h Bool.false_ne_true, fun h => absurd h Bool.false_ne_true, fun h => absurd h Bool.false_ne_true, fun h => absurd h Bool.false_ne_true, fun h => absurd h Bool.false_ne_true, fun h => absurd h Bool.false_ne_true, fun h => absurd h Bool.false_ne_true, fun h => absurd h Bool.false_ne_true, fun h => absurd h Bool.false_ne_true, fun h => absurd h Bool.false_ne_true, fun h => absurd h Bool.false_ne_true, fun h => absurd h Bool.false_ne_true, fun h => absurd h Bool.false_ne_true, fun h => absurd h Bool.false_ne_true, fun h => absurd h Bool.false_ne_true, fun h => absurd h Bool.false_ne_true, fun h => absurd h Bool.false_ne_true⟩
  · refine AllS.consN 1 (some 15) rfl rfl ?_ (AllS.consN 2 (some 16) rfl rfl ?_ (AllS.consN 3 (some 17) rfl rfl ?_ (AllS.consN 4 (some 18) rfl rfl ?_ (AllS.consN 5 (some 19) rfl rfl ?_ (AllS.consN 6 (some 20) rfl rfl ?_ (AllS.consN 7 (some 21) rfl rfl ?_ (AllS.consN 8 (some 22) rfl rfl ?_ (AllS.consN 9 (some 23) rfl rfl ?_ (AllS.consN 10 (some 24) rfl rfl ?_ (AllS.consN 11 (some 25) rfl rfl ?_ (AllS.consN 12 (some 26) rfl rfl ?_ (AllS.consN 13 (some 27) rfl rfl ?_ (AllS.consN 14 (some 28) rfl rfl ?_ (AllS.consN 15 (some 29) rfl rfl ?_ (AllS.consN 16 (some 30) rfl rfl ?_ (AllS.consN 17 (some 31) rfl rfl ?_ (AllS.consN 18 (some 32) rfl rfl ?_ (AllS.consN 19 (some 33) rfl rfl ?_ (AllS.consN 20 (some 34) rfl rfl ?_ (AllS.consN 21 (some 35) rfl rfl ?_ (AllS.consN 22 (some 36) rfl rfl ?_ (AllS.consN 23 (some 37) rfl rfl ?_ (AllS.consN 24 (some 38) rfl rfl ?_ (AllS.consN 25 (some 39) rfl rfl ?_ (AllS.consN 26 (some 40) rfl rfl ?_ (AllS.consN 27 (some 41) rfl rfl ?_ (AllS.consN 28 (some 42) rfl rfl ?_ (AllS.consN 29 (some 43) rfl rfl ?_ (AllS.consN 30 (some 44) rfl rfl ?_ (AllS.consN 31 (some 45) rfl rfl ?_ (AllS.consN 32 (some 46) rfl rfl ?_ (AllS.consN 33 (some 47) rfl rfl ?_ (AllS.consN 34 (some 48) rfl rfl ?_ (AllS.consN 35 (some 49) rfl rfl ?_ (AllS.consN 36 (some 50) rfl rfl ?_ (AllS.consN 37 (some 51) rfl rfl ?_ (AllS.consN 38 (some 52) rfl rfl ?_ (AllS.consN 39 (some 53) rfl rfl ?_ (AllS.consN 40 (some 54) rfl rfl ?_ (AllS.consN 41 (some 55) rfl rfl ?_ (AllS.consN 42 (some 56) rfl rfl ?_ (AllS.consN 43 (some 57) rfl rfl ?_ (AllS.consN 44 (some 58) rfl rfl ?_ (AllS.consN 45 (some 59) rfl rfl ?_ (AllS.consN 46 (some 60) rfl rfl ?_ (AllS.consN 47 (some 61) rfl rfl ?_ (AllS.consN 48 (some 62) rfl rfl ?_ (AllS.consN 49 (some 63) rfl rfl ?_ (AllS.consN 50 (some 64) rfl rfl ?_ (AllS.consN 51 (some 65) rfl rfl ?_ (AllS.consN 52 (some 66) rfl rfl ?_ (AllS.consN 53 (some 67) rfl rfl ?_ (AllS.consN 54 (some 68) rfl rfl ?_ (AllS.consN 55 (some 69) rfl rfl ?_ (AllS.consN 56 (some 4) rfl rfl ?_ AllS.nil)))))))))))))))))))))))))))))))))))))))))))))))))))))))
    · intro L s w2 h hk hd hn
      have s1 : s 1 = _ := hk 1 (by kernel_rfl)
      have b := (h.bel.block _ (lt_of_block HBM.out)).trans HBM.out
      have c0 := cell_two0 b
      have c1 := cell_two1 b
      refine stepS rfl fun K hK => ?_
      go_simp
      exact hK _ _ { h with e0 := fun _ => rfl }
    · intro L s w2 h hk hd hn
      have s15 := h.e0 hd.1
      refine stepS rfl fun K hK => ?_
      go_simp
      refine (kn5_1 _).mono ?_
      rintro e w3 ⟨rfl, hb⟩
      exact ⟨_, rfl, hK _ _ { h with bel := below_step h.bel hb, e20 := fun d => (h.e20 d).on hb, e28 := fun d => (h.e28 d).on hb, e38 := fun d => (h.e38 d).on hb, e47 := fun d => (h.e47 d).on hb, e1 := fun _ => rfl }⟩
    · intro L s w2 h hk hd hn
      have s16 := h.e1 hd.1
      refine stepS rfl fun K hK => ?_
      go_simp
      exact hK _ _ { h with e2 := fun _ => rfl }
    · intro L s w2 h hk hd hn
      have s17 := h.e2 hd.1
      refine stepS rfl fun K hK => ?_
      go_simp
      exact hK _ _ { h with e3 := fun _ => rfl }
    · intro L s w2 h hk hd hn
      have gq := h.e3 hd.1
      have s2 : s 2 = _ := hk 2 (by kernel_rfl)
      have b := (h.bel.block _ (lt_of_block HBB.out)).trans HBB.out
      have c0 := cell_two0 b
      have c1 := cell_two1 b
      refine stepS (by simp [Region.wanted, yieldS, gq]) fun K hK => ?_
      go_simp
      exact hK _ _ { h with e4 := fun _ => rfl }
    · intro L s w2 h hk hd hn
      have gq := h.e3 hd.2.1
      have s19 := h.e4 hd.1
      refine stepS (by simp [Region.wanted, yieldS, gq]) fun K hK => ?_
      go_simp
      refine (kn5_5 _).mono ?_
      rintro e w3 ⟨rfl, hb⟩
      exact ⟨_, rfl, hK _ _ { h with bel := below_step h.bel hb, e20 := fun d => (h.e20 d).on hb, e28 := fun d => (h.e28 d).on hb, e38 := fun d => (h.e38 d).on hb, e47 := fun d => (h.e47 d).on hb, e5 := fun _ => rfl }⟩
    · intro L s w2 h hk hd hn
      have gq := h.e3 hd.2.1
      have s20 := h.e5 hd.1
      refine stepS (by simp [Region.wanted, yieldS, gq]) fun K hK => ?_
      go_simp
      exact hK _ _ { h with e6 := fun _ => rfl }
    · intro L s w2 h hk hd hn
      have s18 := h.e3 hd.1
      have s21 := h.e6 hd.2.1
      refine stepS rfl fun K hK => ?_
      go_simp
      exact hK _ _ { h with e7 := fun _ => rfl }
    · intro L s w2 h hk hd hn
      have s22 := h.e7 hd.1
      refine stepS rfl fun K hK => ?_
      go_simp
      exact hK _ _ { h with e8 := fun _ => rfl }
    · intro L s w2 h hk hd hn
      have gq := h.e8 hd.1
      refine stepS (by simp [Region.wanted, yieldS, gq]) fun K hK => ?_
      go_simp
      exact hK _ _ { h with e9 := fun _ => rfl }
    · intro L s w2 h hk hd hn
      have gq := h.e8 hd.2.1
      have s24 := h.e9 hd.1
      refine stepS (by simp [Region.wanted, yieldS, gq]) fun K hK => ?_
      go_simp
      refine (kn5_10 _).mono ?_
      rintro e w3 ⟨rfl, hb⟩
      exact ⟨_, rfl, hK _ _ { h with bel := below_step h.bel hb, e20 := fun d => (h.e20 d).on hb, e28 := fun d => (h.e28 d).on hb, e38 := fun d => (h.e38 d).on hb, e47 := fun d => (h.e47 d).on hb, e10 := fun _ => rfl }⟩
    · intro L s w2 h hk hd hn
      have gq := h.e8 hd.2.1
      have s25 := h.e10 hd.1
      refine stepS (by simp [Region.wanted, yieldS, gq]) fun K hK => ?_
      go_simp
      exact hK _ _ { h with e11 := fun _ => rfl }
    · intro L s w2 h hk hd hn
      have s23 := h.e8 hd.1
      have s26 := h.e11 hd.2.1
      refine stepS rfl fun K hK => ?_
      go_simp
      exact hK _ _ { h with e12 := fun _ => rfl }
    · intro L s w2 h hk hd hn
      have s27 := h.e12 hd.1
      refine stepS rfl fun K hK => ?_
      go_simp
      exact hK _ _ { h with e13 := fun _ => rfl }
    · intro L s w2 h hk hd hn
      have gq := h.e13 hd.1
      refine stepS (by simp [Region.wanted, yieldS, gq]) fun K hK => ?_
      go_simp
      exact hK _ _ { h with e14 := fun _ => rfl }
    · intro L s w2 h hk hd hn
      have gq := h.e13 hd.2.1
      have s29 := h.e14 hd.1
      refine stepS (by simp [Region.wanted, yieldS, gq]) fun K hK => ?_
      go_simp
      refine (kn5_15 _).mono ?_
      rintro e w3 ⟨rfl, hb⟩
      exact ⟨_, rfl, hK _ _ { h with bel := below_step h.bel hb, e20 := fun d => (h.e20 d).on hb, e28 := fun d => (h.e28 d).on hb, e38 := fun d => (h.e38 d).on hb, e47 := fun d => (h.e47 d).on hb, e15 := fun _ => rfl }⟩
    · intro L s w2 h hk hd hn
      have gq := h.e13 hd.2.1
      have s30 := h.e15 hd.1
      refine stepS (by simp [Region.wanted, yieldS, gq]) fun K hK => ?_
      go_simp
      exact hK _ _ { h with e16 := fun _ => rfl }
    · intro L s w2 h hk hd hn
      have s28 := h.e13 hd.1
      have s31 := h.e16 hd.2.1
      refine stepS rfl fun K hK => ?_
      go_simp
      exact hK _ _ { h with e17 := fun _ => rfl }
    · intro L s w2 h hk hd hn
      have s32 := h.e17 hd.1
      refine stepS rfl fun K hK => ?_
      go_simp
      exact hK _ _ { h with e18 := fun _ => rfl }
    · intro L s w2 h hk hd hn
      have gq := h.e18 hd.1
      have s1 : s 1 = _ := hk 1 (by kernel_rfl)
      have b := (h.bel.block _ (lt_of_block HBM.out)).trans HBM.out
      have c0 := cell_two0 b
      have c1 := cell_two1 b
      refine stepS (by simp [Region.wanted, yieldS, gq]) fun K hK => ?_
      go_simp
      exact hK _ _ { h with e19 := fun _ => rfl }
    · intro L s w2 h hk hd hn
      have gq := h.e18 hd.2.1
      have s34 := h.e19 hd.1
      refine stepS (by simp [Region.wanted, yieldS, gq]) fun K hK => ?_
      go_simp
      refine (is_at (-4503599627370496) 4503599627370496 _).mono ?_
      rintro e w3 ⟨v, rfl, hv, hb⟩
      exact ⟨_, rfl, hK _ _ { h with bel := below_step h.bel hb, e28 := fun d => (h.e28 d).on hb, e38 := fun d => (h.e38 d).on hb, e47 := fun d => (h.e47 d).on hb, e20 := fun _ => hv }⟩
    · intro L s w2 h hk hd hn
      have gq := h.e18 hd.1
      have s1 : s 1 = _ := hk 1 (by kernel_rfl)
      have b := (h.bel.block _ (lt_of_block HBM.out)).trans HBM.out
      have c0 := cell_two0 b
      have c1 := cell_two1 b
      refine stepS (by simp [Region.wanted, yieldS, gq]) fun K hK => ?_
      go_simp
      exact hK _ _ { h with e21 := fun _ => rfl }
    · intro L s w2 h hk hd hn
      have gq := h.e18 hd.2.2.1
      have s36 := h.e21 hd.1
      refine stepS (by simp [Region.wanted, yieldS, gq]) fun K hK => ?_
      go_simp
      refine (kn5_22 _).mono ?_
      rintro e w3 ⟨rfl, hb⟩
      exact ⟨_, rfl, hK _ _ { h with bel := below_step h.bel hb, e20 := fun d => (h.e20 d).on hb, e28 := fun d => (h.e28 d).on hb, e38 := fun d => (h.e38 d).on hb, e47 := fun d => (h.e47 d).on hb, e22 := fun _ => rfl }⟩
    · intro L s w2 h hk hd hn
      have gq := h.e18 hd.2.1
      have s37 := h.e22 hd.1
      refine stepS (by simp [Region.wanted, yieldS, gq]) fun K hK => ?_
      go_simp
      exact hK _ _ { h with e23 := fun _ => rfl }
    · intro L s w2 h hk hd hn
      have gq := h.e18 hd.2.1
      have s37 := h.e22 hd.1
      refine stepS (by simp [Region.wanted, yieldS, gq]) fun K hK => ?_
      go_simp
      exact hK _ _ { h with e24 := fun _ => rfl }
    · intro L s w2 h hk hd hn
      have gq := h.e18 hd.2.2.2.2.1
      have s38 := h.e23 hd.2.1
      have s39 := h.e24 hd.2.2.1
      obtain ⟨Q, sF, hQ⟩ := h.e20 hd.1
      refine stepS (by simp [Region.wanted, yieldS, gq]) fun K hK => ?_
      go_simp
      refine (is1_at hQ).mono ?_
      rintro e w3 ⟨rfl, hb⟩
      exact ⟨_, rfl, hK _ _ { h with bel := below_step h.bel hb, e20 := fun d => (h.e20 d).on hb, e28 := fun d => (h.e28 d).on hb, e38 := fun d => (h.e38 d).on hb, e47 := fun d => (h.e47 d).on hb, e25 := fun _ => rfl }⟩
    · intro L s w2 h hk hd hn
      have s33 := h.e18 hd.1
      have s40 := h.e25 hd.2.1
      refine stepS rfl fun K hK => ?_
      go_simp
      exact hK _ _ { h with e26 := fun _ => rfl }
    · intro L s w2 h hk hd hn
      have s41 := h.e26 hd.1
      refine stepS rfl fun K hK => ?_
      go_simp
      exact hK _ _ { h with e27 := fun _ => rfl }
    · intro L s w2 h hk hd hn
      have gq := h.e27 hd.1
      refine stepS (by simp [Region.wanted, yieldS, gq]) fun K hK => ?_
      go_simp
      refine (fl_at 6 _).mono ?_
      rintro e w3 ⟨v, rfl, hv, hb⟩
      exact ⟨_, rfl, hK _ _ { h with bel := below_step h.bel hb, e20 := fun d => (h.e20 d).on hb, e38 := fun d => (h.e38 d).on hb, e47 := fun d => (h.e47 d).on hb, e28 := fun _ => hv }⟩
    · intro L s w2 h hk hd hn
      have gq := h.e27 hd.1
      have s1 : s 1 = _ := hk 1 (by kernel_rfl)
      have b := (h.bel.block _ (lt_of_block HBM.out)).trans HBM.out
      have c0 := cell_two0 b
      have c1 := cell_two1 b
      refine stepS (by simp [Region.wanted, yieldS, gq]) fun K hK => ?_
      go_simp
      exact hK _ _ { h with e29 := fun _ => rfl }
    · intro L s w2 h hk hd hn
      have gq := h.e27 hd.1
      refine stepS (by simp [Region.wanted, yieldS, gq]) fun K hK => ?_
      go_simp
      exact hK _ _ { h with e30 := fun _ => rfl }
    · intro L s w2 h hk hd hn
      have gq := h.e27 hd.2.2.2.1
      have s44 := h.e29 hd.1
      have s45 := h.e30 hd.2.1
      refine stepS (by simp [Region.wanted, yieldS, gq]) fun K hK => ?_
      go_simp
      refine (kn5_31 _).mono ?_
      rintro e w3 ⟨rfl, hb⟩
      exact ⟨_, rfl, hK _ _ { h with bel := below_step h.bel hb, e20 := fun d => (h.e20 d).on hb, e28 := fun d => (h.e28 d).on hb, e38 := fun d => (h.e38 d).on hb, e47 := fun d => (h.e47 d).on hb, e31 := fun _ => rfl }⟩
    · intro L s w2 h hk hd hn
      have gq := h.e27 hd.2.1
      have s46 := h.e31 hd.1
      refine stepS (by simp [Region.wanted, yieldS, gq]) fun K hK => ?_
      go_simp
      exact hK _ _ { h with e32 := fun _ => rfl }
    · intro L s w2 h hk hd hn
      have gq := h.e27 hd.2.1
      have s46 := h.e31 hd.1
      refine stepS (by simp [Region.wanted, yieldS, gq]) fun K hK => ?_
      go_simp
      exact hK _ _ { h with e33 := fun _ => rfl }
    · intro L s w2 h hk hd hn
      have gq := h.e27 hd.2.2.2.2.1
      have s47 := h.e32 hd.2.1
      have s48 := h.e33 hd.2.2.1
      obtain ⟨Q, sF, hQ⟩ := h.e28 hd.1
      refine stepS (by simp [Region.wanted, yieldS, gq]) fun K hK => ?_
      go_simp
      refine (fl1_at hQ).mono ?_
      rintro e w3 ⟨rfl, hb⟩
      exact ⟨_, rfl, hK _ _ { h with bel := below_step h.bel hb, e20 := fun d => (h.e20 d).on hb, e28 := fun d => (h.e28 d).on hb, e38 := fun d => (h.e38 d).on hb, e47 := fun d => (h.e47 d).on hb, e34 := fun _ => rfl }⟩
    · intro L s w2 h hk hd hn
      have s42 := h.e27 hd.1
      have s49 := h.e34 hd.2.1
      refine stepS rfl fun K hK => ?_
      go_simp
      exact hK _ _ { h with e35 := fun _ => rfl }
    · intro L s w2 h hk hd hn
      have s50 := h.e35 hd.1
      refine stepS rfl fun K hK => ?_
      go_simp
      exact hK _ _ { h with e36 := fun _ => rfl }
    · intro L s w2 h hk hd hn
      have gq := h.e36 hd.1
      have s1 : s 1 = _ := hk 1 (by kernel_rfl)
      have b := (h.bel.block _ (lt_of_block HBM.out)).trans HBM.out
      have c0 := cell_two0 b
      have c1 := cell_two1 b
      refine stepS (by simp [Region.wanted, yieldS, gq]) fun K hK => ?_
      go_simp
      exact hK _ _ { h with e37 := fun _ => rfl }
    · intro L s w2 h hk hd hn
      have gq := h.e36 hd.2.1
      have s52 := h.e37 hd.1
      refine stepS (by simp [Region.wanted, yieldS, gq]) fun K hK => ?_
      go_simp
      refine (is_at (-4503599627370496) 4503599627370496 _).mono ?_
      rintro e w3 ⟨v, rfl, hv, hb⟩
      exact ⟨_, rfl, hK _ _ { h with bel := below_step h.bel hb, e20 := fun d => (h.e20 d).on hb, e28 := fun d => (h.e28 d).on hb, e47 := fun d => (h.e47 d).on hb, e38 := fun _ => hv }⟩
    · intro L s w2 h hk hd hn
      have gq := h.e36 hd.1
      have s1 : s 1 = _ := hk 1 (by kernel_rfl)
      have b := (h.bel.block _ (lt_of_block HBM.out)).trans HBM.out
      have c0 := cell_two0 b
      have c1 := cell_two1 b
      refine stepS (by simp [Region.wanted, yieldS, gq]) fun K hK => ?_
      go_simp
      exact hK _ _ { h with e39 := fun _ => rfl }
    · intro L s w2 h hk hd hn
      have gq := h.e36 hd.1
      refine stepS (by simp [Region.wanted, yieldS, gq]) fun K hK => ?_
      go_simp
      exact hK _ _ { h with e40 := fun _ => rfl }
    · intro L s w2 h hk hd hn
      have gq := h.e36 hd.2.2.2.1
      have s54 := h.e39 hd.1
      have s55 := h.e40 hd.2.1
      refine stepS (by simp [Region.wanted, yieldS, gq]) fun K hK => ?_
      go_simp
      refine (kn5_41 _).mono ?_
      rintro e w3 ⟨rfl, hb⟩
      exact ⟨_, rfl, hK _ _ { h with bel := below_step h.bel hb, e20 := fun d => (h.e20 d).on hb, e28 := fun d => (h.e28 d).on hb, e38 := fun d => (h.e38 d).on hb, e47 := fun d => (h.e47 d).on hb, e41 := fun _ => rfl }⟩
    · intro L s w2 h hk hd hn
      have gq := h.e36 hd.2.1
      have s56 := h.e41 hd.1
      refine stepS (by simp [Region.wanted, yieldS, gq]) fun K hK => ?_
      go_simp
      exact hK _ _ { h with e42 := fun _ => rfl }
    · intro L s w2 h hk hd hn
      have gq := h.e36 hd.2.1
      have s56 := h.e41 hd.1
      refine stepS (by simp [Region.wanted, yieldS, gq]) fun K hK => ?_
      go_simp
      exact hK _ _ { h with e43 := fun _ => rfl }
    · intro L s w2 h hk hd hn
      have gq := h.e36 hd.2.2.2.2.1
      have s57 := h.e42 hd.2.1
      have s58 := h.e43 hd.2.2.1
      obtain ⟨Q, sF, hQ⟩ := h.e38 hd.1
      refine stepS (by simp [Region.wanted, yieldS, gq]) fun K hK => ?_
      go_simp
      refine (is1_at hQ).mono ?_
      rintro e w3 ⟨rfl, hb⟩
      exact ⟨_, rfl, hK _ _ { h with bel := below_step h.bel hb, e20 := fun d => (h.e20 d).on hb, e28 := fun d => (h.e28 d).on hb, e38 := fun d => (h.e38 d).on hb, e47 := fun d => (h.e47 d).on hb, e44 := fun _ => rfl }⟩
    · intro L s w2 h hk hd hn
      have s51 := h.e36 hd.1
      have s59 := h.e44 hd.2.1
      refine stepS rfl fun K hK => ?_
      go_simp
      exact hK _ _ { h with e45 := fun _ => rfl }
    · intro L s w2 h hk hd hn
      have s60 := h.e45 hd.1
      refine stepS rfl fun K hK => ?_
      go_simp
      exact hK _ _ { h with e46 := fun _ => rfl }
    · intro L s w2 h hk hd hn
      have gq := h.e46 hd.1
      refine stepS (by simp [Region.wanted, yieldS, gq]) fun K hK => ?_
      go_simp
      refine (fl_at 20 _).mono ?_
      rintro e w3 ⟨v, rfl, hv, hb⟩
      exact ⟨_, rfl, hK _ _ { h with bel := below_step h.bel hb, e20 := fun d => (h.e20 d).on hb, e28 := fun d => (h.e28 d).on hb, e38 := fun d => (h.e38 d).on hb, e47 := fun _ => hv }⟩
    · intro L s w2 h hk hd hn
      have gq := h.e46 hd.1
      have s1 : s 1 = _ := hk 1 (by kernel_rfl)
      have b := (h.bel.block _ (lt_of_block HBM.out)).trans HBM.out
      have c0 := cell_two0 b
      have c1 := cell_two1 b
      refine stepS (by simp [Region.wanted, yieldS, gq]) fun K hK => ?_
      go_simp
      exact hK _ _ { h with e48 := fun _ => rfl }
    · intro L s w2 h hk hd hn
      have gq := h.e46 hd.1
      have s2 : s 2 = _ := hk 2 (by kernel_rfl)
      have b := (h.bel.block _ (lt_of_block HBB.out)).trans HBB.out
      have c0 := cell_two0 b
      have c1 := cell_two1 b
      refine stepS (by simp [Region.wanted, yieldS, gq]) fun K hK => ?_
      go_simp
      exact hK _ _ { h with e49 := fun _ => rfl }
    · intro L s w2 h hk hd hn
      have gq := h.e46 hd.2.2.2.1
      have s63 := h.e48 hd.1
      have s64 := h.e49 hd.2.1
      refine stepS (by simp [Region.wanted, yieldS, gq]) fun K hK => ?_
      go_simp
      refine (kn5_50 _).mono ?_
      rintro e w3 ⟨rfl, hb⟩
      exact ⟨_, rfl, hK _ _ { h with bel := below_step h.bel hb, e20 := fun d => (h.e20 d).on hb, e28 := fun d => (h.e28 d).on hb, e38 := fun d => (h.e38 d).on hb, e47 := fun d => (h.e47 d).on hb, e50 := fun _ => rfl }⟩
    · intro L s w2 h hk hd hn
      have gq := h.e46 hd.2.1
      have s65 := h.e50 hd.1
      refine stepS (by simp [Region.wanted, yieldS, gq]) fun K hK => ?_
      go_simp
      exact hK _ _ { h with e51 := fun _ => rfl }
    · intro L s w2 h hk hd hn
      have gq := h.e46 hd.2.1
      have s65 := h.e50 hd.1
      refine stepS (by simp [Region.wanted, yieldS, gq]) fun K hK => ?_
      go_simp
      exact hK _ _ { h with e52 := fun _ => rfl }
    · intro L s w2 h hk hd hn
      have gq := h.e46 hd.2.2.2.2.1
      have s66 := h.e51 hd.2.1
      have s67 := h.e52 hd.2.2.1
      obtain ⟨Q, sF, hQ⟩ := h.e47 hd.1
      refine stepS (by simp [Region.wanted, yieldS, gq]) fun K hK => ?_
      go_simp
      refine (fl1_at hQ).mono ?_
      rintro e w3 ⟨rfl, hb⟩
      exact ⟨_, rfl, hK _ _ { h with bel := below_step h.bel hb, e20 := fun d => (h.e20 d).on hb, e28 := fun d => (h.e28 d).on hb, e38 := fun d => (h.e38 d).on hb, e47 := fun d => (h.e47 d).on hb, e53 := fun _ => rfl }⟩
    · intro L s w2 h hk hd hn
      have s61 := h.e46 hd.1
      have s68 := h.e53 hd.2.1
      refine stepS rfl fun K hK => ?_
      go_simp
      exact hK _ _ { h with e54 := fun _ => rfl }
    · intro L s w2 h hk hd hn
      have s69 := h.e54 hd.1
      refine stepS rfl fun K hK => ?_
      go_simp
      exact hK _ _ { h with e55 := fun _ => rfl }
  intro L s wc h hk hl a ha
  have k1 : s 1 = .pointer (some ⟨M, 0, none⟩) := hk 1 (by kernel_rfl)
  have k2 : s 2 = .pointer (some ⟨B, 0, none⟩) := hk 2 (by kernel_rfl)
  have k3 : s 3 = .pointer (some ⟨O, 0, none⟩) := hk 3 (by kernel_rfl)
  have k4 : s 4 = .bool true := h.e55 (hl 55 (by decide))
  replace ha := ha.trans (show actS _ s [] = ⟨#[s 0, s 1, s 2, s 3, s 4, s 5, s 6, s 7, s 8, s 9, s 10, s 11, s 12, s 13, s 14, s 15, s 16, s 17, s 18, s 19, s 20, s 21, s 22, s 23, s 24, s 25, s 26, s 27, s 28, s 29, s 30, s 31, s 32, s 33, s 34, s 35, s 36, s 37, s 38, s 39, s 40, s 41, s 42, s 43, s 44, s 45, s 46, s 47, s 48, s 49, s 50, s 51, s 52, s 53, s 54, s 55, s 56, s 57, s 58, s 59, s 60, s 61, s 62, s 63, s 64, s 65, s 66, s 67, s 68, s 69, s 70, s 71, s 72, s 73, s 74, s 75, s 76, s 77, s 78, s 79, s 80, s 81, s 82, s 83, s 84, s 85, s 86, s 87, s 88, s 89, s 90, s 91, s 92, s 93, s 94, s 95, s 96, s 97, s 98, s 99, s 100, s 101, s 102, s 103, s 104, s 105, s 106, s 107, s 108, s 109, s 110, s 111, s 112, s 113, s 114, s 115, s 116, s 117, s 118, s 119, s 120, s 121, s 122, s 123, s 124, s 125, s 126, s 127, s 128, s 129, s 130, s 131, s 132, s 133, s 134, s 135, s 136, s 137, s 138, s 139, s 140, s 141, s 142, s 143, s 144, s 145, s 146, s 147, s 148, s 149, s 150, s 151, s 152, s 153, s 154, s 155, s 156, s 157, s 158, s 159, s 160, s 161, s 162, s 163, s 164, s 165, s 166, s 167, s 168, s 169, s 170, s 171, s 172, s 173, s 174, s 175, s 176, s 177, s 178, s 179, s 180, s 181, s 182, s 183, s 184, s 185, s 186, s 187, s 188, s 189, s 190, s 191, s 192, s 193, s 194, s 195, s 196, s 197, s 198, s 199, s 200, s 201, s 202, s 203, s 204, s 205, s 206, s 207, s 208, s 209, s 210, s 211, s 212, s 213, s 214, s 215, s 216, s 217, s 218, s 219, s 220, s 221, s 222, s 223, s 224, s 225, s 226, s 227, s 228, s 229, s 230, s 231, s 232, s 233, s 234, s 235, s 236, s 237, s 238, s 239, s 240, s 241, s 242, s 243, s 244, s 245, s 246, s 247, s 248, s 249, s 250, s 251, s 252, s 253, s 254, s 255, s 256, s 257, s 258, s 259, s 260, s 261, s 262, s 263, s 264, s 265, s 266, s 267, s 268, s 269, s 270, s 271, s 272, s 273, s 274, s 275, s 276, s 277, s 278, s 279, s 280, s 281, s 282, s 283, s 284, s 285, s 286, s 287, s 288, s 289, s 290, s 291, s 292, s 293, s 294, s 295, s 296, s 297, s 298, s 299, s 300, s 301, s 302, s 303, s 304, s 305, s 306, s 307, s 308, s 309, s 310, s 311, s 312, s 313, s 314, s 315, s 316, s 317, s 318, s 319, s 320, s 321, s 322, s 323, s 324, s 325, s 326, s 327, s 328, s 329, s 330, s 331, s 332, s 333, s 334, s 335, s 336, s 337, s 338, s 339, s 340, s 341, s 342, s 343, s 344, s 345, s 346, s 347, s 348, s 349, s 350, s 351, s 352, s 353, s 354, s 355, s 356, s 357, s 358, s 359, s 360, s 361, s 362, s 363, s 364, s 365, s 366, s 367, s 368, s 369, s 370, s 371, s 372, s 373, s 374, s 375, s 376, s 377, s 378, s 379, s 380, s 381, s 382, s 383, s 384, s 385, s 386, s 387, s 388, s 389, s 390, s 391, s 392, s 393, s 394, s 395, s 396, s 397, s 398, s 399, s 400, s 401, s 402, s 403, s 404, s 405, s 406, s 407, s 408, s 409, s 410, s 411, s 412, s 413, s 414, s 415, s 416, s 417, s 418, s 419, s 420, s 421, s 422, s 423, s 424, s 425], []⟩ by kernel_rfl)
  rw [k1, k2, k3, k4] at ha
  subst ha
  replace HK := Lib.hid (HK.out.on h.bel)
  clear h hk hl k1 k2 k3 k4 HBO HBB HBM HPW
  go_upto_region 6 with (fail)
  have HBO := Lib.hid (HK.out.blk (O, .cells #[.int .i64 4294967296, .int .i64 4294967296] 23 (0, 0)) (.head _))
  have HBB := Lib.hid (HK.out.blk (B, .cells #[.int .i64 1, .int .i64 0] 23 (0, 0)) (.tail _ (.head _)))
  have HBM := Lib.hid (HK.out.blk (M, .cells #[.int .i64 (-4503599627370496), .int .i64 4503599627370496] 23 (0, 0)) (.tail _ (.tail _ (.head _))))
  have HPW := Lib.hid (HP.out.below HK.out.bel)
  refine wp_region_go (Kn6 wc M B O) (by kernel_rfl) (by kernel_rfl) ?_ ?_ ?_
  · exact ⟨(Below.refl _ _).drew, fun _ => rfl, fun h => absurd h Bool.false_ne_true, fun h => absurd h Bool.false_ne_true, fun h => absurd h Bool.false_ne_true, fun h => absurd h Bool.false_ne_true, fun h => absurd h Bool.false_ne_true, fun h => absurd h Bool.false_ne_true, fun h => absurd h Bool.false_ne_true, fun h => absurd h Bool.false_ne_true, fun h => absurd h Bool.false_ne_true, fun h => absurd h Bool.false_ne_true, fun h => absurd h Bool.false_ne_true, fun h => absurd h Bool.false_ne_true, fun h => absurd h Bool.false_ne_true, fun h => absurd h Bool.false_ne_true, fun h => absurd h Bool.false_ne_true, fun h => absurd h Bool.false_ne_true, fun h => absurd h Bool.false_ne_true, fun h => absurd h Bool.false_ne_true, fun h => absurd h Bool.false_ne_true, fun h => absurd h Bool.false_ne_true, fun h => absurd h Bool.false_ne_true, fun h => absurd h Bool.false_ne_true, fun h => absurd h Bool.false_ne_true, fun h => absurd h Bool.false_ne_true, fun h => absurd h Bool.false_ne_true, fun h => absurd h Bool.false_ne_true, fun h => absurd h Bool.false_ne_true, fun h => absurd h Bool.false_ne_true, fun h => absurd h Bool.false_ne_true, fun h => absurd h Bool.false_ne_true, fun h => absurd h Bool.false_ne_true, fun h => absurd h Bool.false_ne_true, fun h => absurd h Bool.false_ne_true, fun h => absurd h Bool.false_ne_true, fun h => absurd h Bool.false_ne_true, fun h => absurd h Bool.false_ne_true, fun h => absurd h Bool.false_ne_true, fun h => absurd h Bool.false_ne_true, fun h => absurd h Bool.false_ne_true, fun h => absurd h Bool.false_ne_true, fun h => absurd h Bool.false_ne_true, fun h => absurd h Bool.false_ne_true, fun h => absurd h Bool.false_ne_true, fun h => absurd h Bool.false_ne_true, fun h => absurd h Bool.false_ne_true, fun h => absurd h Bool.false_ne_true, fun h => absurd h Bool.false_ne_true, fun h => absurd h Bool.false_ne_true, fun h => absurd h Bool.false_ne_true, fun h => absurd h Bool.false_ne_true⟩
  · refine AllS.consN 1 (some 70) rfl rfl ?_ (AllS.consN 2 (some 71) rfl rfl ?_ (AllS.consN 3 (some 72) rfl rfl ?_ (AllS.consN 4 (some 73) rfl rfl ?_ (AllS.consN 5 (some 74) rfl rfl ?_ (AllS.consN 6 (some 75) rfl rfl ?_ (AllS.consN 7 (some 76) rfl rfl ?_ (AllS.consN 8 (some 77) rfl rfl ?_ (AllS.consN 9 (some 78) rfl rfl ?_ (AllS.consN 10 (some 79) rfl rfl ?_ (AllS.consN 11 (some 80) rfl rfl ?_ (AllS.consN 12 (some 81) rfl rfl ?_ (AllS.consN 13 (some 82) rfl rfl ?_ (AllS.consN 14 (some 83) rfl rfl ?_ (AllS.consN 15 (some 84) rfl rfl ?_ (AllS.consN 16 (some 85) rfl rfl ?_ (AllS.consN 17 (some 86) rfl rfl ?_ (AllS.consN 18 (some 87) rfl rfl ?_ (AllS.consN 19 (some 88) rfl rfl ?_ (AllS.consN 20 (some 89) rfl rfl ?_ (AllS.consN 21 (some 90) rfl rfl ?_ (AllS.consN 22 (some 91) rfl rfl ?_ (AllS.consN 23 (some 92) rfl rfl ?_ (AllS.consN 24 (some 93) rfl rfl ?_ (AllS.consN 25 (some 94) rfl rfl ?_ (AllS.consN 26 (some 95) rfl rfl ?_ (AllS.consN 27 (some 96) rfl rfl ?_ (AllS.consN 28 (some 97) rfl rfl ?_ (AllS.consN 29 (some 98) rfl rfl ?_ (AllS.consN 30 (some 99) rfl rfl ?_ (AllS.consN 31 (some 100) rfl rfl ?_ (AllS.consN 32 (some 101) rfl rfl ?_ (AllS.consN 33 (some 102) rfl rfl ?_ (AllS.consN 34 (some 103) rfl rfl ?_ (AllS.consN 35 (some 104) rfl rfl ?_ (AllS.consN 36 (some 105) rfl rfl ?_ (AllS.consN 37 (some 106) rfl rfl ?_ (AllS.consN 38 (some 107) rfl rfl ?_ (AllS.consN 39 (some 108) rfl rfl ?_ (AllS.consN 40 (some 109) rfl rfl ?_ (AllS.consN 41 (some 110) rfl rfl ?_ (AllS.consN 42 (some 111) rfl rfl ?_ (AllS.consN 43 (some 112) rfl rfl ?_ (AllS.consN 44 (some 113) rfl rfl ?_ (AllS.consN 45 (some 114) rfl rfl ?_ (AllS.consN 46 (some 115) rfl rfl ?_ (AllS.consN 47 (some 116) rfl rfl ?_ (AllS.consN 48 (some 117) rfl rfl ?_ (AllS.consN 49 (some 4) rfl rfl ?_ AllS.nil))))))))))))))))))))))))))))))))))))))))))))))))
    · intro L s w2 h hk hd hn
      have s4 : s 4 = .bool true := h.o4 (by
            cases hx : L 48
            · rfl
            · exact absurd (h.dl hx) (by rw [hn]; exact Bool.false_ne_true))
      refine stepS rfl fun K hK => ?_
      go_simp
      exact hK _ _ { h with e0 := fun _ => rfl, dl := fun _ => rfl }
    · intro L s w2 h hk hd hn
      have s70 := h.e0 hd.1
      refine stepS rfl fun K hK => ?_
      go_simp
      exact hK _ _ { h with e1 := fun _ => rfl }
    · intro L s w2 h hk hd hn
      have gq := h.e1 hd.1
      refine stepS (by simp [Region.wanted, yieldS, gq]) fun K hK => ?_
      go_simp
      exact hK _ _ { h with e2 := fun _ => rfl }
    · intro L s w2 h hk hd hn
      have gq := h.e1 hd.2.1
      have s72 := h.e2 hd.1
      refine stepS (by simp [Region.wanted, yieldS, gq]) fun K hK => ?_
      go_simp
      refine (is_at 0 4503599627370496 _).mono ?_
      rintro e w3 ⟨v, rfl, hv, hb⟩
      exact ⟨_, rfl, hK _ _ { h with bel := below_step h.bel hb, e12 := fun d => (h.e12 d).on hb, e22 := fun d => (h.e22 d).on hb, e32 := fun d => (h.e32 d).on hb, e41 := fun d => (h.e41 d).on hb, e3 := fun _ => hv }⟩
    · intro L s w2 h hk hd hn
      have gq := h.e1 hd.1
      have s1 : s 1 = _ := hk 1 (by kernel_rfl)
      have b := (h.bel.block _ (lt_of_block HBM.out)).trans HBM.out
      have c0 := cell_two0 b
      have c1 := cell_two1 b
      refine stepS (by simp [Region.wanted, yieldS, gq]) fun K hK => ?_
      go_simp
      exact hK _ _ { h with e4 := fun _ => rfl }
    · intro L s w2 h hk hd hn
      have gq := h.e1 hd.2.2.1
      have s74 := h.e4 hd.1
      refine stepS (by simp [Region.wanted, yieldS, gq]) fun K hK => ?_
      go_simp
      refine (kn6_5 _).mono ?_
      rintro e w3 ⟨rfl, hb⟩
      exact ⟨_, rfl, hK _ _ { h with bel := below_step h.bel hb, e3 := fun d => (h.e3 d).on hb, e12 := fun d => (h.e12 d).on hb, e22 := fun d => (h.e22 d).on hb, e32 := fun d => (h.e32 d).on hb, e41 := fun d => (h.e41 d).on hb, e5 := fun _ => rfl }⟩
    · intro L s w2 h hk hd hn
      have gq := h.e1 hd.2.1
      have s75 := h.e5 hd.1
      refine stepS (by simp [Region.wanted, yieldS, gq]) fun K hK => ?_
      go_simp
      exact hK _ _ { h with e6 := fun _ => rfl }
    · intro L s w2 h hk hd hn
      have gq := h.e1 hd.2.1
      have s75 := h.e5 hd.1
      refine stepS (by simp [Region.wanted, yieldS, gq]) fun K hK => ?_
      go_simp
      exact hK _ _ { h with e7 := fun _ => rfl }
    · intro L s w2 h hk hd hn
      have gq := h.e1 hd.2.2.2.2.1
      have s76 := h.e6 hd.2.1
      have s77 := h.e7 hd.2.2.1
      obtain ⟨Q, sF, hQ⟩ := h.e3 hd.1
      refine stepS (by simp [Region.wanted, yieldS, gq]) fun K hK => ?_
      go_simp
      refine (is1_at hQ).mono ?_
      rintro e w3 ⟨rfl, hb⟩
      exact ⟨_, rfl, hK _ _ { h with bel := below_step h.bel hb, e3 := fun d => (h.e3 d).on hb, e12 := fun d => (h.e12 d).on hb, e22 := fun d => (h.e22 d).on hb, e32 := fun d => (h.e32 d).on hb, e41 := fun d => (h.e41 d).on hb, e8 := fun _ => rfl }⟩
    · intro L s w2 h hk hd hn
      have s71 := h.e1 hd.1
      have s78 := h.e8 hd.2.1
      refine stepS rfl fun K hK => ?_
      go_simp
      exact hK _ _ { h with e9 := fun _ => rfl }
    · intro L s w2 h hk hd hn
      have s79 := h.e9 hd.1
      refine stepS rfl fun K hK => ?_
      go_simp
      exact hK _ _ { h with e10 := fun _ => rfl }
    · intro L s w2 h hk hd hn
      have gq := h.e10 hd.1
      refine stepS (by simp [Region.wanted, yieldS, gq]) fun K hK => ?_
      go_simp
      exact hK _ _ { h with e11 := fun _ => rfl }
    · intro L s w2 h hk hd hn
      have gq := h.e10 hd.2.1
      have s81 := h.e11 hd.1
      refine stepS (by simp [Region.wanted, yieldS, gq]) fun K hK => ?_
      go_simp
      refine (is_at (-1) 1 _).mono ?_
      rintro e w3 ⟨v, rfl, hv, hb⟩
      exact ⟨_, rfl, hK _ _ { h with bel := below_step h.bel hb, e3 := fun d => (h.e3 d).on hb, e22 := fun d => (h.e22 d).on hb, e32 := fun d => (h.e32 d).on hb, e41 := fun d => (h.e41 d).on hb, e12 := fun _ => hv }⟩
    · intro L s w2 h hk hd hn
      have gq := h.e10 hd.1
      refine stepS (by simp [Region.wanted, yieldS, gq]) fun K hK => ?_
      go_simp
      exact hK _ _ { h with e13 := fun _ => rfl }
    · intro L s w2 h hk hd hn
      have gq := h.e10 hd.1
      have s3 : s 3 = _ := hk 3 (by kernel_rfl)
      have b := (h.bel.block _ (lt_of_block HBO.out)).trans HBO.out
      have c0 := cell_two0 b
      have c1 := cell_two1 b
      refine stepS (by simp [Region.wanted, yieldS, gq]) fun K hK => ?_
      go_simp
      exact hK _ _ { h with e14 := fun _ => rfl }
    · intro L s w2 h hk hd hn
      have gq := h.e10 hd.2.2.2.1
      have s83 := h.e13 hd.1
      have s84 := h.e14 hd.2.1
      refine stepS (by simp [Region.wanted, yieldS, gq]) fun K hK => ?_
      go_simp
      refine (kn6_15 _).mono ?_
      rintro e w3 ⟨rfl, hb⟩
      exact ⟨_, rfl, hK _ _ { h with bel := below_step h.bel hb, e3 := fun d => (h.e3 d).on hb, e12 := fun d => (h.e12 d).on hb, e22 := fun d => (h.e22 d).on hb, e32 := fun d => (h.e32 d).on hb, e41 := fun d => (h.e41 d).on hb, e15 := fun _ => rfl }⟩
    · intro L s w2 h hk hd hn
      have gq := h.e10 hd.2.1
      have s85 := h.e15 hd.1
      refine stepS (by simp [Region.wanted, yieldS, gq]) fun K hK => ?_
      go_simp
      exact hK _ _ { h with e16 := fun _ => rfl }
    · intro L s w2 h hk hd hn
      have gq := h.e10 hd.2.1
      have s85 := h.e15 hd.1
      refine stepS (by simp [Region.wanted, yieldS, gq]) fun K hK => ?_
      go_simp
      exact hK _ _ { h with e17 := fun _ => rfl }
    · intro L s w2 h hk hd hn
      have gq := h.e10 hd.2.2.2.2.1
      have s86 := h.e16 hd.2.1
      have s87 := h.e17 hd.2.2.1
      obtain ⟨Q, sF, hQ⟩ := h.e12 hd.1
      refine stepS (by simp [Region.wanted, yieldS, gq]) fun K hK => ?_
      go_simp
      refine (is1_at hQ).mono ?_
      rintro e w3 ⟨rfl, hb⟩
      exact ⟨_, rfl, hK _ _ { h with bel := below_step h.bel hb, e3 := fun d => (h.e3 d).on hb, e12 := fun d => (h.e12 d).on hb, e22 := fun d => (h.e22 d).on hb, e32 := fun d => (h.e32 d).on hb, e41 := fun d => (h.e41 d).on hb, e18 := fun _ => rfl }⟩
    · intro L s w2 h hk hd hn
      have s80 := h.e10 hd.1
      have s88 := h.e18 hd.2.1
      refine stepS rfl fun K hK => ?_
      go_simp
      exact hK _ _ { h with e19 := fun _ => rfl }
    · intro L s w2 h hk hd hn
      have s89 := h.e19 hd.1
      refine stepS rfl fun K hK => ?_
      go_simp
      exact hK _ _ { h with e20 := fun _ => rfl }
    · intro L s w2 h hk hd hn
      have gq := h.e20 hd.1
      refine stepS (by simp [Region.wanted, yieldS, gq]) fun K hK => ?_
      go_simp
      exact hK _ _ { h with e21 := fun _ => rfl }
    · intro L s w2 h hk hd hn
      have gq := h.e20 hd.2.1
      have s91 := h.e21 hd.1
      refine stepS (by simp [Region.wanted, yieldS, gq]) fun K hK => ?_
      go_simp
      refine (is_at 0 1 _).mono ?_
      rintro e w3 ⟨v, rfl, hv, hb⟩
      exact ⟨_, rfl, hK _ _ { h with bel := below_step h.bel hb, e3 := fun d => (h.e3 d).on hb, e12 := fun d => (h.e12 d).on hb, e32 := fun d => (h.e32 d).on hb, e41 := fun d => (h.e41 d).on hb, e22 := fun _ => hv }⟩
    · intro L s w2 h hk hd hn
      have gq := h.e20 hd.1
      refine stepS (by simp [Region.wanted, yieldS, gq]) fun K hK => ?_
      go_simp
      exact hK _ _ { h with e23 := fun _ => rfl }
    · intro L s w2 h hk hd hn
      have gq := h.e20 hd.1
      refine stepS (by simp [Region.wanted, yieldS, gq]) fun K hK => ?_
      go_simp
      exact hK _ _ { h with e24 := fun _ => rfl }
    · intro L s w2 h hk hd hn
      have gq := h.e20 hd.2.2.2.1
      have s93 := h.e23 hd.1
      have s94 := h.e24 hd.2.1
      refine stepS (by simp [Region.wanted, yieldS, gq]) fun K hK => ?_
      go_simp
      refine (kn6_25 _).mono ?_
      rintro e w3 ⟨rfl, hb⟩
      exact ⟨_, rfl, hK _ _ { h with bel := below_step h.bel hb, e3 := fun d => (h.e3 d).on hb, e12 := fun d => (h.e12 d).on hb, e22 := fun d => (h.e22 d).on hb, e32 := fun d => (h.e32 d).on hb, e41 := fun d => (h.e41 d).on hb, e25 := fun _ => rfl }⟩
    · intro L s w2 h hk hd hn
      have gq := h.e20 hd.2.1
      have s95 := h.e25 hd.1
      refine stepS (by simp [Region.wanted, yieldS, gq]) fun K hK => ?_
      go_simp
      exact hK _ _ { h with e26 := fun _ => rfl }
    · intro L s w2 h hk hd hn
      have gq := h.e20 hd.2.1
      have s95 := h.e25 hd.1
      refine stepS (by simp [Region.wanted, yieldS, gq]) fun K hK => ?_
      go_simp
      exact hK _ _ { h with e27 := fun _ => rfl }
    · intro L s w2 h hk hd hn
      have gq := h.e20 hd.2.2.2.2.1
      have s96 := h.e26 hd.2.1
      have s97 := h.e27 hd.2.2.1
      obtain ⟨Q, sF, hQ⟩ := h.e22 hd.1
      refine stepS (by simp [Region.wanted, yieldS, gq]) fun K hK => ?_
      go_simp
      refine (is1_at hQ).mono ?_
      rintro e w3 ⟨rfl, hb⟩
      exact ⟨_, rfl, hK _ _ { h with bel := below_step h.bel hb, e3 := fun d => (h.e3 d).on hb, e12 := fun d => (h.e12 d).on hb, e22 := fun d => (h.e22 d).on hb, e32 := fun d => (h.e32 d).on hb, e41 := fun d => (h.e41 d).on hb, e28 := fun _ => rfl }⟩
    · intro L s w2 h hk hd hn
      have s90 := h.e20 hd.1
      have s98 := h.e28 hd.2.1
      refine stepS rfl fun K hK => ?_
      go_simp
      exact hK _ _ { h with e29 := fun _ => rfl }
    · intro L s w2 h hk hd hn
      have s99 := h.e29 hd.1
      refine stepS rfl fun K hK => ?_
      go_simp
      exact hK _ _ { h with e30 := fun _ => rfl }
    · intro L s w2 h hk hd hn
      have gq := h.e30 hd.1
      refine stepS (by simp [Region.wanted, yieldS, gq]) fun K hK => ?_
      go_simp
      exact hK _ _ { h with e31 := fun _ => rfl }
    · intro L s w2 h hk hd hn
      have gq := h.e30 hd.2.1
      have s101 := h.e31 hd.1
      refine stepS (by simp [Region.wanted, yieldS, gq]) fun K hK => ?_
      go_simp
      refine (is_at 0 1 _).mono ?_
      rintro e w3 ⟨v, rfl, hv, hb⟩
      exact ⟨_, rfl, hK _ _ { h with bel := below_step h.bel hb, e3 := fun d => (h.e3 d).on hb, e12 := fun d => (h.e12 d).on hb, e22 := fun d => (h.e22 d).on hb, e41 := fun d => (h.e41 d).on hb, e32 := fun _ => hv }⟩
    · intro L s w2 h hk hd hn
      have gq := h.e30 hd.1
      refine stepS (by simp [Region.wanted, yieldS, gq]) fun K hK => ?_
      go_simp
      exact hK _ _ { h with e33 := fun _ => rfl }
    · intro L s w2 h hk hd hn
      have gq := h.e30 hd.2.2.1
      have s103 := h.e33 hd.1
      refine stepS (by simp [Region.wanted, yieldS, gq]) fun K hK => ?_
      go_simp
      refine (kn6_34 _).mono ?_
      rintro e w3 ⟨rfl, hb⟩
      exact ⟨_, rfl, hK _ _ { h with bel := below_step h.bel hb, e3 := fun d => (h.e3 d).on hb, e12 := fun d => (h.e12 d).on hb, e22 := fun d => (h.e22 d).on hb, e32 := fun d => (h.e32 d).on hb, e41 := fun d => (h.e41 d).on hb, e34 := fun _ => rfl }⟩
    · intro L s w2 h hk hd hn
      have gq := h.e30 hd.2.1
      have s104 := h.e34 hd.1
      refine stepS (by simp [Region.wanted, yieldS, gq]) fun K hK => ?_
      go_simp
      exact hK _ _ { h with e35 := fun _ => rfl }
    · intro L s w2 h hk hd hn
      have gq := h.e30 hd.2.1
      have s104 := h.e34 hd.1
      refine stepS (by simp [Region.wanted, yieldS, gq]) fun K hK => ?_
      go_simp
      exact hK _ _ { h with e36 := fun _ => rfl }
    · intro L s w2 h hk hd hn
      have gq := h.e30 hd.2.2.2.2.1
      have s105 := h.e35 hd.2.1
      have s106 := h.e36 hd.2.2.1
      obtain ⟨Q, sF, hQ⟩ := h.e32 hd.1
      refine stepS (by simp [Region.wanted, yieldS, gq]) fun K hK => ?_
      go_simp
      refine (is1_at hQ).mono ?_
      rintro e w3 ⟨rfl, hb⟩
      exact ⟨_, rfl, hK _ _ { h with bel := below_step h.bel hb, e3 := fun d => (h.e3 d).on hb, e12 := fun d => (h.e12 d).on hb, e22 := fun d => (h.e22 d).on hb, e32 := fun d => (h.e32 d).on hb, e41 := fun d => (h.e41 d).on hb, e37 := fun _ => rfl }⟩
    · intro L s w2 h hk hd hn
      have s100 := h.e30 hd.1
      have s107 := h.e37 hd.2.1
      refine stepS rfl fun K hK => ?_
      go_simp
      exact hK _ _ { h with e38 := fun _ => rfl }
    · intro L s w2 h hk hd hn
      have s108 := h.e38 hd.1
      refine stepS rfl fun K hK => ?_
      go_simp
      exact hK _ _ { h with e39 := fun _ => rfl }
    · intro L s w2 h hk hd hn
      have gq := h.e39 hd.1
      refine stepS (by simp [Region.wanted, yieldS, gq]) fun K hK => ?_
      go_simp
      exact hK _ _ { h with e40 := fun _ => rfl }
    · intro L s w2 h hk hd hn
      have gq := h.e39 hd.2.1
      have s110 := h.e40 hd.1
      refine stepS (by simp [Region.wanted, yieldS, gq]) fun K hK => ?_
      go_simp
      refine (is_at (-1) 1 _).mono ?_
      rintro e w3 ⟨v, rfl, hv, hb⟩
      exact ⟨_, rfl, hK _ _ { h with bel := below_step h.bel hb, e3 := fun d => (h.e3 d).on hb, e12 := fun d => (h.e12 d).on hb, e22 := fun d => (h.e22 d).on hb, e32 := fun d => (h.e32 d).on hb, e41 := fun _ => hv }⟩
    · intro L s w2 h hk hd hn
      have gq := h.e39 hd.1
      refine stepS (by simp [Region.wanted, yieldS, gq]) fun K hK => ?_
      go_simp
      exact hK _ _ { h with e42 := fun _ => rfl }
    · intro L s w2 h hk hd hn
      have gq := h.e39 hd.2.2.1
      have s112 := h.e42 hd.1
      refine stepS (by simp [Region.wanted, yieldS, gq]) fun K hK => ?_
      go_simp
      refine (kn6_43 _).mono ?_
      rintro e w3 ⟨rfl, hb⟩
      exact ⟨_, rfl, hK _ _ { h with bel := below_step h.bel hb, e3 := fun d => (h.e3 d).on hb, e12 := fun d => (h.e12 d).on hb, e22 := fun d => (h.e22 d).on hb, e32 := fun d => (h.e32 d).on hb, e41 := fun d => (h.e41 d).on hb, e43 := fun _ => rfl }⟩
    · intro L s w2 h hk hd hn
      have gq := h.e39 hd.2.1
      have s113 := h.e43 hd.1
      refine stepS (by simp [Region.wanted, yieldS, gq]) fun K hK => ?_
      go_simp
      exact hK _ _ { h with e44 := fun _ => rfl }
    · intro L s w2 h hk hd hn
      have gq := h.e39 hd.2.1
      have s113 := h.e43 hd.1
      refine stepS (by simp [Region.wanted, yieldS, gq]) fun K hK => ?_
      go_simp
      exact hK _ _ { h with e45 := fun _ => rfl }
    · intro L s w2 h hk hd hn
      have gq := h.e39 hd.2.2.2.2.1
      have s114 := h.e44 hd.2.1
      have s115 := h.e45 hd.2.2.1
      obtain ⟨Q, sF, hQ⟩ := h.e41 hd.1
      refine stepS (by simp [Region.wanted, yieldS, gq]) fun K hK => ?_
      go_simp
      refine (is1_at hQ).mono ?_
      rintro e w3 ⟨rfl, hb⟩
      exact ⟨_, rfl, hK _ _ { h with bel := below_step h.bel hb, e3 := fun d => (h.e3 d).on hb, e12 := fun d => (h.e12 d).on hb, e22 := fun d => (h.e22 d).on hb, e32 := fun d => (h.e32 d).on hb, e41 := fun d => (h.e41 d).on hb, e46 := fun _ => rfl }⟩
    · intro L s w2 h hk hd hn
      have s109 := h.e39 hd.1
      have s116 := h.e46 hd.2.1
      refine stepS rfl fun K hK => ?_
      go_simp
      exact hK _ _ { h with e47 := fun _ => rfl }
    · intro L s w2 h hk hd hn
      have s117 := h.e47 hd.1
      refine stepS rfl fun K hK => ?_
      go_simp
      exact hK _ _ { h with e48 := fun _ => rfl, o4 := fun d => Bool.noConfusion (show true = false from d), dl := fun _ => hd.2.2.1 }
  intro L s wc h hk hl a ha
  have k1 : s 1 = .pointer (some ⟨M, 0, none⟩) := hk 1 (by kernel_rfl)
  have k2 : s 2 = .pointer (some ⟨B, 0, none⟩) := hk 2 (by kernel_rfl)
  have k3 : s 3 = .pointer (some ⟨O, 0, none⟩) := hk 3 (by kernel_rfl)
  have k4 : s 4 = .bool true := h.e48 (hl 48 (by decide))
  replace ha := ha.trans (show actS _ s [] = ⟨#[s 0, s 1, s 2, s 3, s 4, s 5, s 6, s 7, s 8, s 9, s 10, s 11, s 12, s 13, s 14, s 15, s 16, s 17, s 18, s 19, s 20, s 21, s 22, s 23, s 24, s 25, s 26, s 27, s 28, s 29, s 30, s 31, s 32, s 33, s 34, s 35, s 36, s 37, s 38, s 39, s 40, s 41, s 42, s 43, s 44, s 45, s 46, s 47, s 48, s 49, s 50, s 51, s 52, s 53, s 54, s 55, s 56, s 57, s 58, s 59, s 60, s 61, s 62, s 63, s 64, s 65, s 66, s 67, s 68, s 69, s 70, s 71, s 72, s 73, s 74, s 75, s 76, s 77, s 78, s 79, s 80, s 81, s 82, s 83, s 84, s 85, s 86, s 87, s 88, s 89, s 90, s 91, s 92, s 93, s 94, s 95, s 96, s 97, s 98, s 99, s 100, s 101, s 102, s 103, s 104, s 105, s 106, s 107, s 108, s 109, s 110, s 111, s 112, s 113, s 114, s 115, s 116, s 117, s 118, s 119, s 120, s 121, s 122, s 123, s 124, s 125, s 126, s 127, s 128, s 129, s 130, s 131, s 132, s 133, s 134, s 135, s 136, s 137, s 138, s 139, s 140, s 141, s 142, s 143, s 144, s 145, s 146, s 147, s 148, s 149, s 150, s 151, s 152, s 153, s 154, s 155, s 156, s 157, s 158, s 159, s 160, s 161, s 162, s 163, s 164, s 165, s 166, s 167, s 168, s 169, s 170, s 171, s 172, s 173, s 174, s 175, s 176, s 177, s 178, s 179, s 180, s 181, s 182, s 183, s 184, s 185, s 186, s 187, s 188, s 189, s 190, s 191, s 192, s 193, s 194, s 195, s 196, s 197, s 198, s 199, s 200, s 201, s 202, s 203, s 204, s 205, s 206, s 207, s 208, s 209, s 210, s 211, s 212, s 213, s 214, s 215, s 216, s 217, s 218, s 219, s 220, s 221, s 222, s 223, s 224, s 225, s 226, s 227, s 228, s 229, s 230, s 231, s 232, s 233, s 234, s 235, s 236, s 237, s 238, s 239, s 240, s 241, s 242, s 243, s 244, s 245, s 246, s 247, s 248, s 249, s 250, s 251, s 252, s 253, s 254, s 255, s 256, s 257, s 258, s 259, s 260, s 261, s 262, s 263, s 264, s 265, s 266, s 267, s 268, s 269, s 270, s 271, s 272, s 273, s 274, s 275, s 276, s 277, s 278, s 279, s 280, s 281, s 282, s 283, s 284, s 285, s 286, s 287, s 288, s 289, s 290, s 291, s 292, s 293, s 294, s 295, s 296, s 297, s 298, s 299, s 300, s 301, s 302, s 303, s 304, s 305, s 306, s 307, s 308, s 309, s 310, s 311, s 312, s 313, s 314, s 315, s 316, s 317, s 318, s 319, s 320, s 321, s 322, s 323, s 324, s 325, s 326, s 327, s 328, s 329, s 330, s 331, s 332, s 333, s 334, s 335, s 336, s 337, s 338, s 339, s 340, s 341, s 342, s 343, s 344, s 345, s 346, s 347, s 348, s 349, s 350, s 351, s 352, s 353, s 354, s 355, s 356, s 357, s 358, s 359, s 360, s 361, s 362, s 363, s 364, s 365, s 366, s 367, s 368, s 369, s 370, s 371, s 372, s 373, s 374, s 375, s 376, s 377, s 378, s 379, s 380, s 381, s 382, s 383, s 384, s 385, s 386, s 387, s 388, s 389, s 390, s 391, s 392, s 393, s 394, s 395, s 396, s 397, s 398, s 399, s 400, s 401, s 402, s 403, s 404, s 405, s 406, s 407, s 408, s 409, s 410, s 411, s 412, s 413, s 414, s 415, s 416, s 417, s 418, s 419, s 420, s 421, s 422, s 423, s 424, s 425], []⟩ by kernel_rfl)
  rw [k1, k2, k3, k4] at ha
  subst ha
  replace HK := Lib.hid (HK.out.on h.bel)
  clear h hk hl k1 k2 k3 k4 HBO HBB HBM HPW
  go_upto_region 7 with (fail)
  have HBO := Lib.hid (HK.out.blk (O, .cells #[.int .i64 4294967296, .int .i64 4294967296] 23 (0, 0)) (.head _))
  have HBB := Lib.hid (HK.out.blk (B, .cells #[.int .i64 1, .int .i64 0] 23 (0, 0)) (.tail _ (.head _)))
  have HBM := Lib.hid (HK.out.blk (M, .cells #[.int .i64 (-4503599627370496), .int .i64 4503599627370496] 23 (0, 0)) (.tail _ (.tail _ (.head _))))
  have HPW := Lib.hid (HP.out.below HK.out.bel)
  refine wp_region_go (Kn7 wc M B O) (by kernel_rfl) (by kernel_rfl) ?_ ?_ ?_
  · exact ⟨(Below.refl _ _).drew, fun _ => rfl, fun h => absurd h Bool.false_ne_true, fun h => absurd h Bool.false_ne_true, fun h => absurd h Bool.false_ne_true, fun h => absurd h Bool.false_ne_true, fun h => absurd h Bool.false_ne_true, fun h => absurd h Bool.false_ne_true, fun h => absurd h Bool.false_ne_true, fun h => absurd h Bool.false_ne_true, fun h => absurd h Bool.false_ne_true, fun h => absurd h Bool.false_ne_true, fun h => absurd h Bool.false_ne_true, fun h => absurd h Bool.false_ne_true, fun h => absurd h Bool.false_ne_true, fun h => absurd h Bool.false_ne_true, fun h => absurd h Bool.false_ne_true, fun h => absurd h Bool.false_ne_true, fun h => absurd h Bool.false_ne_true, fun h => absurd h Bool.false_ne_true, fun h => absurd h Bool.false_ne_true, fun h => absurd h Bool.false_ne_true, fun h => absurd h Bool.false_ne_true, fun h => absurd h Bool.false_ne_true, fun h => absurd h Bool.false_ne_true, fun h => absurd h Bool.false_ne_true, fun h => absurd h Bool.false_ne_true, fun h => absurd h Bool.false_ne_true, fun h => absurd h Bool.false_ne_true, fun h => absurd h Bool.false_ne_true, fun h => absurd h Bool.false_ne_true, fun h => absurd h Bool.false_ne_true, fun h => absurd h Bool.false_ne_true, fun h => absurd h Bool.false_ne_true, fun h => absurd h Bool.false_ne_true, fun h => absurd h Bool.false_ne_true, fun h => absurd h Bool.false_ne_true, fun h => absurd h Bool.false_ne_true, fun h => absurd h Bool.false_ne_true, fun h => absurd h Bool.false_ne_true, fun h => absurd h Bool.false_ne_true, fun h => absurd h Bool.false_ne_true, fun h => absurd h Bool.false_ne_true, fun h => absurd h Bool.false_ne_true, fun h => absurd h Bool.false_ne_true, fun h => absurd h Bool.false_ne_true, fun h => absurd h Bool.false_ne_true, fun h => absurd h Bool.false_ne_true, fun h => absurd h Bool.false_ne_true, fun h => absurd h Bool.false_ne_true, fun h => absurd h Bool.false_ne_true, fun h => absurd h Bool.false_ne_true, fun h => absurd h Bool.false_ne_true, fun h => absurd h Bool.false_ne_true, fun h => absurd h Bool.false_ne_true, fun h => absurd h Bool.false_ne_true, fun h => absurd h Bool.false_ne_true, fun h => absurd h Bool.false_ne_true, fun h => absurd h Bool.false_ne_true, fun h => absurd h Bool.false_ne_true, fun h => absurd h Bool.false_ne_true, fun h => absurd h Bool.false_ne_true, fun h => absurd h Bool.false_ne_true, fun h => absurd h Bool.false_ne_true, fun h => absurd h Bool.false_ne_true, fun h => absurd h Bool.false_ne_true, fun h => absurd h Bool.false_ne_true, fun h => absurd h Bool.false_ne_true, fun h => absurd h Bool.false_ne_true, fun h => absurd h Bool.false_ne_true, fun h => absurd h Bool.false_ne_true, fun h => absurd h Bool.false_ne_true, fun h => absurd h Bool.false_ne_true, fun h => absurd h Bool.false_ne_true, fun h => absurd h Bool.false_ne_true, fun h => absurd h Bool.false_ne_true, fun h => absurd h Bool.false_ne_true, fun h => absurd h Bool.false_ne_true, fun h => absurd h Bool.false_ne_true, fun h => absurd h Bool.false_ne_true, fun h => absurd h Bool.false_ne_true, fun h => absurd h Bool.false_ne_true⟩
  · refine AllS.consN 1 (some 118) rfl rfl ?_ (AllS.consN 2 (some 119) rfl rfl ?_ (AllS.consN 3 (some 120) rfl rfl ?_ (AllS.consN 4 (some 121) rfl rfl ?_ (AllS.consN 5 (some 122) rfl rfl ?_ (AllS.consN 6 (some 123) rfl rfl ?_ (AllS.consN 7 (some 124) rfl rfl ?_ (AllS.consN 8 (some 125) rfl rfl ?_ (AllS.consN 9 (some 126) rfl rfl ?_ (AllS.consN 10 (some 127) rfl rfl ?_ (AllS.consN 11 (some 128) rfl rfl ?_ (AllS.consN 12 (some 129) rfl rfl ?_ (AllS.consN 13 (some 130) rfl rfl ?_ (AllS.consN 14 (some 131) rfl rfl ?_ (AllS.consN 15 (some 132) rfl rfl ?_ (AllS.consN 16 (some 133) rfl rfl ?_ (AllS.consN 17 (some 134) rfl rfl ?_ (AllS.consN 18 (some 135) rfl rfl ?_ (AllS.consN 19 (some 136) rfl rfl ?_ (AllS.consN 20 (some 137) rfl rfl ?_ (AllS.consN 21 (some 138) rfl rfl ?_ (AllS.consN 22 (some 139) rfl rfl ?_ (AllS.consN 23 (some 140) rfl rfl ?_ (AllS.consN 24 (some 141) rfl rfl ?_ (AllS.consN 25 (some 142) rfl rfl ?_ (AllS.consN 26 (some 143) rfl rfl ?_ (AllS.consN 27 (some 144) rfl rfl ?_ (AllS.consN 28 (some 145) rfl rfl ?_ (AllS.consN 29 (some 146) rfl rfl ?_ (AllS.consN 30 (some 147) rfl rfl ?_ (AllS.consN 31 (some 148) rfl rfl ?_ (AllS.consN 32 (some 149) rfl rfl ?_ (AllS.consN 33 (some 150) rfl rfl ?_ (AllS.consN 34 (some 151) rfl rfl ?_ (AllS.consN 35 (some 152) rfl rfl ?_ (AllS.consN 36 (some 153) rfl rfl ?_ (AllS.consN 37 (some 154) rfl rfl ?_ (AllS.consN 38 (some 155) rfl rfl ?_ (AllS.consN 39 (some 156) rfl rfl ?_ (AllS.consN 40 (some 157) rfl rfl ?_ (AllS.consN 41 (some 158) rfl rfl ?_ (AllS.consN 42 (some 159) rfl rfl ?_ (AllS.consN 43 (some 160) rfl rfl ?_ (AllS.consN 44 (some 161) rfl rfl ?_ (AllS.consN 45 (some 162) rfl rfl ?_ (AllS.consN 46 (some 163) rfl rfl ?_ (AllS.consN 47 (some 164) rfl rfl ?_ (AllS.consN 48 (some 165) rfl rfl ?_ (AllS.consN 49 (some 166) rfl rfl ?_ (AllS.consN 50 (some 167) rfl rfl ?_ (AllS.consN 51 (some 168) rfl rfl ?_ (AllS.consN 52 (some 169) rfl rfl ?_ (AllS.consN 53 (some 170) rfl rfl ?_ (AllS.consN 54 (some 171) rfl rfl ?_ (AllS.consN 55 (some 172) rfl rfl ?_ (AllS.consN 56 (some 173) rfl rfl ?_ (AllS.consN 57 (some 174) rfl rfl ?_ (AllS.consN 58 (some 175) rfl rfl ?_ (AllS.consN 59 (some 176) rfl rfl ?_ (AllS.consN 60 (some 177) rfl rfl ?_ (AllS.consN 61 (some 178) rfl rfl ?_ (AllS.consN 62 (some 179) rfl rfl ?_ (AllS.consN 63 (some 180) rfl rfl ?_ (AllS.consN 64 (some 181) rfl rfl ?_ (AllS.consN 65 (some 182) rfl rfl ?_ (AllS.consN 66 (some 183) rfl rfl ?_ (AllS.consN 67 (some 184) rfl rfl ?_ (AllS.consN 68 (some 185) rfl rfl ?_ (AllS.consN 69 (some 186) rfl rfl ?_ (AllS.consN 70 (some 187) rfl rfl ?_ (AllS.consN 71 (some 188) rfl rfl ?_ (AllS.consN 72 (some 189) rfl rfl ?_ (AllS.consN 73 (some 190) rfl rfl ?_ (AllS.consN 74 (some 191) rfl rfl ?_ (AllS.consN 75 (some 192) rfl rfl ?_ (AllS.consN 76 (some 193) rfl rfl ?_ (AllS.consN 77 (some 194) rfl rfl ?_ (AllS.consN 78 (some 195) rfl rfl ?_ (AllS.consN 79 (some 4) rfl rfl ?_ AllS.nil))))))))))))))))))))))))))))))))))))))))))))))))))))))))))))))))))))))))))))))
    · intro L s w2 h hk hd hn
      have s4 : s 4 = .bool true := h.o4 (by
            cases hx : L 78
            · rfl
            · exact absurd (h.dl hx) (by rw [hn]; exact Bool.false_ne_true))
      refine stepS rfl fun K hK => ?_
      go_simp
      exact hK _ _ { h with e0 := fun _ => rfl, dl := fun _ => rfl }
    · intro L s w2 h hk hd hn
      have s118 := h.e0 hd.1
      refine stepS rfl fun K hK => ?_
      go_simp
      exact hK _ _ { h with e1 := fun _ => rfl }
    · intro L s w2 h hk hd hn
      have gq := h.e1 hd.1
      refine stepS (by simp [Region.wanted, yieldS, gq]) fun K hK => ?_
      go_simp
      refine (kn7_2 _).mono ?_
      rintro e w3 ⟨rfl, hb⟩
      exact ⟨_, rfl, hK _ _ { h with bel := below_step h.bel hb, e3 := fun d => (h.e3 d).on hb, e11 := fun d => (h.e11 d).on hb, e20 := fun d => (h.e20 d).on hb, e28 := fun d => (h.e28 d).on hb, e36 := fun d => (h.e36 d).on hb, e45 := fun d => (h.e45 d).on hb, e54 := fun d => (h.e54 d).on hb, e63 := fun d => (h.e63 d).on hb, e71 := fun d => (h.e71 d).on hb, e2 := fun _ => rfl }⟩
    · intro L s w2 h hk hd hn
      have gq := h.e1 hd.2.2.1
      have s120 := h.e2 hd.1
      refine stepS (by simp [Region.wanted, yieldS, gq]) fun K hK => ?_
      go_simp
      refine (is_at 4294967296 281474976710656 _).mono ?_
      rintro e w3 ⟨v, rfl, hv, hb⟩
      exact ⟨_, rfl, hK _ _ { h with bel := below_step h.bel hb, e11 := fun d => (h.e11 d).on hb, e20 := fun d => (h.e20 d).on hb, e28 := fun d => (h.e28 d).on hb, e36 := fun d => (h.e36 d).on hb, e45 := fun d => (h.e45 d).on hb, e54 := fun d => (h.e54 d).on hb, e63 := fun d => (h.e63 d).on hb, e71 := fun d => (h.e71 d).on hb, e3 := fun _ => hv }⟩
    · intro L s w2 h hk hd hn
      have gq := h.e1 hd.2.1
      refine stepS (by simp [Region.wanted, yieldS, gq]) fun K hK => ?_
      go_simp
      refine (kn7_4 _).mono ?_
      rintro e w3 ⟨rfl, hb⟩
      exact ⟨_, rfl, hK _ _ { h with bel := below_step h.bel hb, e3 := fun d => (h.e3 d).on hb, e11 := fun d => (h.e11 d).on hb, e20 := fun d => (h.e20 d).on hb, e28 := fun d => (h.e28 d).on hb, e36 := fun d => (h.e36 d).on hb, e45 := fun d => (h.e45 d).on hb, e54 := fun d => (h.e54 d).on hb, e63 := fun d => (h.e63 d).on hb, e71 := fun d => (h.e71 d).on hb, e4 := fun _ => rfl }⟩
    · intro L s w2 h hk hd hn
      have gq := h.e1 hd.2.2.1
      have s122 := h.e4 hd.1
      refine stepS (by simp [Region.wanted, yieldS, gq]) fun K hK => ?_
      go_simp
      refine (kn7_5 _).mono ?_
      rintro e w3 ⟨rfl, hb⟩
      exact ⟨_, rfl, hK _ _ { h with bel := below_step h.bel hb, e3 := fun d => (h.e3 d).on hb, e11 := fun d => (h.e11 d).on hb, e20 := fun d => (h.e20 d).on hb, e28 := fun d => (h.e28 d).on hb, e36 := fun d => (h.e36 d).on hb, e45 := fun d => (h.e45 d).on hb, e54 := fun d => (h.e54 d).on hb, e63 := fun d => (h.e63 d).on hb, e71 := fun d => (h.e71 d).on hb, e5 := fun _ => rfl }⟩
    · intro L s w2 h hk hd hn
      have gq := h.e1 hd.2.1
      have s123 := h.e5 hd.1
      refine stepS (by simp [Region.wanted, yieldS, gq]) fun K hK => ?_
      go_simp
      exact hK _ _ { h with e6 := fun _ => rfl }
    · intro L s w2 h hk hd hn
      have gq := h.e1 hd.2.1
      have s123 := h.e5 hd.1
      refine stepS (by simp [Region.wanted, yieldS, gq]) fun K hK => ?_
      go_simp
      exact hK _ _ { h with e7 := fun _ => rfl }
    · intro L s w2 h hk hd hn
      have gq := h.e1 hd.2.2.2.2.1
      have s124 := h.e6 hd.2.1
      have s125 := h.e7 hd.2.2.1
      obtain ⟨Q, sF, hQ⟩ := h.e3 hd.1
      refine stepS (by simp [Region.wanted, yieldS, gq]) fun K hK => ?_
      go_simp
      refine (is1_at hQ).mono ?_
      rintro e w3 ⟨rfl, hb⟩
      exact ⟨_, rfl, hK _ _ { h with bel := below_step h.bel hb, e3 := fun d => (h.e3 d).on hb, e11 := fun d => (h.e11 d).on hb, e20 := fun d => (h.e20 d).on hb, e28 := fun d => (h.e28 d).on hb, e36 := fun d => (h.e36 d).on hb, e45 := fun d => (h.e45 d).on hb, e54 := fun d => (h.e54 d).on hb, e63 := fun d => (h.e63 d).on hb, e71 := fun d => (h.e71 d).on hb, e8 := fun _ => rfl }⟩
    · intro L s w2 h hk hd hn
      have s119 := h.e1 hd.1
      have s126 := h.e8 hd.2.1
      refine stepS rfl fun K hK => ?_
      go_simp
      exact hK _ _ { h with e9 := fun _ => rfl }
    · intro L s w2 h hk hd hn
      have s127 := h.e9 hd.1
      refine stepS rfl fun K hK => ?_
      go_simp
      exact hK _ _ { h with e10 := fun _ => rfl }
    · intro L s w2 h hk hd hn
      have gq := h.e10 hd.1
      refine stepS (by simp [Region.wanted, yieldS, gq]) fun K hK => ?_
      go_simp
      refine (fl_at 6 _).mono ?_
      rintro e w3 ⟨v, rfl, hv, hb⟩
      exact ⟨_, rfl, hK _ _ { h with bel := below_step h.bel hb, e3 := fun d => (h.e3 d).on hb, e20 := fun d => (h.e20 d).on hb, e28 := fun d => (h.e28 d).on hb, e36 := fun d => (h.e36 d).on hb, e45 := fun d => (h.e45 d).on hb, e54 := fun d => (h.e54 d).on hb, e63 := fun d => (h.e63 d).on hb, e71 := fun d => (h.e71 d).on hb, e11 := fun _ => hv }⟩
    · intro L s w2 h hk hd hn
      have gq := h.e10 hd.2.1
      refine stepS (by simp [Region.wanted, yieldS, gq]) fun K hK => ?_
      go_simp
      refine (kn7_12 _).mono ?_
      rintro e w3 ⟨rfl, hb⟩
      exact ⟨_, rfl, hK _ _ { h with bel := below_step h.bel hb, e3 := fun d => (h.e3 d).on hb, e11 := fun d => (h.e11 d).on hb, e20 := fun d => (h.e20 d).on hb, e28 := fun d => (h.e28 d).on hb, e36 := fun d => (h.e36 d).on hb, e45 := fun d => (h.e45 d).on hb, e54 := fun d => (h.e54 d).on hb, e63 := fun d => (h.e63 d).on hb, e71 := fun d => (h.e71 d).on hb, e12 := fun _ => rfl }⟩
    · intro L s w2 h hk hd hn
      have gq := h.e10 hd.2.2.1
      have s130 := h.e12 hd.1
      refine stepS (by simp [Region.wanted, yieldS, gq]) fun K hK => ?_
      go_simp
      refine (kn7_13 _).mono ?_
      rintro e w3 ⟨rfl, hb⟩
      exact ⟨_, rfl, hK _ _ { h with bel := below_step h.bel hb, e3 := fun d => (h.e3 d).on hb, e11 := fun d => (h.e11 d).on hb, e20 := fun d => (h.e20 d).on hb, e28 := fun d => (h.e28 d).on hb, e36 := fun d => (h.e36 d).on hb, e45 := fun d => (h.e45 d).on hb, e54 := fun d => (h.e54 d).on hb, e63 := fun d => (h.e63 d).on hb, e71 := fun d => (h.e71 d).on hb, e13 := fun _ => rfl }⟩
    · intro L s w2 h hk hd hn
      have gq := h.e10 hd.2.1
      have s131 := h.e13 hd.1
      refine stepS (by simp [Region.wanted, yieldS, gq]) fun K hK => ?_
      go_simp
      exact hK _ _ { h with e14 := fun _ => rfl }
    · intro L s w2 h hk hd hn
      have gq := h.e10 hd.2.1
      have s131 := h.e13 hd.1
      refine stepS (by simp [Region.wanted, yieldS, gq]) fun K hK => ?_
      go_simp
      exact hK _ _ { h with e15 := fun _ => rfl }
    · intro L s w2 h hk hd hn
      have gq := h.e10 hd.2.2.2.2.1
      have s132 := h.e14 hd.2.1
      have s133 := h.e15 hd.2.2.1
      obtain ⟨Q, sF, hQ⟩ := h.e11 hd.1
      refine stepS (by simp [Region.wanted, yieldS, gq]) fun K hK => ?_
      go_simp
      refine (fl1_at hQ).mono ?_
      rintro e w3 ⟨rfl, hb⟩
      exact ⟨_, rfl, hK _ _ { h with bel := below_step h.bel hb, e3 := fun d => (h.e3 d).on hb, e11 := fun d => (h.e11 d).on hb, e20 := fun d => (h.e20 d).on hb, e28 := fun d => (h.e28 d).on hb, e36 := fun d => (h.e36 d).on hb, e45 := fun d => (h.e45 d).on hb, e54 := fun d => (h.e54 d).on hb, e63 := fun d => (h.e63 d).on hb, e71 := fun d => (h.e71 d).on hb, e16 := fun _ => rfl }⟩
    · intro L s w2 h hk hd hn
      have s128 := h.e10 hd.1
      have s134 := h.e16 hd.2.1
      refine stepS rfl fun K hK => ?_
      go_simp
      exact hK _ _ { h with e17 := fun _ => rfl }
    · intro L s w2 h hk hd hn
      have s135 := h.e17 hd.1
      refine stepS rfl fun K hK => ?_
      go_simp
      exact hK _ _ { h with e18 := fun _ => rfl }
    · intro L s w2 h hk hd hn
      have gq := h.e18 hd.1
      have s3 : s 3 = _ := hk 3 (by kernel_rfl)
      have b := (h.bel.block _ (lt_of_block HBO.out)).trans HBO.out
      have c0 := cell_two0 b
      have c1 := cell_two1 b
      refine stepS (by simp [Region.wanted, yieldS, gq]) fun K hK => ?_
      go_simp
      exact hK _ _ { h with e19 := fun _ => rfl }
    · intro L s w2 h hk hd hn
      have gq := h.e18 hd.2.1
      have s137 := h.e19 hd.1
      refine stepS (by simp [Region.wanted, yieldS, gq]) fun K hK => ?_
      go_simp
      refine (is_at 4294967296 4294967296 _).mono ?_
      rintro e w3 ⟨v, rfl, hv, hb⟩
      exact ⟨_, rfl, hK _ _ { h with bel := below_step h.bel hb, e3 := fun d => (h.e3 d).on hb, e11 := fun d => (h.e11 d).on hb, e28 := fun d => (h.e28 d).on hb, e36 := fun d => (h.e36 d).on hb, e45 := fun d => (h.e45 d).on hb, e54 := fun d => (h.e54 d).on hb, e63 := fun d => (h.e63 d).on hb, e71 := fun d => (h.e71 d).on hb, e20 := fun _ => hv }⟩
    · intro L s w2 h hk hd hn
      have gq := h.e18 hd.1
      have s1 : s 1 = _ := hk 1 (by kernel_rfl)
      have b := (h.bel.block _ (lt_of_block HBM.out)).trans HBM.out
      have c0 := cell_two0 b
      have c1 := cell_two1 b
      refine stepS (by simp [Region.wanted, yieldS, gq]) fun K hK => ?_
      go_simp
      exact hK _ _ { h with e21 := fun _ => rfl }
    · intro L s w2 h hk hd hn
      have gq := h.e18 hd.2.2.1
      have s139 := h.e21 hd.1
      refine stepS (by simp [Region.wanted, yieldS, gq]) fun K hK => ?_
      go_simp
      refine (kn7_22 _).mono ?_
      rintro e w3 ⟨rfl, hb⟩
      exact ⟨_, rfl, hK _ _ { h with bel := below_step h.bel hb, e3 := fun d => (h.e3 d).on hb, e11 := fun d => (h.e11 d).on hb, e20 := fun d => (h.e20 d).on hb, e28 := fun d => (h.e28 d).on hb, e36 := fun d => (h.e36 d).on hb, e45 := fun d => (h.e45 d).on hb, e54 := fun d => (h.e54 d).on hb, e63 := fun d => (h.e63 d).on hb, e71 := fun d => (h.e71 d).on hb, e22 := fun _ => rfl }⟩
    · intro L s w2 h hk hd hn
      have gq := h.e18 hd.2.1
      have s140 := h.e22 hd.1
      refine stepS (by simp [Region.wanted, yieldS, gq]) fun K hK => ?_
      go_simp
      exact hK _ _ { h with e23 := fun _ => rfl }
    · intro L s w2 h hk hd hn
      have gq := h.e18 hd.2.1
      have s140 := h.e22 hd.1
      refine stepS (by simp [Region.wanted, yieldS, gq]) fun K hK => ?_
      go_simp
      exact hK _ _ { h with e24 := fun _ => rfl }
    · intro L s w2 h hk hd hn
      have gq := h.e18 hd.2.2.2.2.1
      have s141 := h.e23 hd.2.1
      have s142 := h.e24 hd.2.2.1
      obtain ⟨Q, sF, hQ⟩ := h.e20 hd.1
      refine stepS (by simp [Region.wanted, yieldS, gq]) fun K hK => ?_
      go_simp
      refine (is1_at hQ).mono ?_
      rintro e w3 ⟨rfl, hb⟩
      exact ⟨_, rfl, hK _ _ { h with bel := below_step h.bel hb, e3 := fun d => (h.e3 d).on hb, e11 := fun d => (h.e11 d).on hb, e20 := fun d => (h.e20 d).on hb, e28 := fun d => (h.e28 d).on hb, e36 := fun d => (h.e36 d).on hb, e45 := fun d => (h.e45 d).on hb, e54 := fun d => (h.e54 d).on hb, e63 := fun d => (h.e63 d).on hb, e71 := fun d => (h.e71 d).on hb, e25 := fun _ => rfl }⟩
    · intro L s w2 h hk hd hn
      have s136 := h.e18 hd.1
      have s143 := h.e25 hd.2.1
      refine stepS rfl fun K hK => ?_
      go_simp
      exact hK _ _ { h with e26 := fun _ => rfl }
    · intro L s w2 h hk hd hn
      have s144 := h.e26 hd.1
      refine stepS rfl fun K hK => ?_
      go_simp
      exact hK _ _ { h with e27 := fun _ => rfl }
    · intro L s w2 h hk hd hn
      have gq := h.e27 hd.1
      refine stepS (by simp [Region.wanted, yieldS, gq]) fun K hK => ?_
      go_simp
      refine (fl_at 2 _).mono ?_
      rintro e w3 ⟨v, rfl, hv, hb⟩
      exact ⟨_, rfl, hK _ _ { h with bel := below_step h.bel hb, e3 := fun d => (h.e3 d).on hb, e11 := fun d => (h.e11 d).on hb, e20 := fun d => (h.e20 d).on hb, e36 := fun d => (h.e36 d).on hb, e45 := fun d => (h.e45 d).on hb, e54 := fun d => (h.e54 d).on hb, e63 := fun d => (h.e63 d).on hb, e71 := fun d => (h.e71 d).on hb, e28 := fun _ => hv }⟩
    · intro L s w2 h hk hd hn
      have gq := h.e27 hd.1
      have s1 : s 1 = _ := hk 1 (by kernel_rfl)
      have b := (h.bel.block _ (lt_of_block HBM.out)).trans HBM.out
      have c0 := cell_two0 b
      have c1 := cell_two1 b
      refine stepS (by simp [Region.wanted, yieldS, gq]) fun K hK => ?_
      go_simp
      exact hK _ _ { h with e29 := fun _ => rfl }
    · intro L s w2 h hk hd hn
      have gq := h.e27 hd.2.2.1
      have s147 := h.e29 hd.1
      refine stepS (by simp [Region.wanted, yieldS, gq]) fun K hK => ?_
      go_simp
      refine (kn7_30 _).mono ?_
      rintro e w3 ⟨rfl, hb⟩
      exact ⟨_, rfl, hK _ _ { h with bel := below_step h.bel hb, e3 := fun d => (h.e3 d).on hb, e11 := fun d => (h.e11 d).on hb, e20 := fun d => (h.e20 d).on hb, e28 := fun d => (h.e28 d).on hb, e36 := fun d => (h.e36 d).on hb, e45 := fun d => (h.e45 d).on hb, e54 := fun d => (h.e54 d).on hb, e63 := fun d => (h.e63 d).on hb, e71 := fun d => (h.e71 d).on hb, e30 := fun _ => rfl }⟩
    · intro L s w2 h hk hd hn
      have gq := h.e27 hd.2.1
      have s148 := h.e30 hd.1
      refine stepS (by simp [Region.wanted, yieldS, gq]) fun K hK => ?_
      go_simp
      exact hK _ _ { h with e31 := fun _ => rfl }
    · intro L s w2 h hk hd hn
      have gq := h.e27 hd.2.1
      have s148 := h.e30 hd.1
      refine stepS (by simp [Region.wanted, yieldS, gq]) fun K hK => ?_
      go_simp
      exact hK _ _ { h with e32 := fun _ => rfl }
    · intro L s w2 h hk hd hn
      have gq := h.e27 hd.2.2.2.2.1
      have s149 := h.e31 hd.2.1
      have s150 := h.e32 hd.2.2.1
      obtain ⟨Q, sF, hQ⟩ := h.e28 hd.1
      refine stepS (by simp [Region.wanted, yieldS, gq]) fun K hK => ?_
      go_simp
      refine (fl1_at hQ).mono ?_
      rintro e w3 ⟨rfl, hb⟩
      exact ⟨_, rfl, hK _ _ { h with bel := below_step h.bel hb, e3 := fun d => (h.e3 d).on hb, e11 := fun d => (h.e11 d).on hb, e20 := fun d => (h.e20 d).on hb, e28 := fun d => (h.e28 d).on hb, e36 := fun d => (h.e36 d).on hb, e45 := fun d => (h.e45 d).on hb, e54 := fun d => (h.e54 d).on hb, e63 := fun d => (h.e63 d).on hb, e71 := fun d => (h.e71 d).on hb, e33 := fun _ => rfl }⟩
    · intro L s w2 h hk hd hn
      have s145 := h.e27 hd.1
      have s151 := h.e33 hd.2.1
      refine stepS rfl fun K hK => ?_
      go_simp
      exact hK _ _ { h with e34 := fun _ => rfl }
    · intro L s w2 h hk hd hn
      have s152 := h.e34 hd.1
      refine stepS rfl fun K hK => ?_
      go_simp
      exact hK _ _ { h with e35 := fun _ => rfl }
    · intro L s w2 h hk hd hn
      have gq := h.e35 hd.1
      refine stepS (by simp [Region.wanted, yieldS, gq]) fun K hK => ?_
      go_simp
      refine (fl_at 20 _).mono ?_
      rintro e w3 ⟨v, rfl, hv, hb⟩
      exact ⟨_, rfl, hK _ _ { h with bel := below_step h.bel hb, e3 := fun d => (h.e3 d).on hb, e11 := fun d => (h.e11 d).on hb, e20 := fun d => (h.e20 d).on hb, e28 := fun d => (h.e28 d).on hb, e45 := fun d => (h.e45 d).on hb, e54 := fun d => (h.e54 d).on hb, e63 := fun d => (h.e63 d).on hb, e71 := fun d => (h.e71 d).on hb, e36 := fun _ => hv }⟩
    · intro L s w2 h hk hd hn
      have gq := h.e35 hd.1
      have s2 : s 2 = _ := hk 2 (by kernel_rfl)
      have b := (h.bel.block _ (lt_of_block HBB.out)).trans HBB.out
      have c0 := cell_two0 b
      have c1 := cell_two1 b
      refine stepS (by simp [Region.wanted, yieldS, gq]) fun K hK => ?_
      go_simp
      exact hK _ _ { h with e37 := fun _ => rfl }
    · intro L s w2 h hk hd hn
      have gq := h.e35 hd.2.2.1
      have s155 := h.e37 hd.1
      refine stepS (by simp [Region.wanted, yieldS, gq]) fun K hK => ?_
      go_simp
      refine (kn7_38 _).mono ?_
      rintro e w3 ⟨rfl, hb⟩
      exact ⟨_, rfl, hK _ _ { h with bel := below_step h.bel hb, e3 := fun d => (h.e3 d).on hb, e11 := fun d => (h.e11 d).on hb, e20 := fun d => (h.e20 d).on hb, e28 := fun d => (h.e28 d).on hb, e36 := fun d => (h.e36 d).on hb, e45 := fun d => (h.e45 d).on hb, e54 := fun d => (h.e54 d).on hb, e63 := fun d => (h.e63 d).on hb, e71 := fun d => (h.e71 d).on hb, e38 := fun _ => rfl }⟩
    · intro L s w2 h hk hd hn
      have gq := h.e35 hd.2.1
      have s156 := h.e38 hd.1
      refine stepS (by simp [Region.wanted, yieldS, gq]) fun K hK => ?_
      go_simp
      exact hK _ _ { h with e39 := fun _ => rfl }
    · intro L s w2 h hk hd hn
      have gq := h.e35 hd.2.1
      have s156 := h.e38 hd.1
      refine stepS (by simp [Region.wanted, yieldS, gq]) fun K hK => ?_
      go_simp
      exact hK _ _ { h with e40 := fun _ => rfl }
    · intro L s w2 h hk hd hn
      have gq := h.e35 hd.2.2.2.2.1
      have s157 := h.e39 hd.2.1
      have s158 := h.e40 hd.2.2.1
      obtain ⟨Q, sF, hQ⟩ := h.e36 hd.1
      refine stepS (by simp [Region.wanted, yieldS, gq]) fun K hK => ?_
      go_simp
      refine (fl1_at hQ).mono ?_
      rintro e w3 ⟨rfl, hb⟩
      exact ⟨_, rfl, hK _ _ { h with bel := below_step h.bel hb, e3 := fun d => (h.e3 d).on hb, e11 := fun d => (h.e11 d).on hb, e20 := fun d => (h.e20 d).on hb, e28 := fun d => (h.e28 d).on hb, e36 := fun d => (h.e36 d).on hb, e45 := fun d => (h.e45 d).on hb, e54 := fun d => (h.e54 d).on hb, e63 := fun d => (h.e63 d).on hb, e71 := fun d => (h.e71 d).on hb, e41 := fun _ => rfl }⟩
    · intro L s w2 h hk hd hn
      have s153 := h.e35 hd.1
      have s159 := h.e41 hd.2.1
      refine stepS rfl fun K hK => ?_
      go_simp
      exact hK _ _ { h with e42 := fun _ => rfl }
    · intro L s w2 h hk hd hn
      have s160 := h.e42 hd.1
      refine stepS rfl fun K hK => ?_
      go_simp
      exact hK _ _ { h with e43 := fun _ => rfl }
    · intro L s w2 h hk hd hn
      have gq := h.e43 hd.1
      have s1 : s 1 = _ := hk 1 (by kernel_rfl)
      have b := (h.bel.block _ (lt_of_block HBM.out)).trans HBM.out
      have c0 := cell_two0 b
      have c1 := cell_two1 b
      refine stepS (by simp [Region.wanted, yieldS, gq]) fun K hK => ?_
      go_simp
      exact hK _ _ { h with e44 := fun _ => rfl }
    · intro L s w2 h hk hd hn
      have gq := h.e43 hd.2.1
      have s162 := h.e44 hd.1
      refine stepS (by simp [Region.wanted, yieldS, gq]) fun K hK => ?_
      go_simp
      refine (is_at (-4503599627370496) 4503599627370496 _).mono ?_
      rintro e w3 ⟨v, rfl, hv, hb⟩
      exact ⟨_, rfl, hK _ _ { h with bel := below_step h.bel hb, e3 := fun d => (h.e3 d).on hb, e11 := fun d => (h.e11 d).on hb, e20 := fun d => (h.e20 d).on hb, e28 := fun d => (h.e28 d).on hb, e36 := fun d => (h.e36 d).on hb, e54 := fun d => (h.e54 d).on hb, e63 := fun d => (h.e63 d).on hb, e71 := fun d => (h.e71 d).on hb, e45 := fun _ => hv }⟩
    · intro L s w2 h hk hd hn
      have gq := h.e43 hd.1
      have s1 : s 1 = _ := hk 1 (by kernel_rfl)
      have b := (h.bel.block _ (lt_of_block HBM.out)).trans HBM.out
      have c0 := cell_two0 b
      have c1 := cell_two1 b
      refine stepS (by simp [Region.wanted, yieldS, gq]) fun K hK => ?_
      go_simp
      exact hK _ _ { h with e46 := fun _ => rfl }
    · intro L s w2 h hk hd hn
      have gq := h.e43 hd.2.2.1
      have s164 := h.e46 hd.1
      refine stepS (by simp [Region.wanted, yieldS, gq]) fun K hK => ?_
      go_simp
      refine (kn7_47 _).mono ?_
      rintro e w3 ⟨rfl, hb⟩
      exact ⟨_, rfl, hK _ _ { h with bel := below_step h.bel hb, e3 := fun d => (h.e3 d).on hb, e11 := fun d => (h.e11 d).on hb, e20 := fun d => (h.e20 d).on hb, e28 := fun d => (h.e28 d).on hb, e36 := fun d => (h.e36 d).on hb, e45 := fun d => (h.e45 d).on hb, e54 := fun d => (h.e54 d).on hb, e63 := fun d => (h.e63 d).on hb, e71 := fun d => (h.e71 d).on hb, e47 := fun _ => rfl }⟩
    · intro L s w2 h hk hd hn
      have gq := h.e43 hd.2.1
      have s165 := h.e47 hd.1
      refine stepS (by simp [Region.wanted, yieldS, gq]) fun K hK => ?_
      go_simp
      exact hK _ _ { h with e48 := fun _ => rfl }
    · intro L s w2 h hk hd hn
      have gq := h.e43 hd.2.1
      have s165 := h.e47 hd.1
      refine stepS (by simp [Region.wanted, yieldS, gq]) fun K hK => ?_
      go_simp
      exact hK _ _ { h with e49 := fun _ => rfl }
    · intro L s w2 h hk hd hn
      have gq := h.e43 hd.2.2.2.2.1
      have s166 := h.e48 hd.2.1
      have s167 := h.e49 hd.2.2.1
      obtain ⟨Q, sF, hQ⟩ := h.e45 hd.1
      refine stepS (by simp [Region.wanted, yieldS, gq]) fun K hK => ?_
      go_simp
      refine (is1_at hQ).mono ?_
      rintro e w3 ⟨rfl, hb⟩
      exact ⟨_, rfl, hK _ _ { h with bel := below_step h.bel hb, e3 := fun d => (h.e3 d).on hb, e11 := fun d => (h.e11 d).on hb, e20 := fun d => (h.e20 d).on hb, e28 := fun d => (h.e28 d).on hb, e36 := fun d => (h.e36 d).on hb, e45 := fun d => (h.e45 d).on hb, e54 := fun d => (h.e54 d).on hb, e63 := fun d => (h.e63 d).on hb, e71 := fun d => (h.e71 d).on hb, e50 := fun _ => rfl }⟩
    · intro L s w2 h hk hd hn
      have s161 := h.e43 hd.1
      have s168 := h.e50 hd.2.1
      refine stepS rfl fun K hK => ?_
      go_simp
      exact hK _ _ { h with e51 := fun _ => rfl }
    · intro L s w2 h hk hd hn
      have s169 := h.e51 hd.1
      refine stepS rfl fun K hK => ?_
      go_simp
      exact hK _ _ { h with e52 := fun _ => rfl }
    · intro L s w2 h hk hd hn
      have gq := h.e52 hd.1
      refine stepS (by simp [Region.wanted, yieldS, gq]) fun K hK => ?_
      go_simp
      refine (kn7_53 _).mono ?_
      rintro e w3 ⟨rfl, hb⟩
      exact ⟨_, rfl, hK _ _ { h with bel := below_step h.bel hb, e3 := fun d => (h.e3 d).on hb, e11 := fun d => (h.e11 d).on hb, e20 := fun d => (h.e20 d).on hb, e28 := fun d => (h.e28 d).on hb, e36 := fun d => (h.e36 d).on hb, e45 := fun d => (h.e45 d).on hb, e54 := fun d => (h.e54 d).on hb, e63 := fun d => (h.e63 d).on hb, e71 := fun d => (h.e71 d).on hb, e53 := fun _ => rfl }⟩
    · intro L s w2 h hk hd hn
      have gq := h.e52 hd.2.2.1
      have s171 := h.e53 hd.1
      refine stepS (by simp [Region.wanted, yieldS, gq]) fun K hK => ?_
      go_simp
      refine (is_at (-2147483648) 1073741824 _).mono ?_
      rintro e w3 ⟨v, rfl, hv, hb⟩
      exact ⟨_, rfl, hK _ _ { h with bel := below_step h.bel hb, e3 := fun d => (h.e3 d).on hb, e11 := fun d => (h.e11 d).on hb, e20 := fun d => (h.e20 d).on hb, e28 := fun d => (h.e28 d).on hb, e36 := fun d => (h.e36 d).on hb, e45 := fun d => (h.e45 d).on hb, e63 := fun d => (h.e63 d).on hb, e71 := fun d => (h.e71 d).on hb, e54 := fun _ => hv }⟩
    · intro L s w2 h hk hd hn
      have gq := h.e52 hd.2.1
      refine stepS (by simp [Region.wanted, yieldS, gq]) fun K hK => ?_
      go_simp
      refine (kn7_55 _).mono ?_
      rintro e w3 ⟨rfl, hb⟩
      exact ⟨_, rfl, hK _ _ { h with bel := below_step h.bel hb, e3 := fun d => (h.e3 d).on hb, e11 := fun d => (h.e11 d).on hb, e20 := fun d => (h.e20 d).on hb, e28 := fun d => (h.e28 d).on hb, e36 := fun d => (h.e36 d).on hb, e45 := fun d => (h.e45 d).on hb, e54 := fun d => (h.e54 d).on hb, e63 := fun d => (h.e63 d).on hb, e71 := fun d => (h.e71 d).on hb, e55 := fun _ => rfl }⟩
    · intro L s w2 h hk hd hn
      have gq := h.e52 hd.2.2.1
      have s173 := h.e55 hd.1
      refine stepS (by simp [Region.wanted, yieldS, gq]) fun K hK => ?_
      go_simp
      refine (kn7_56 _).mono ?_
      rintro e w3 ⟨rfl, hb⟩
      exact ⟨_, rfl, hK _ _ { h with bel := below_step h.bel hb, e3 := fun d => (h.e3 d).on hb, e11 := fun d => (h.e11 d).on hb, e20 := fun d => (h.e20 d).on hb, e28 := fun d => (h.e28 d).on hb, e36 := fun d => (h.e36 d).on hb, e45 := fun d => (h.e45 d).on hb, e54 := fun d => (h.e54 d).on hb, e63 := fun d => (h.e63 d).on hb, e71 := fun d => (h.e71 d).on hb, e56 := fun _ => rfl }⟩
    · intro L s w2 h hk hd hn
      have gq := h.e52 hd.2.1
      have s174 := h.e56 hd.1
      refine stepS (by simp [Region.wanted, yieldS, gq]) fun K hK => ?_
      go_simp
      exact hK _ _ { h with e57 := fun _ => rfl }
    · intro L s w2 h hk hd hn
      have gq := h.e52 hd.2.1
      have s174 := h.e56 hd.1
      refine stepS (by simp [Region.wanted, yieldS, gq]) fun K hK => ?_
      go_simp
      exact hK _ _ { h with e58 := fun _ => rfl }
    · intro L s w2 h hk hd hn
      have gq := h.e52 hd.2.2.2.2.1
      have s175 := h.e57 hd.2.1
      have s176 := h.e58 hd.2.2.1
      obtain ⟨Q, sF, hQ⟩ := h.e54 hd.1
      refine stepS (by simp [Region.wanted, yieldS, gq]) fun K hK => ?_
      go_simp
      refine (is1_at hQ).mono ?_
      rintro e w3 ⟨rfl, hb⟩
      exact ⟨_, rfl, hK _ _ { h with bel := below_step h.bel hb, e3 := fun d => (h.e3 d).on hb, e11 := fun d => (h.e11 d).on hb, e20 := fun d => (h.e20 d).on hb, e28 := fun d => (h.e28 d).on hb, e36 := fun d => (h.e36 d).on hb, e45 := fun d => (h.e45 d).on hb, e54 := fun d => (h.e54 d).on hb, e63 := fun d => (h.e63 d).on hb, e71 := fun d => (h.e71 d).on hb, e59 := fun _ => rfl }⟩
    · intro L s w2 h hk hd hn
      have s170 := h.e52 hd.1
      have s177 := h.e59 hd.2.1
      refine stepS rfl fun K hK => ?_
      go_simp
      exact hK _ _ { h with e60 := fun _ => rfl }
    · intro L s w2 h hk hd hn
      have s178 := h.e60 hd.1
      refine stepS rfl fun K hK => ?_
      go_simp
      exact hK _ _ { h with e61 := fun _ => rfl }
    · intro L s w2 h hk hd hn
      have gq := h.e61 hd.1
      refine stepS (by simp [Region.wanted, yieldS, gq]) fun K hK => ?_
      go_simp
      refine (kn7_62 _).mono ?_
      rintro e w3 ⟨rfl, hb⟩
      exact ⟨_, rfl, hK _ _ { h with bel := below_step h.bel hb, e3 := fun d => (h.e3 d).on hb, e11 := fun d => (h.e11 d).on hb, e20 := fun d => (h.e20 d).on hb, e28 := fun d => (h.e28 d).on hb, e36 := fun d => (h.e36 d).on hb, e45 := fun d => (h.e45 d).on hb, e54 := fun d => (h.e54 d).on hb, e63 := fun d => (h.e63 d).on hb, e71 := fun d => (h.e71 d).on hb, e62 := fun _ => rfl }⟩
    · intro L s w2 h hk hd hn
      have gq := h.e61 hd.2.2.1
      have s180 := h.e62 hd.1
      refine stepS (by simp [Region.wanted, yieldS, gq]) fun K hK => ?_
      go_simp
      refine (is_at 0 4503599627370496 _).mono ?_
      rintro e w3 ⟨v, rfl, hv, hb⟩
      exact ⟨_, rfl, hK _ _ { h with bel := below_step h.bel hb, e3 := fun d => (h.e3 d).on hb, e11 := fun d => (h.e11 d).on hb, e20 := fun d => (h.e20 d).on hb, e28 := fun d => (h.e28 d).on hb, e36 := fun d => (h.e36 d).on hb, e45 := fun d => (h.e45 d).on hb, e54 := fun d => (h.e54 d).on hb, e71 := fun d => (h.e71 d).on hb, e63 := fun _ => hv }⟩
    · intro L s w2 h hk hd hn
      have gq := h.e61 hd.2.1
      refine stepS (by simp [Region.wanted, yieldS, gq]) fun K hK => ?_
      go_simp
      refine (kn7_64 _).mono ?_
      rintro e w3 ⟨rfl, hb⟩
      exact ⟨_, rfl, hK _ _ { h with bel := below_step h.bel hb, e3 := fun d => (h.e3 d).on hb, e11 := fun d => (h.e11 d).on hb, e20 := fun d => (h.e20 d).on hb, e28 := fun d => (h.e28 d).on hb, e36 := fun d => (h.e36 d).on hb, e45 := fun d => (h.e45 d).on hb, e54 := fun d => (h.e54 d).on hb, e63 := fun d => (h.e63 d).on hb, e71 := fun d => (h.e71 d).on hb, e64 := fun _ => rfl }⟩
    · intro L s w2 h hk hd hn
      have gq := h.e61 hd.2.2.1
      have s182 := h.e64 hd.1
      refine stepS (by simp [Region.wanted, yieldS, gq]) fun K hK => ?_
      go_simp
      refine (kn7_65 _).mono ?_
      rintro e w3 ⟨rfl, hb⟩
      exact ⟨_, rfl, hK _ _ { h with bel := below_step h.bel hb, e3 := fun d => (h.e3 d).on hb, e11 := fun d => (h.e11 d).on hb, e20 := fun d => (h.e20 d).on hb, e28 := fun d => (h.e28 d).on hb, e36 := fun d => (h.e36 d).on hb, e45 := fun d => (h.e45 d).on hb, e54 := fun d => (h.e54 d).on hb, e63 := fun d => (h.e63 d).on hb, e71 := fun d => (h.e71 d).on hb, e65 := fun _ => rfl }⟩
    · intro L s w2 h hk hd hn
      have gq := h.e61 hd.2.1
      have s183 := h.e65 hd.1
      refine stepS (by simp [Region.wanted, yieldS, gq]) fun K hK => ?_
      go_simp
      exact hK _ _ { h with e66 := fun _ => rfl }
    · intro L s w2 h hk hd hn
      have gq := h.e61 hd.2.1
      have s183 := h.e65 hd.1
      refine stepS (by simp [Region.wanted, yieldS, gq]) fun K hK => ?_
      go_simp
      exact hK _ _ { h with e67 := fun _ => rfl }
    · intro L s w2 h hk hd hn
      have gq := h.e61 hd.2.2.2.2.1
      have s184 := h.e66 hd.2.1
      have s185 := h.e67 hd.2.2.1
      obtain ⟨Q, sF, hQ⟩ := h.e63 hd.1
      refine stepS (by simp [Region.wanted, yieldS, gq]) fun K hK => ?_
      go_simp
      refine (is1_at hQ).mono ?_
      rintro e w3 ⟨rfl, hb⟩
      exact ⟨_, rfl, hK _ _ { h with bel := below_step h.bel hb, e3 := fun d => (h.e3 d).on hb, e11 := fun d => (h.e11 d).on hb, e20 := fun d => (h.e20 d).on hb, e28 := fun d => (h.e28 d).on hb, e36 := fun d => (h.e36 d).on hb, e45 := fun d => (h.e45 d).on hb, e54 := fun d => (h.e54 d).on hb, e63 := fun d => (h.e63 d).on hb, e71 := fun d => (h.e71 d).on hb, e68 := fun _ => rfl }⟩
    · intro L s w2 h hk hd hn
      have s179 := h.e61 hd.1
      have s186 := h.e68 hd.2.1
      refine stepS rfl fun K hK => ?_
      go_simp
      exact hK _ _ { h with e69 := fun _ => rfl }
    · intro L s w2 h hk hd hn
      have s187 := h.e69 hd.1
      refine stepS rfl fun K hK => ?_
      go_simp
      exact hK _ _ { h with e70 := fun _ => rfl }
    · intro L s w2 h hk hd hn
      have gq := h.e70 hd.1
      refine stepS (by simp [Region.wanted, yieldS, gq]) fun K hK => ?_
      go_simp
      refine (fl_at 6 _).mono ?_
      rintro e w3 ⟨v, rfl, hv, hb⟩
      exact ⟨_, rfl, hK _ _ { h with bel := below_step h.bel hb, e3 := fun d => (h.e3 d).on hb, e11 := fun d => (h.e11 d).on hb, e20 := fun d => (h.e20 d).on hb, e28 := fun d => (h.e28 d).on hb, e36 := fun d => (h.e36 d).on hb, e45 := fun d => (h.e45 d).on hb, e54 := fun d => (h.e54 d).on hb, e63 := fun d => (h.e63 d).on hb, e71 := fun _ => hv }⟩
    · intro L s w2 h hk hd hn
      have gq := h.e70 hd.2.1
      refine stepS (by simp [Region.wanted, yieldS, gq]) fun K hK => ?_
      go_simp
      refine (kn7_72 _).mono ?_
      rintro e w3 ⟨rfl, hb⟩
      exact ⟨_, rfl, hK _ _ { h with bel := below_step h.bel hb, e3 := fun d => (h.e3 d).on hb, e11 := fun d => (h.e11 d).on hb, e20 := fun d => (h.e20 d).on hb, e28 := fun d => (h.e28 d).on hb, e36 := fun d => (h.e36 d).on hb, e45 := fun d => (h.e45 d).on hb, e54 := fun d => (h.e54 d).on hb, e63 := fun d => (h.e63 d).on hb, e71 := fun d => (h.e71 d).on hb, e72 := fun _ => rfl }⟩
    · intro L s w2 h hk hd hn
      have gq := h.e70 hd.2.2.1
      have s190 := h.e72 hd.1
      refine stepS (by simp [Region.wanted, yieldS, gq]) fun K hK => ?_
      go_simp
      refine (kn7_73 _).mono ?_
      rintro e w3 ⟨rfl, hb⟩
      exact ⟨_, rfl, hK _ _ { h with bel := below_step h.bel hb, e3 := fun d => (h.e3 d).on hb, e11 := fun d => (h.e11 d).on hb, e20 := fun d => (h.e20 d).on hb, e28 := fun d => (h.e28 d).on hb, e36 := fun d => (h.e36 d).on hb, e45 := fun d => (h.e45 d).on hb, e54 := fun d => (h.e54 d).on hb, e63 := fun d => (h.e63 d).on hb, e71 := fun d => (h.e71 d).on hb, e73 := fun _ => rfl }⟩
    · intro L s w2 h hk hd hn
      have gq := h.e70 hd.2.1
      have s191 := h.e73 hd.1
      refine stepS (by simp [Region.wanted, yieldS, gq]) fun K hK => ?_
      go_simp
      exact hK _ _ { h with e74 := fun _ => rfl }
    · intro L s w2 h hk hd hn
      have gq := h.e70 hd.2.1
      have s191 := h.e73 hd.1
      refine stepS (by simp [Region.wanted, yieldS, gq]) fun K hK => ?_
      go_simp
      exact hK _ _ { h with e75 := fun _ => rfl }
    · intro L s w2 h hk hd hn
      have gq := h.e70 hd.2.2.2.2.1
      have s192 := h.e74 hd.2.1
      have s193 := h.e75 hd.2.2.1
      obtain ⟨Q, sF, hQ⟩ := h.e71 hd.1
      refine stepS (by simp [Region.wanted, yieldS, gq]) fun K hK => ?_
      go_simp
      refine (fl1_at hQ).mono ?_
      rintro e w3 ⟨rfl, hb⟩
      exact ⟨_, rfl, hK _ _ { h with bel := below_step h.bel hb, e3 := fun d => (h.e3 d).on hb, e11 := fun d => (h.e11 d).on hb, e20 := fun d => (h.e20 d).on hb, e28 := fun d => (h.e28 d).on hb, e36 := fun d => (h.e36 d).on hb, e45 := fun d => (h.e45 d).on hb, e54 := fun d => (h.e54 d).on hb, e63 := fun d => (h.e63 d).on hb, e71 := fun d => (h.e71 d).on hb, e76 := fun _ => rfl }⟩
    · intro L s w2 h hk hd hn
      have s188 := h.e70 hd.1
      have s194 := h.e76 hd.2.1
      refine stepS rfl fun K hK => ?_
      go_simp
      exact hK _ _ { h with e77 := fun _ => rfl }
    · intro L s w2 h hk hd hn
      have s195 := h.e77 hd.1
      refine stepS rfl fun K hK => ?_
      go_simp
      exact hK _ _ { h with e78 := fun _ => rfl, o4 := fun d => Bool.noConfusion (show true = false from d), dl := fun _ => hd.2.2.1 }
  intro L s wc h hk hl a ha
  have k1 : s 1 = .pointer (some ⟨M, 0, none⟩) := hk 1 (by kernel_rfl)
  have k2 : s 2 = .pointer (some ⟨B, 0, none⟩) := hk 2 (by kernel_rfl)
  have k3 : s 3 = .pointer (some ⟨O, 0, none⟩) := hk 3 (by kernel_rfl)
  have k4 : s 4 = .bool true := h.e78 (hl 78 (by decide))
  replace ha := ha.trans (show actS _ s [] = ⟨#[s 0, s 1, s 2, s 3, s 4, s 5, s 6, s 7, s 8, s 9, s 10, s 11, s 12, s 13, s 14, s 15, s 16, s 17, s 18, s 19, s 20, s 21, s 22, s 23, s 24, s 25, s 26, s 27, s 28, s 29, s 30, s 31, s 32, s 33, s 34, s 35, s 36, s 37, s 38, s 39, s 40, s 41, s 42, s 43, s 44, s 45, s 46, s 47, s 48, s 49, s 50, s 51, s 52, s 53, s 54, s 55, s 56, s 57, s 58, s 59, s 60, s 61, s 62, s 63, s 64, s 65, s 66, s 67, s 68, s 69, s 70, s 71, s 72, s 73, s 74, s 75, s 76, s 77, s 78, s 79, s 80, s 81, s 82, s 83, s 84, s 85, s 86, s 87, s 88, s 89, s 90, s 91, s 92, s 93, s 94, s 95, s 96, s 97, s 98, s 99, s 100, s 101, s 102, s 103, s 104, s 105, s 106, s 107, s 108, s 109, s 110, s 111, s 112, s 113, s 114, s 115, s 116, s 117, s 118, s 119, s 120, s 121, s 122, s 123, s 124, s 125, s 126, s 127, s 128, s 129, s 130, s 131, s 132, s 133, s 134, s 135, s 136, s 137, s 138, s 139, s 140, s 141, s 142, s 143, s 144, s 145, s 146, s 147, s 148, s 149, s 150, s 151, s 152, s 153, s 154, s 155, s 156, s 157, s 158, s 159, s 160, s 161, s 162, s 163, s 164, s 165, s 166, s 167, s 168, s 169, s 170, s 171, s 172, s 173, s 174, s 175, s 176, s 177, s 178, s 179, s 180, s 181, s 182, s 183, s 184, s 185, s 186, s 187, s 188, s 189, s 190, s 191, s 192, s 193, s 194, s 195, s 196, s 197, s 198, s 199, s 200, s 201, s 202, s 203, s 204, s 205, s 206, s 207, s 208, s 209, s 210, s 211, s 212, s 213, s 214, s 215, s 216, s 217, s 218, s 219, s 220, s 221, s 222, s 223, s 224, s 225, s 226, s 227, s 228, s 229, s 230, s 231, s 232, s 233, s 234, s 235, s 236, s 237, s 238, s 239, s 240, s 241, s 242, s 243, s 244, s 245, s 246, s 247, s 248, s 249, s 250, s 251, s 252, s 253, s 254, s 255, s 256, s 257, s 258, s 259, s 260, s 261, s 262, s 263, s 264, s 265, s 266, s 267, s 268, s 269, s 270, s 271, s 272, s 273, s 274, s 275, s 276, s 277, s 278, s 279, s 280, s 281, s 282, s 283, s 284, s 285, s 286, s 287, s 288, s 289, s 290, s 291, s 292, s 293, s 294, s 295, s 296, s 297, s 298, s 299, s 300, s 301, s 302, s 303, s 304, s 305, s 306, s 307, s 308, s 309, s 310, s 311, s 312, s 313, s 314, s 315, s 316, s 317, s 318, s 319, s 320, s 321, s 322, s 323, s 324, s 325, s 326, s 327, s 328, s 329, s 330, s 331, s 332, s 333, s 334, s 335, s 336, s 337, s 338, s 339, s 340, s 341, s 342, s 343, s 344, s 345, s 346, s 347, s 348, s 349, s 350, s 351, s 352, s 353, s 354, s 355, s 356, s 357, s 358, s 359, s 360, s 361, s 362, s 363, s 364, s 365, s 366, s 367, s 368, s 369, s 370, s 371, s 372, s 373, s 374, s 375, s 376, s 377, s 378, s 379, s 380, s 381, s 382, s 383, s 384, s 385, s 386, s 387, s 388, s 389, s 390, s 391, s 392, s 393, s 394, s 395, s 396, s 397, s 398, s 399, s 400, s 401, s 402, s 403, s 404, s 405, s 406, s 407, s 408, s 409, s 410, s 411, s 412, s 413, s 414, s 415, s 416, s 417, s 418, s 419, s 420, s 421, s 422, s 423, s 424, s 425], []⟩ by kernel_rfl)
  rw [k1, k2, k3, k4] at ha
  subst ha
  replace HK := Lib.hid (HK.out.on h.bel)
  clear h hk hl k1 k2 k3 k4 HBO HBB HBM HPW
  go_upto_region 8 with (fail)
  have HBO := Lib.hid (HK.out.blk (O, .cells #[.int .i64 4294967296, .int .i64 4294967296] 23 (0, 0)) (.head _))
  have HBB := Lib.hid (HK.out.blk (B, .cells #[.int .i64 1, .int .i64 0] 23 (0, 0)) (.tail _ (.head _)))
  have HBM := Lib.hid (HK.out.blk (M, .cells #[.int .i64 (-4503599627370496), .int .i64 4503599627370496] 23 (0, 0)) (.tail _ (.tail _ (.head _))))
  have HPW := Lib.hid (HP.out.below HK.out.bel)
  refine wp_region_go (Kn8 wc M B O) (by kernel_rfl) (by kernel_rfl) ?_ ?_ ?_
  · exact ⟨(Below.refl _ _).drew, fun _ => rfl, fun h => absurd h Bool.false_ne_true, fun h => absurd h Bool.false_ne_true, fun h => absurd h Bool.false_ne_true, fun h => absurd h Bool.false_ne_true, fun h => absurd h Bool.false_ne_true, fun h => absurd h Bool.false_ne_true, fun h => absurd h Bool.false_ne_true, fun h => absurd h Bool.false_ne_true, fun h => absurd h Bool.false_ne_true, fun h => absurd h Bool.false_ne_true, fun h => absurd h Bool.false_ne_true, fun h => absurd h Bool.false_ne_true, fun h => absurd h Bool.false_ne_true, fun h => absurd h Bool.false_ne_true, fun h => absurd h Bool.false_ne_true, fun h => absurd h Bool.false_ne_true, fun h => absurd h Bool.false_ne_true, fun h => absurd h Bool.false_ne_true, fun h => absurd h Bool.false_ne_true, fun h => absurd h Bool.false_ne_true, fun h => absurd h Bool.false_ne_true, fun h => absurd h Bool.false_ne_true, fun h => absurd h Bool.false_ne_true, fun h => absurd h Bool.false_ne_true, fun h => absurd h Bool.false_ne_true, fun h => absurd h Bool.false_ne_true, fun h => absurd h Bool.false_ne_true, fun h => absurd h Bool.false_ne_true, fun h => absurd h Bool.false_ne_true, fun h => absurd h Bool.false_ne_true, fun h => absurd h Bool.false_ne_true, fun h => absurd h Bool.false_ne_true, fun h => absurd h Bool.false_ne_true, fun h => absurd h Bool.false_ne_true, fun h => absurd h Bool.false_ne_true, fun h => absurd h Bool.false_ne_true, fun h => absurd h Bool.false_ne_true, fun h => absurd h Bool.false_ne_true, fun h => absurd h Bool.false_ne_true, fun h => absurd h Bool.false_ne_true, fun h => absurd h Bool.false_ne_true, fun h => absurd h Bool.false_ne_true, fun h => absurd h Bool.false_ne_true, fun h => absurd h Bool.false_ne_true, fun h => absurd h Bool.false_ne_true, fun h => absurd h Bool.false_ne_true, fun h => absurd h Bool.false_ne_true, fun h => absurd h Bool.false_ne_true, fun h => absurd h Bool.false_ne_true, fun h => absurd h Bool.false_ne_true, fun h => absurd h Bool.false_ne_true, fun h => absurd h Bool.false_ne_true, fun h => absurd h Bool.false_ne_true, fun h => absurd h Bool.false_ne_true, fun h => absurd h Bool.false_ne_true, fun h => absurd h Bool.false_ne_true, fun h => absurd h Bool.false_ne_true, fun h => absurd h Bool.false_ne_true, fun h => absurd h Bool.false_ne_true, fun h => absurd h Bool.false_ne_true, fun h => absurd h Bool.false_ne_true, fun h => absurd h Bool.false_ne_true, fun h => absurd h Bool.false_ne_true, fun h => absurd h Bool.false_ne_true, fun h => absurd h Bool.false_ne_true⟩
  · refine AllS.consN 1 (some 196) rfl rfl ?_ (AllS.consN 2 (some 197) rfl rfl ?_ (AllS.consN 3 (some 198) rfl rfl ?_ (AllS.consN 4 (some 199) rfl rfl ?_ (AllS.consN 5 (some 200) rfl rfl ?_ (AllS.consN 6 (some 201) rfl rfl ?_ (AllS.consN 7 (some 202) rfl rfl ?_ (AllS.consN 8 (some 203) rfl rfl ?_ (AllS.consN 9 (some 204) rfl rfl ?_ (AllS.consN 10 (some 205) rfl rfl ?_ (AllS.consN 11 (some 206) rfl rfl ?_ (AllS.consN 12 (some 207) rfl rfl ?_ (AllS.consN 13 (some 208) rfl rfl ?_ (AllS.consN 14 (some 209) rfl rfl ?_ (AllS.consN 15 (some 210) rfl rfl ?_ (AllS.consN 16 (some 211) rfl rfl ?_ (AllS.consN 17 (some 212) rfl rfl ?_ (AllS.consN 18 (some 213) rfl rfl ?_ (AllS.consN 19 (some 214) rfl rfl ?_ (AllS.consN 20 (some 215) rfl rfl ?_ (AllS.consN 21 (some 216) rfl rfl ?_ (AllS.consN 22 (some 217) rfl rfl ?_ (AllS.consN 23 (some 218) rfl rfl ?_ (AllS.consN 24 (some 219) rfl rfl ?_ (AllS.consN 25 (some 220) rfl rfl ?_ (AllS.consN 26 (some 221) rfl rfl ?_ (AllS.consN 27 (some 222) rfl rfl ?_ (AllS.consN 28 (some 223) rfl rfl ?_ (AllS.consN 29 (some 224) rfl rfl ?_ (AllS.consN 30 (some 225) rfl rfl ?_ (AllS.consN 31 (some 226) rfl rfl ?_ (AllS.consN 32 (some 227) rfl rfl ?_ (AllS.consN 33 (some 228) rfl rfl ?_ (AllS.consN 34 (some 229) rfl rfl ?_ (AllS.consN 35 (some 230) rfl rfl ?_ (AllS.consN 36 (some 231) rfl rfl ?_ (AllS.consN 37 (some 232) rfl rfl ?_ (AllS.consN 38 (some 233) rfl rfl ?_ (AllS.consN 39 (some 234) rfl rfl ?_ (AllS.consN 40 (some 235) rfl rfl ?_ (AllS.consN 41 (some 236) rfl rfl ?_ (AllS.consN 42 (some 237) rfl rfl ?_ (AllS.consN 43 (some 238) rfl rfl ?_ (AllS.consN 44 (some 239) rfl rfl ?_ (AllS.consN 45 (some 240) rfl rfl ?_ (AllS.consN 46 (some 241) rfl rfl ?_ (AllS.consN 47 (some 242) rfl rfl ?_ (AllS.consN 48 (some 243) rfl rfl ?_ (AllS.consN 49 (some 244) rfl rfl ?_ (AllS.consN 50 (some 245) rfl rfl ?_ (AllS.consN 51 (some 246) rfl rfl ?_ (AllS.consN 52 (some 247) rfl rfl ?_ (AllS.consN 53 (some 248) rfl rfl ?_ (AllS.consN 54 (some 249) rfl rfl ?_ (AllS.consN 55 (some 250) rfl rfl ?_ (AllS.consN 56 (some 251) rfl rfl ?_ (AllS.consN 57 (some 252) rfl rfl ?_ (AllS.consN 58 (some 253) rfl rfl ?_ (AllS.consN 59 (some 254) rfl rfl ?_ (AllS.consN 60 (some 255) rfl rfl ?_ (AllS.consN 61 (some 256) rfl rfl ?_ (AllS.consN 62 (some 257) rfl rfl ?_ (AllS.consN 63 (some 258) rfl rfl ?_ (AllS.consN 64 (some 4) rfl rfl ?_ AllS.nil)))))))))))))))))))))))))))))))))))))))))))))))))))))))))))))))
    · intro L s w2 h hk hd hn
      have s4 : s 4 = .bool true := h.o4 (by
            cases hx : L 63
            · rfl
            · exact absurd (h.dl hx) (by rw [hn]; exact Bool.false_ne_true))
      refine stepS rfl fun K hK => ?_
      go_simp
      exact hK _ _ { h with e0 := fun _ => rfl, dl := fun _ => rfl }
    · intro L s w2 h hk hd hn
      have s196 := h.e0 hd.1
      refine stepS rfl fun K hK => ?_
      go_simp
      exact hK _ _ { h with e1 := fun _ => rfl }
    · intro L s w2 h hk hd hn
      have gq := h.e1 hd.1
      refine stepS (by simp [Region.wanted, yieldS, gq]) fun K hK => ?_
      go_simp
      refine (fl_at 20 _).mono ?_
      rintro e w3 ⟨v, rfl, hv, hb⟩
      exact ⟨_, rfl, hK _ _ { h with bel := below_step h.bel hb, e11 := fun d => (h.e11 d).on hb, e20 := fun d => (h.e20 d).on hb, e29 := fun d => (h.e29 d).on hb, e38 := fun d => (h.e38 d).on hb, e47 := fun d => (h.e47 d).on hb, e56 := fun d => (h.e56 d).on hb, e2 := fun _ => hv }⟩
    · intro L s w2 h hk hd hn
      have gq := h.e1 hd.1
      have s2 : s 2 = _ := hk 2 (by kernel_rfl)
      have b := (h.bel.block _ (lt_of_block HBB.out)).trans HBB.out
      have c0 := cell_two0 b
      have c1 := cell_two1 b
      refine stepS (by simp [Region.wanted, yieldS, gq]) fun K hK => ?_
      go_simp
      exact hK _ _ { h with e3 := fun _ => rfl }
    · intro L s w2 h hk hd hn
      have gq := h.e1 hd.2.1
      refine stepS (by simp [Region.wanted, yieldS, gq]) fun K hK => ?_
      go_simp
      refine (kn8_4 _).mono ?_
      rintro e w3 ⟨rfl, hb⟩
      exact ⟨_, rfl, hK _ _ { h with bel := below_step h.bel hb, e2 := fun d => (h.e2 d).on hb, e11 := fun d => (h.e11 d).on hb, e20 := fun d => (h.e20 d).on hb, e29 := fun d => (h.e29 d).on hb, e38 := fun d => (h.e38 d).on hb, e47 := fun d => (h.e47 d).on hb, e56 := fun d => (h.e56 d).on hb, e4 := fun _ => rfl }⟩
    · intro L s w2 h hk hd hn
      have gq := h.e1 hd.2.2.2.1
      have s199 := h.e3 hd.1
      have s200 := h.e4 hd.2.1
      refine stepS (by simp [Region.wanted, yieldS, gq]) fun K hK => ?_
      go_simp
      refine (kn8_5 _).mono ?_
      rintro e w3 ⟨rfl, hb⟩
      exact ⟨_, rfl, hK _ _ { h with bel := below_step h.bel hb, e2 := fun d => (h.e2 d).on hb, e11 := fun d => (h.e11 d).on hb, e20 := fun d => (h.e20 d).on hb, e29 := fun d => (h.e29 d).on hb, e38 := fun d => (h.e38 d).on hb, e47 := fun d => (h.e47 d).on hb, e56 := fun d => (h.e56 d).on hb, e5 := fun _ => rfl }⟩
    · intro L s w2 h hk hd hn
      have gq := h.e1 hd.2.1
      have s201 := h.e5 hd.1
      refine stepS (by simp [Region.wanted, yieldS, gq]) fun K hK => ?_
      go_simp
      exact hK _ _ { h with e6 := fun _ => rfl }
    · intro L s w2 h hk hd hn
      have gq := h.e1 hd.2.1
      have s201 := h.e5 hd.1
      refine stepS (by simp [Region.wanted, yieldS, gq]) fun K hK => ?_
      go_simp
      exact hK _ _ { h with e7 := fun _ => rfl }
    · intro L s w2 h hk hd hn
      have gq := h.e1 hd.2.2.2.2.1
      have s202 := h.e6 hd.2.1
      have s203 := h.e7 hd.2.2.1
      obtain ⟨Q, sF, hQ⟩ := h.e2 hd.1
      refine stepS (by simp [Region.wanted, yieldS, gq]) fun K hK => ?_
      go_simp
      refine (fl1_at hQ).mono ?_
      rintro e w3 ⟨rfl, hb⟩
      exact ⟨_, rfl, hK _ _ { h with bel := below_step h.bel hb, e2 := fun d => (h.e2 d).on hb, e11 := fun d => (h.e11 d).on hb, e20 := fun d => (h.e20 d).on hb, e29 := fun d => (h.e29 d).on hb, e38 := fun d => (h.e38 d).on hb, e47 := fun d => (h.e47 d).on hb, e56 := fun d => (h.e56 d).on hb, e8 := fun _ => rfl }⟩
    · intro L s w2 h hk hd hn
      have s197 := h.e1 hd.1
      have s204 := h.e8 hd.2.1
      refine stepS rfl fun K hK => ?_
      go_simp
      exact hK _ _ { h with e9 := fun _ => rfl }
    · intro L s w2 h hk hd hn
      have s205 := h.e9 hd.1
      refine stepS rfl fun K hK => ?_
      go_simp
      exact hK _ _ { h with e10 := fun _ => rfl }
    · intro L s w2 h hk hd hn
      have gq := h.e10 hd.1
      refine stepS (by simp [Region.wanted, yieldS, gq]) fun K hK => ?_
      go_simp
      refine (fl_at 7 _).mono ?_
      rintro e w3 ⟨v, rfl, hv, hb⟩
      exact ⟨_, rfl, hK _ _ { h with bel := below_step h.bel hb, e2 := fun d => (h.e2 d).on hb, e20 := fun d => (h.e20 d).on hb, e29 := fun d => (h.e29 d).on hb, e38 := fun d => (h.e38 d).on hb, e47 := fun d => (h.e47 d).on hb, e56 := fun d => (h.e56 d).on hb, e11 := fun _ => hv }⟩
    · intro L s w2 h hk hd hn
      have gq := h.e10 hd.1
      have s3 : s 3 = _ := hk 3 (by kernel_rfl)
      have b := (h.bel.block _ (lt_of_block HBO.out)).trans HBO.out
      have c0 := cell_two0 b
      have c1 := cell_two1 b
      refine stepS (by simp [Region.wanted, yieldS, gq]) fun K hK => ?_
      go_simp
      exact hK _ _ { h with e12 := fun _ => rfl }
    · intro L s w2 h hk hd hn
      have gq := h.e10 hd.1
      refine stepS (by simp [Region.wanted, yieldS, gq]) fun K hK => ?_
      go_simp
      exact hK _ _ { h with e13 := fun _ => rfl }
    · intro L s w2 h hk hd hn
      have gq := h.e10 hd.2.2.2.1
      have s208 := h.e12 hd.1
      have s209 := h.e13 hd.2.1
      refine stepS (by simp [Region.wanted, yieldS, gq]) fun K hK => ?_
      go_simp
      refine (kn8_14 _).mono ?_
      rintro e w3 ⟨rfl, hb⟩
      exact ⟨_, rfl, hK _ _ { h with bel := below_step h.bel hb, e2 := fun d => (h.e2 d).on hb, e11 := fun d => (h.e11 d).on hb, e20 := fun d => (h.e20 d).on hb, e29 := fun d => (h.e29 d).on hb, e38 := fun d => (h.e38 d).on hb, e47 := fun d => (h.e47 d).on hb, e56 := fun d => (h.e56 d).on hb, e14 := fun _ => rfl }⟩
    · intro L s w2 h hk hd hn
      have gq := h.e10 hd.2.1
      have s210 := h.e14 hd.1
      refine stepS (by simp [Region.wanted, yieldS, gq]) fun K hK => ?_
      go_simp
      exact hK _ _ { h with e15 := fun _ => rfl }
    · intro L s w2 h hk hd hn
      have gq := h.e10 hd.2.1
      have s210 := h.e14 hd.1
      refine stepS (by simp [Region.wanted, yieldS, gq]) fun K hK => ?_
      go_simp
      exact hK _ _ { h with e16 := fun _ => rfl }
    · intro L s w2 h hk hd hn
      have gq := h.e10 hd.2.2.2.2.1
      have s211 := h.e15 hd.2.1
      have s212 := h.e16 hd.2.2.1
      obtain ⟨Q, sF, hQ⟩ := h.e11 hd.1
      refine stepS (by simp [Region.wanted, yieldS, gq]) fun K hK => ?_
      go_simp
      refine (fl1_at hQ).mono ?_
      rintro e w3 ⟨rfl, hb⟩
      exact ⟨_, rfl, hK _ _ { h with bel := below_step h.bel hb, e2 := fun d => (h.e2 d).on hb, e11 := fun d => (h.e11 d).on hb, e20 := fun d => (h.e20 d).on hb, e29 := fun d => (h.e29 d).on hb, e38 := fun d => (h.e38 d).on hb, e47 := fun d => (h.e47 d).on hb, e56 := fun d => (h.e56 d).on hb, e17 := fun _ => rfl }⟩
    · intro L s w2 h hk hd hn
      have s206 := h.e10 hd.1
      have s213 := h.e17 hd.2.1
      refine stepS rfl fun K hK => ?_
      go_simp
      exact hK _ _ { h with e18 := fun _ => rfl }
    · intro L s w2 h hk hd hn
      have s214 := h.e18 hd.1
      refine stepS rfl fun K hK => ?_
      go_simp
      exact hK _ _ { h with e19 := fun _ => rfl }
    · intro L s w2 h hk hd hn
      have gq := h.e19 hd.1
      refine stepS (by simp [Region.wanted, yieldS, gq]) fun K hK => ?_
      go_simp
      refine (fl_at 7 _).mono ?_
      rintro e w3 ⟨v, rfl, hv, hb⟩
      exact ⟨_, rfl, hK _ _ { h with bel := below_step h.bel hb, e2 := fun d => (h.e2 d).on hb, e11 := fun d => (h.e11 d).on hb, e29 := fun d => (h.e29 d).on hb, e38 := fun d => (h.e38 d).on hb, e47 := fun d => (h.e47 d).on hb, e56 := fun d => (h.e56 d).on hb, e20 := fun _ => hv }⟩
    · intro L s w2 h hk hd hn
      have gq := h.e19 hd.1
      have s3 : s 3 = _ := hk 3 (by kernel_rfl)
      have b := (h.bel.block _ (lt_of_block HBO.out)).trans HBO.out
      have c0 := cell_two0 b
      have c1 := cell_two1 b
      refine stepS (by simp [Region.wanted, yieldS, gq]) fun K hK => ?_
      go_simp
      exact hK _ _ { h with e21 := fun _ => rfl }
    · intro L s w2 h hk hd hn
      have gq := h.e19 hd.1
      have s1 : s 1 = _ := hk 1 (by kernel_rfl)
      have b := (h.bel.block _ (lt_of_block HBM.out)).trans HBM.out
      have c0 := cell_two0 b
      have c1 := cell_two1 b
      refine stepS (by simp [Region.wanted, yieldS, gq]) fun K hK => ?_
      go_simp
      exact hK _ _ { h with e22 := fun _ => rfl }
    · intro L s w2 h hk hd hn
      have gq := h.e19 hd.2.2.2.1
      have s217 := h.e21 hd.1
      have s218 := h.e22 hd.2.1
      refine stepS (by simp [Region.wanted, yieldS, gq]) fun K hK => ?_
      go_simp
      refine (kn8_23 _).mono ?_
      rintro e w3 ⟨rfl, hb⟩
      exact ⟨_, rfl, hK _ _ { h with bel := below_step h.bel hb, e2 := fun d => (h.e2 d).on hb, e11 := fun d => (h.e11 d).on hb, e20 := fun d => (h.e20 d).on hb, e29 := fun d => (h.e29 d).on hb, e38 := fun d => (h.e38 d).on hb, e47 := fun d => (h.e47 d).on hb, e56 := fun d => (h.e56 d).on hb, e23 := fun _ => rfl }⟩
    · intro L s w2 h hk hd hn
      have gq := h.e19 hd.2.1
      have s219 := h.e23 hd.1
      refine stepS (by simp [Region.wanted, yieldS, gq]) fun K hK => ?_
      go_simp
      exact hK _ _ { h with e24 := fun _ => rfl }
    · intro L s w2 h hk hd hn
      have gq := h.e19 hd.2.1
      have s219 := h.e23 hd.1
      refine stepS (by simp [Region.wanted, yieldS, gq]) fun K hK => ?_
      go_simp
      exact hK _ _ { h with e25 := fun _ => rfl }
    · intro L s w2 h hk hd hn
      have gq := h.e19 hd.2.2.2.2.1
      have s220 := h.e24 hd.2.1
      have s221 := h.e25 hd.2.2.1
      obtain ⟨Q, sF, hQ⟩ := h.e20 hd.1
      refine stepS (by simp [Region.wanted, yieldS, gq]) fun K hK => ?_
      go_simp
      refine (fl1_at hQ).mono ?_
      rintro e w3 ⟨rfl, hb⟩
      exact ⟨_, rfl, hK _ _ { h with bel := below_step h.bel hb, e2 := fun d => (h.e2 d).on hb, e11 := fun d => (h.e11 d).on hb, e20 := fun d => (h.e20 d).on hb, e29 := fun d => (h.e29 d).on hb, e38 := fun d => (h.e38 d).on hb, e47 := fun d => (h.e47 d).on hb, e56 := fun d => (h.e56 d).on hb, e26 := fun _ => rfl }⟩
    · intro L s w2 h hk hd hn
      have s215 := h.e19 hd.1
      have s222 := h.e26 hd.2.1
      refine stepS rfl fun K hK => ?_
      go_simp
      exact hK _ _ { h with e27 := fun _ => rfl }
    · intro L s w2 h hk hd hn
      have s223 := h.e27 hd.1
      refine stepS rfl fun K hK => ?_
      go_simp
      exact hK _ _ { h with e28 := fun _ => rfl }
    · intro L s w2 h hk hd hn
      have gq := h.e28 hd.1
      refine stepS (by simp [Region.wanted, yieldS, gq]) fun K hK => ?_
      go_simp
      refine (fl_at 6 _).mono ?_
      rintro e w3 ⟨v, rfl, hv, hb⟩
      exact ⟨_, rfl, hK _ _ { h with bel := below_step h.bel hb, e2 := fun d => (h.e2 d).on hb, e11 := fun d => (h.e11 d).on hb, e20 := fun d => (h.e20 d).on hb, e38 := fun d => (h.e38 d).on hb, e47 := fun d => (h.e47 d).on hb, e56 := fun d => (h.e56 d).on hb, e29 := fun _ => hv }⟩
    · intro L s w2 h hk hd hn
      have gq := h.e28 hd.1
      have s3 : s 3 = _ := hk 3 (by kernel_rfl)
      have b := (h.bel.block _ (lt_of_block HBO.out)).trans HBO.out
      have c0 := cell_two0 b
      have c1 := cell_two1 b
      refine stepS (by simp [Region.wanted, yieldS, gq]) fun K hK => ?_
      go_simp
      exact hK _ _ { h with e30 := fun _ => rfl }
    · intro L s w2 h hk hd hn
      have gq := h.e28 hd.1
      refine stepS (by simp [Region.wanted, yieldS, gq]) fun K hK => ?_
      go_simp
      exact hK _ _ { h with e31 := fun _ => rfl }
    · intro L s w2 h hk hd hn
      have gq := h.e28 hd.2.2.2.1
      have s226 := h.e30 hd.1
      have s227 := h.e31 hd.2.1
      refine stepS (by simp [Region.wanted, yieldS, gq]) fun K hK => ?_
      go_simp
      refine (kn8_32 _).mono ?_
      rintro e w3 ⟨rfl, hb⟩
      exact ⟨_, rfl, hK _ _ { h with bel := below_step h.bel hb, e2 := fun d => (h.e2 d).on hb, e11 := fun d => (h.e11 d).on hb, e20 := fun d => (h.e20 d).on hb, e29 := fun d => (h.e29 d).on hb, e38 := fun d => (h.e38 d).on hb, e47 := fun d => (h.e47 d).on hb, e56 := fun d => (h.e56 d).on hb, e32 := fun _ => rfl }⟩
    · intro L s w2 h hk hd hn
      have gq := h.e28 hd.2.1
      have s228 := h.e32 hd.1
      refine stepS (by simp [Region.wanted, yieldS, gq]) fun K hK => ?_
      go_simp
      exact hK _ _ { h with e33 := fun _ => rfl }
    · intro L s w2 h hk hd hn
      have gq := h.e28 hd.2.1
      have s228 := h.e32 hd.1
      refine stepS (by simp [Region.wanted, yieldS, gq]) fun K hK => ?_
      go_simp
      exact hK _ _ { h with e34 := fun _ => rfl }
    · intro L s w2 h hk hd hn
      have gq := h.e28 hd.2.2.2.2.1
      have s229 := h.e33 hd.2.1
      have s230 := h.e34 hd.2.2.1
      obtain ⟨Q, sF, hQ⟩ := h.e29 hd.1
      refine stepS (by simp [Region.wanted, yieldS, gq]) fun K hK => ?_
      go_simp
      refine (fl1_at hQ).mono ?_
      rintro e w3 ⟨rfl, hb⟩
      exact ⟨_, rfl, hK _ _ { h with bel := below_step h.bel hb, e2 := fun d => (h.e2 d).on hb, e11 := fun d => (h.e11 d).on hb, e20 := fun d => (h.e20 d).on hb, e29 := fun d => (h.e29 d).on hb, e38 := fun d => (h.e38 d).on hb, e47 := fun d => (h.e47 d).on hb, e56 := fun d => (h.e56 d).on hb, e35 := fun _ => rfl }⟩
    · intro L s w2 h hk hd hn
      have s224 := h.e28 hd.1
      have s231 := h.e35 hd.2.1
      refine stepS rfl fun K hK => ?_
      go_simp
      exact hK _ _ { h with e36 := fun _ => rfl }
    · intro L s w2 h hk hd hn
      have s232 := h.e36 hd.1
      refine stepS rfl fun K hK => ?_
      go_simp
      exact hK _ _ { h with e37 := fun _ => rfl }
    · intro L s w2 h hk hd hn
      have gq := h.e37 hd.1
      refine stepS (by simp [Region.wanted, yieldS, gq]) fun K hK => ?_
      go_simp
      refine (fl_at 2 _).mono ?_
      rintro e w3 ⟨v, rfl, hv, hb⟩
      exact ⟨_, rfl, hK _ _ { h with bel := below_step h.bel hb, e2 := fun d => (h.e2 d).on hb, e11 := fun d => (h.e11 d).on hb, e20 := fun d => (h.e20 d).on hb, e29 := fun d => (h.e29 d).on hb, e47 := fun d => (h.e47 d).on hb, e56 := fun d => (h.e56 d).on hb, e38 := fun _ => hv }⟩
    · intro L s w2 h hk hd hn
      have gq := h.e37 hd.1
      refine stepS (by simp [Region.wanted, yieldS, gq]) fun K hK => ?_
      go_simp
      exact hK _ _ { h with e39 := fun _ => rfl }
    · intro L s w2 h hk hd hn
      have gq := h.e37 hd.2.2.1
      have s235 := h.e39 hd.1
      refine stepS (by simp [Region.wanted, yieldS, gq]) fun K hK => ?_
      go_simp
      refine (kn8_40 _).mono ?_
      rintro e w3 ⟨rfl, hb⟩
      exact ⟨_, rfl, hK _ _ { h with bel := below_step h.bel hb, e2 := fun d => (h.e2 d).on hb, e11 := fun d => (h.e11 d).on hb, e20 := fun d => (h.e20 d).on hb, e29 := fun d => (h.e29 d).on hb, e38 := fun d => (h.e38 d).on hb, e47 := fun d => (h.e47 d).on hb, e56 := fun d => (h.e56 d).on hb, e40 := fun _ => rfl }⟩
    · intro L s w2 h hk hd hn
      have gq := h.e37 hd.2.1
      have s236 := h.e40 hd.1
      refine stepS (by simp [Region.wanted, yieldS, gq]) fun K hK => ?_
      go_simp
      exact hK _ _ { h with e41 := fun _ => rfl }
    · intro L s w2 h hk hd hn
      have gq := h.e37 hd.2.1
      have s236 := h.e40 hd.1
      refine stepS (by simp [Region.wanted, yieldS, gq]) fun K hK => ?_
      go_simp
      exact hK _ _ { h with e42 := fun _ => rfl }
    · intro L s w2 h hk hd hn
      have gq := h.e37 hd.2.2.2.2.1
      have s237 := h.e41 hd.2.1
      have s238 := h.e42 hd.2.2.1
      obtain ⟨Q, sF, hQ⟩ := h.e38 hd.1
      refine stepS (by simp [Region.wanted, yieldS, gq]) fun K hK => ?_
      go_simp
      refine (fl1_at hQ).mono ?_
      rintro e w3 ⟨rfl, hb⟩
      exact ⟨_, rfl, hK _ _ { h with bel := below_step h.bel hb, e2 := fun d => (h.e2 d).on hb, e11 := fun d => (h.e11 d).on hb, e20 := fun d => (h.e20 d).on hb, e29 := fun d => (h.e29 d).on hb, e38 := fun d => (h.e38 d).on hb, e47 := fun d => (h.e47 d).on hb, e56 := fun d => (h.e56 d).on hb, e43 := fun _ => rfl }⟩
    · intro L s w2 h hk hd hn
      have s233 := h.e37 hd.1
      have s239 := h.e43 hd.2.1
      refine stepS rfl fun K hK => ?_
      go_simp
      exact hK _ _ { h with e44 := fun _ => rfl }
    · intro L s w2 h hk hd hn
      have s240 := h.e44 hd.1
      refine stepS rfl fun K hK => ?_
      go_simp
      exact hK _ _ { h with e45 := fun _ => rfl }
    · intro L s w2 h hk hd hn
      have gq := h.e45 hd.1
      refine stepS (by simp [Region.wanted, yieldS, gq]) fun K hK => ?_
      go_simp
      exact hK _ _ { h with e46 := fun _ => rfl }
    · intro L s w2 h hk hd hn
      have gq := h.e45 hd.2.1
      have s242 := h.e46 hd.1
      refine stepS (by simp [Region.wanted, yieldS, gq]) fun K hK => ?_
      go_simp
      refine (is_at 0 0 _).mono ?_
      rintro e w3 ⟨v, rfl, hv, hb⟩
      exact ⟨_, rfl, hK _ _ { h with bel := below_step h.bel hb, e2 := fun d => (h.e2 d).on hb, e11 := fun d => (h.e11 d).on hb, e20 := fun d => (h.e20 d).on hb, e29 := fun d => (h.e29 d).on hb, e38 := fun d => (h.e38 d).on hb, e56 := fun d => (h.e56 d).on hb, e47 := fun _ => hv }⟩
    · intro L s w2 h hk hd hn
      have gq := h.e45 hd.1
      refine stepS (by simp [Region.wanted, yieldS, gq]) fun K hK => ?_
      go_simp
      exact hK _ _ { h with e48 := fun _ => rfl }
    · intro L s w2 h hk hd hn
      have gq := h.e45 hd.2.2.1
      have s244 := h.e48 hd.1
      refine stepS (by simp [Region.wanted, yieldS, gq]) fun K hK => ?_
      go_simp
      refine (kn8_49 _).mono ?_
      rintro e w3 ⟨rfl, hb⟩
      exact ⟨_, rfl, hK _ _ { h with bel := below_step h.bel hb, e2 := fun d => (h.e2 d).on hb, e11 := fun d => (h.e11 d).on hb, e20 := fun d => (h.e20 d).on hb, e29 := fun d => (h.e29 d).on hb, e38 := fun d => (h.e38 d).on hb, e47 := fun d => (h.e47 d).on hb, e56 := fun d => (h.e56 d).on hb, e49 := fun _ => rfl }⟩
    · intro L s w2 h hk hd hn
      have gq := h.e45 hd.2.1
      have s245 := h.e49 hd.1
      refine stepS (by simp [Region.wanted, yieldS, gq]) fun K hK => ?_
      go_simp
      exact hK _ _ { h with e50 := fun _ => rfl }
    · intro L s w2 h hk hd hn
      have gq := h.e45 hd.2.1
      have s245 := h.e49 hd.1
      refine stepS (by simp [Region.wanted, yieldS, gq]) fun K hK => ?_
      go_simp
      exact hK _ _ { h with e51 := fun _ => rfl }
    · intro L s w2 h hk hd hn
      have gq := h.e45 hd.2.2.2.2.1
      have s246 := h.e50 hd.2.1
      have s247 := h.e51 hd.2.2.1
      obtain ⟨Q, sF, hQ⟩ := h.e47 hd.1
      refine stepS (by simp [Region.wanted, yieldS, gq]) fun K hK => ?_
      go_simp
      refine (is1_at hQ).mono ?_
      rintro e w3 ⟨rfl, hb⟩
      exact ⟨_, rfl, hK _ _ { h with bel := below_step h.bel hb, e2 := fun d => (h.e2 d).on hb, e11 := fun d => (h.e11 d).on hb, e20 := fun d => (h.e20 d).on hb, e29 := fun d => (h.e29 d).on hb, e38 := fun d => (h.e38 d).on hb, e47 := fun d => (h.e47 d).on hb, e56 := fun d => (h.e56 d).on hb, e52 := fun _ => rfl }⟩
    · intro L s w2 h hk hd hn
      have s241 := h.e45 hd.1
      have s248 := h.e52 hd.2.1
      refine stepS rfl fun K hK => ?_
      go_simp
      exact hK _ _ { h with e53 := fun _ => rfl }
    · intro L s w2 h hk hd hn
      have s249 := h.e53 hd.1
      refine stepS rfl fun K hK => ?_
      go_simp
      exact hK _ _ { h with e54 := fun _ => rfl }
    · intro L s w2 h hk hd hn
      have gq := h.e54 hd.1
      refine stepS (by simp [Region.wanted, yieldS, gq]) fun K hK => ?_
      go_simp
      exact hK _ _ { h with e55 := fun _ => rfl }
    · intro L s w2 h hk hd hn
      have gq := h.e54 hd.2.1
      have s251 := h.e55 hd.1
      refine stepS (by simp [Region.wanted, yieldS, gq]) fun K hK => ?_
      go_simp
      refine (is_at 0 4398046511104 _).mono ?_
      rintro e w3 ⟨v, rfl, hv, hb⟩
      exact ⟨_, rfl, hK _ _ { h with bel := below_step h.bel hb, e2 := fun d => (h.e2 d).on hb, e11 := fun d => (h.e11 d).on hb, e20 := fun d => (h.e20 d).on hb, e29 := fun d => (h.e29 d).on hb, e38 := fun d => (h.e38 d).on hb, e47 := fun d => (h.e47 d).on hb, e56 := fun _ => hv }⟩
    · intro L s w2 h hk hd hn
      have gq := h.e54 hd.1
      refine stepS (by simp [Region.wanted, yieldS, gq]) fun K hK => ?_
      go_simp
      exact hK _ _ { h with e57 := fun _ => rfl }
    · intro L s w2 h hk hd hn
      have gq := h.e54 hd.2.2.1
      have s253 := h.e57 hd.1
      refine stepS (by simp [Region.wanted, yieldS, gq]) fun K hK => ?_
      go_simp
      refine (kn8_58 _).mono ?_
      rintro e w3 ⟨rfl, hb⟩
      exact ⟨_, rfl, hK _ _ { h with bel := below_step h.bel hb, e2 := fun d => (h.e2 d).on hb, e11 := fun d => (h.e11 d).on hb, e20 := fun d => (h.e20 d).on hb, e29 := fun d => (h.e29 d).on hb, e38 := fun d => (h.e38 d).on hb, e47 := fun d => (h.e47 d).on hb, e56 := fun d => (h.e56 d).on hb, e58 := fun _ => rfl }⟩
    · intro L s w2 h hk hd hn
      have gq := h.e54 hd.2.1
      have s254 := h.e58 hd.1
      refine stepS (by simp [Region.wanted, yieldS, gq]) fun K hK => ?_
      go_simp
      exact hK _ _ { h with e59 := fun _ => rfl }
    · intro L s w2 h hk hd hn
      have gq := h.e54 hd.2.1
      have s254 := h.e58 hd.1
      refine stepS (by simp [Region.wanted, yieldS, gq]) fun K hK => ?_
      go_simp
      exact hK _ _ { h with e60 := fun _ => rfl }
    · intro L s w2 h hk hd hn
      have gq := h.e54 hd.2.2.2.2.1
      have s255 := h.e59 hd.2.1
      have s256 := h.e60 hd.2.2.1
      obtain ⟨Q, sF, hQ⟩ := h.e56 hd.1
      refine stepS (by simp [Region.wanted, yieldS, gq]) fun K hK => ?_
      go_simp
      refine (is1_at hQ).mono ?_
      rintro e w3 ⟨rfl, hb⟩
      exact ⟨_, rfl, hK _ _ { h with bel := below_step h.bel hb, e2 := fun d => (h.e2 d).on hb, e11 := fun d => (h.e11 d).on hb, e20 := fun d => (h.e20 d).on hb, e29 := fun d => (h.e29 d).on hb, e38 := fun d => (h.e38 d).on hb, e47 := fun d => (h.e47 d).on hb, e56 := fun d => (h.e56 d).on hb, e61 := fun _ => rfl }⟩
    · intro L s w2 h hk hd hn
      have s250 := h.e54 hd.1
      have s257 := h.e61 hd.2.1
      refine stepS rfl fun K hK => ?_
      go_simp
      exact hK _ _ { h with e62 := fun _ => rfl }
    · intro L s w2 h hk hd hn
      have s258 := h.e62 hd.1
      refine stepS rfl fun K hK => ?_
      go_simp
      exact hK _ _ { h with e63 := fun _ => rfl, o4 := fun d => Bool.noConfusion (show true = false from d), dl := fun _ => hd.2.2.1 }
  intro L s wc h hk hl a ha
  have k1 : s 1 = .pointer (some ⟨M, 0, none⟩) := hk 1 (by kernel_rfl)
  have k2 : s 2 = .pointer (some ⟨B, 0, none⟩) := hk 2 (by kernel_rfl)
  have k3 : s 3 = .pointer (some ⟨O, 0, none⟩) := hk 3 (by kernel_rfl)
  have k4 : s 4 = .bool true := h.e63 (hl 63 (by decide))
  replace ha := ha.trans (show actS _ s [] = ⟨#[s 0, s 1, s 2, s 3, s 4, s 5, s 6, s 7, s 8, s 9, s 10, s 11, s 12, s 13, s 14, s 15, s 16, s 17, s 18, s 19, s 20, s 21, s 22, s 23, s 24, s 25, s 26, s 27, s 28, s 29, s 30, s 31, s 32, s 33, s 34, s 35, s 36, s 37, s 38, s 39, s 40, s 41, s 42, s 43, s 44, s 45, s 46, s 47, s 48, s 49, s 50, s 51, s 52, s 53, s 54, s 55, s 56, s 57, s 58, s 59, s 60, s 61, s 62, s 63, s 64, s 65, s 66, s 67, s 68, s 69, s 70, s 71, s 72, s 73, s 74, s 75, s 76, s 77, s 78, s 79, s 80, s 81, s 82, s 83, s 84, s 85, s 86, s 87, s 88, s 89, s 90, s 91, s 92, s 93, s 94, s 95, s 96, s 97, s 98, s 99, s 100, s 101, s 102, s 103, s 104, s 105, s 106, s 107, s 108, s 109, s 110, s 111, s 112, s 113, s 114, s 115, s 116, s 117, s 118, s 119, s 120, s 121, s 122, s 123, s 124, s 125, s 126, s 127, s 128, s 129, s 130, s 131, s 132, s 133, s 134, s 135, s 136, s 137, s 138, s 139, s 140, s 141, s 142, s 143, s 144, s 145, s 146, s 147, s 148, s 149, s 150, s 151, s 152, s 153, s 154, s 155, s 156, s 157, s 158, s 159, s 160, s 161, s 162, s 163, s 164, s 165, s 166, s 167, s 168, s 169, s 170, s 171, s 172, s 173, s 174, s 175, s 176, s 177, s 178, s 179, s 180, s 181, s 182, s 183, s 184, s 185, s 186, s 187, s 188, s 189, s 190, s 191, s 192, s 193, s 194, s 195, s 196, s 197, s 198, s 199, s 200, s 201, s 202, s 203, s 204, s 205, s 206, s 207, s 208, s 209, s 210, s 211, s 212, s 213, s 214, s 215, s 216, s 217, s 218, s 219, s 220, s 221, s 222, s 223, s 224, s 225, s 226, s 227, s 228, s 229, s 230, s 231, s 232, s 233, s 234, s 235, s 236, s 237, s 238, s 239, s 240, s 241, s 242, s 243, s 244, s 245, s 246, s 247, s 248, s 249, s 250, s 251, s 252, s 253, s 254, s 255, s 256, s 257, s 258, s 259, s 260, s 261, s 262, s 263, s 264, s 265, s 266, s 267, s 268, s 269, s 270, s 271, s 272, s 273, s 274, s 275, s 276, s 277, s 278, s 279, s 280, s 281, s 282, s 283, s 284, s 285, s 286, s 287, s 288, s 289, s 290, s 291, s 292, s 293, s 294, s 295, s 296, s 297, s 298, s 299, s 300, s 301, s 302, s 303, s 304, s 305, s 306, s 307, s 308, s 309, s 310, s 311, s 312, s 313, s 314, s 315, s 316, s 317, s 318, s 319, s 320, s 321, s 322, s 323, s 324, s 325, s 326, s 327, s 328, s 329, s 330, s 331, s 332, s 333, s 334, s 335, s 336, s 337, s 338, s 339, s 340, s 341, s 342, s 343, s 344, s 345, s 346, s 347, s 348, s 349, s 350, s 351, s 352, s 353, s 354, s 355, s 356, s 357, s 358, s 359, s 360, s 361, s 362, s 363, s 364, s 365, s 366, s 367, s 368, s 369, s 370, s 371, s 372, s 373, s 374, s 375, s 376, s 377, s 378, s 379, s 380, s 381, s 382, s 383, s 384, s 385, s 386, s 387, s 388, s 389, s 390, s 391, s 392, s 393, s 394, s 395, s 396, s 397, s 398, s 399, s 400, s 401, s 402, s 403, s 404, s 405, s 406, s 407, s 408, s 409, s 410, s 411, s 412, s 413, s 414, s 415, s 416, s 417, s 418, s 419, s 420, s 421, s 422, s 423, s 424, s 425], []⟩ by kernel_rfl)
  rw [k1, k2, k3, k4] at ha
  subst ha
  replace HK := Lib.hid (HK.out.on h.bel)
  clear h hk hl k1 k2 k3 k4 HBO HBB HBM HPW
  go_upto_region 9 with (fail)
  have HBO := Lib.hid (HK.out.blk (O, .cells #[.int .i64 4294967296, .int .i64 4294967296] 23 (0, 0)) (.head _))
  have HBB := Lib.hid (HK.out.blk (B, .cells #[.int .i64 1, .int .i64 0] 23 (0, 0)) (.tail _ (.head _)))
  have HBM := Lib.hid (HK.out.blk (M, .cells #[.int .i64 (-4503599627370496), .int .i64 4503599627370496] 23 (0, 0)) (.tail _ (.tail _ (.head _))))
  have HPW := Lib.hid (HP.out.below HK.out.bel)
  refine wp_region_go (Kn9 wc M B O) (by kernel_rfl) (by kernel_rfl) ?_ ?_ ?_
  · exact ⟨(Below.refl _ _).drew, fun _ => rfl, fun h => absurd h Bool.false_ne_true, fun h => absurd h Bool.false_ne_true, fun h => absurd h Bool.false_ne_true, fun h => absurd h Bool.false_ne_true, fun h => absurd h Bool.false_ne_true, fun h => absurd h Bool.false_ne_true, fun h => absurd h Bool.false_ne_true, fun h => absurd h Bool.false_ne_true, fun h => absurd h Bool.false_ne_true, fun h => absurd h Bool.false_ne_true, fun h => absurd h Bool.false_ne_true, fun h => absurd h Bool.false_ne_true, fun h => absurd h Bool.false_ne_true, fun h => absurd h Bool.false_ne_true, fun h => absurd h Bool.false_ne_true, fun h => absurd h Bool.false_ne_true, fun h => absurd h Bool.false_ne_true, fun h => absurd h Bool.false_ne_true, fun h => absurd h Bool.false_ne_true, fun h => absurd h Bool.false_ne_true, fun h => absurd h Bool.false_ne_true, fun h => absurd h Bool.false_ne_true, fun h => absurd h Bool.false_ne_true, fun h => absurd h Bool.false_ne_true, fun h => absurd h Bool.false_ne_true, fun h => absurd h Bool.false_ne_true, fun h => absurd h Bool.false_ne_true, fun h => absurd h Bool.false_ne_true, fun h => absurd h Bool.false_ne_true, fun h => absurd h Bool.false_ne_true, fun h => absurd h Bool.false_ne_true, fun h => absurd h Bool.false_ne_true, fun h => absurd h Bool.false_ne_true, fun h => absurd h Bool.false_ne_true, fun h => absurd h Bool.false_ne_true, fun h => absurd h Bool.false_ne_true, fun h => absurd h Bool.false_ne_true, fun h => absurd h Bool.false_ne_true, fun h => absurd h Bool.false_ne_true, fun h => absurd h Bool.false_ne_true, fun h => absurd h Bool.false_ne_true, fun h => absurd h Bool.false_ne_true, fun h => absurd h Bool.false_ne_true, fun h => absurd h Bool.false_ne_true, fun h => absurd h Bool.false_ne_true, fun h => absurd h Bool.false_ne_true, fun h => absurd h Bool.false_ne_true, fun h => absurd h Bool.false_ne_true, fun h => absurd h Bool.false_ne_true, fun h => absurd h Bool.false_ne_true, fun h => absurd h Bool.false_ne_true, fun h => absurd h Bool.false_ne_true, fun h => absurd h Bool.false_ne_true, fun h => absurd h Bool.false_ne_true, fun h => absurd h Bool.false_ne_true, fun h => absurd h Bool.false_ne_true, fun h => absurd h Bool.false_ne_true, fun h => absurd h Bool.false_ne_true, fun h => absurd h Bool.false_ne_true, fun h => absurd h Bool.false_ne_true, fun h => absurd h Bool.false_ne_true, fun h => absurd h Bool.false_ne_true⟩
  · refine AllS.consN 1 (some 259) rfl rfl ?_ (AllS.consN 2 (some 260) rfl rfl ?_ (AllS.consN 3 (some 261) rfl rfl ?_ (AllS.consN 4 (some 262) rfl rfl ?_ (AllS.consN 5 (some 263) rfl rfl ?_ (AllS.consN 6 (some 264) rfl rfl ?_ (AllS.consN 7 (some 265) rfl rfl ?_ (AllS.consN 8 (some 266) rfl rfl ?_ (AllS.consN 9 (some 267) rfl rfl ?_ (AllS.consN 10 (some 268) rfl rfl ?_ (AllS.consN 11 (some 269) rfl rfl ?_ (AllS.consN 12 (some 270) rfl rfl ?_ (AllS.consN 13 (some 271) rfl rfl ?_ (AllS.consN 14 (some 272) rfl rfl ?_ (AllS.consN 15 (some 273) rfl rfl ?_ (AllS.consN 16 (some 274) rfl rfl ?_ (AllS.consN 17 (some 275) rfl rfl ?_ (AllS.consN 18 (some 276) rfl rfl ?_ (AllS.consN 19 (some 277) rfl rfl ?_ (AllS.consN 20 (some 278) rfl rfl ?_ (AllS.consN 21 (some 279) rfl rfl ?_ (AllS.consN 22 (some 280) rfl rfl ?_ (AllS.consN 23 (some 281) rfl rfl ?_ (AllS.consN 24 (some 282) rfl rfl ?_ (AllS.consN 25 (some 283) rfl rfl ?_ (AllS.consN 26 (some 284) rfl rfl ?_ (AllS.consN 27 (some 285) rfl rfl ?_ (AllS.consN 28 (some 286) rfl rfl ?_ (AllS.consN 29 (some 287) rfl rfl ?_ (AllS.consN 30 (some 288) rfl rfl ?_ (AllS.consN 31 (some 289) rfl rfl ?_ (AllS.consN 32 (some 290) rfl rfl ?_ (AllS.consN 33 (some 291) rfl rfl ?_ (AllS.consN 34 (some 292) rfl rfl ?_ (AllS.consN 35 (some 293) rfl rfl ?_ (AllS.consN 36 (some 294) rfl rfl ?_ (AllS.consN 37 (some 295) rfl rfl ?_ (AllS.consN 38 (some 296) rfl rfl ?_ (AllS.consN 39 (some 297) rfl rfl ?_ (AllS.consN 40 (some 298) rfl rfl ?_ (AllS.consN 41 (some 299) rfl rfl ?_ (AllS.consN 42 (some 300) rfl rfl ?_ (AllS.consN 43 (some 301) rfl rfl ?_ (AllS.consN 44 (some 302) rfl rfl ?_ (AllS.consN 45 (some 303) rfl rfl ?_ (AllS.consN 46 (some 304) rfl rfl ?_ (AllS.consN 47 (some 305) rfl rfl ?_ (AllS.consN 48 (some 306) rfl rfl ?_ (AllS.consN 49 (some 307) rfl rfl ?_ (AllS.consN 50 (some 308) rfl rfl ?_ (AllS.consN 51 (some 309) rfl rfl ?_ (AllS.consN 52 (some 310) rfl rfl ?_ (AllS.consN 53 (some 311) rfl rfl ?_ (AllS.consN 54 (some 312) rfl rfl ?_ (AllS.consN 55 (some 313) rfl rfl ?_ (AllS.consN 56 (some 314) rfl rfl ?_ (AllS.consN 57 (some 315) rfl rfl ?_ (AllS.consN 58 (some 316) rfl rfl ?_ (AllS.consN 59 (some 317) rfl rfl ?_ (AllS.consN 60 (some 318) rfl rfl ?_ (AllS.consN 61 (some 4) rfl rfl ?_ AllS.nil))))))))))))))))))))))))))))))))))))))))))))))))))))))))))))
    · intro L s w2 h hk hd hn
      have s4 : s 4 = .bool true := h.o4 (by
            cases hx : L 60
            · rfl
            · exact absurd (h.dl hx) (by rw [hn]; exact Bool.false_ne_true))
      refine stepS rfl fun K hK => ?_
      go_simp
      exact hK _ _ { h with e0 := fun _ => rfl, dl := fun _ => rfl }
    · intro L s w2 h hk hd hn
      have s259 := h.e0 hd.1
      refine stepS rfl fun K hK => ?_
      go_simp
      exact hK _ _ { h with e1 := fun _ => rfl }
    · intro L s w2 h hk hd hn
      have gq := h.e1 hd.1
      refine stepS (by simp [Region.wanted, yieldS, gq]) fun K hK => ?_
      go_simp
      exact hK _ _ { h with e2 := fun _ => rfl }
    · intro L s w2 h hk hd hn
      have gq := h.e1 hd.2.1
      have s261 := h.e2 hd.1
      refine stepS (by simp [Region.wanted, yieldS, gq]) fun K hK => ?_
      go_simp
      refine (is_at 0 0 _).mono ?_
      rintro e w3 ⟨v, rfl, hv, hb⟩
      exact ⟨_, rfl, hK _ _ { h with bel := below_step h.bel hb, e12 := fun d => (h.e12 d).on hb, e20 := fun d => (h.e20 d).on hb, e28 := fun d => (h.e28 d).on hb, e36 := fun d => (h.e36 d).on hb, e45 := fun d => (h.e45 d).on hb, e53 := fun d => (h.e53 d).on hb, e3 := fun _ => hv }⟩
    · intro L s w2 h hk hd hn
      have gq := h.e1 hd.1
      have s1 : s 1 = _ := hk 1 (by kernel_rfl)
      have b := (h.bel.block _ (lt_of_block HBM.out)).trans HBM.out
      have c0 := cell_two0 b
      have c1 := cell_two1 b
      refine stepS (by simp [Region.wanted, yieldS, gq]) fun K hK => ?_
      go_simp
      exact hK _ _ { h with e4 := fun _ => rfl }
    · intro L s w2 h hk hd hn
      have gq := h.e1 hd.2.2.1
      have s263 := h.e4 hd.1
      refine stepS (by simp [Region.wanted, yieldS, gq]) fun K hK => ?_
      go_simp
      refine (kn9_5 _).mono ?_
      rintro e w3 ⟨rfl, hb⟩
      exact ⟨_, rfl, hK _ _ { h with bel := below_step h.bel hb, e3 := fun d => (h.e3 d).on hb, e12 := fun d => (h.e12 d).on hb, e20 := fun d => (h.e20 d).on hb, e28 := fun d => (h.e28 d).on hb, e36 := fun d => (h.e36 d).on hb, e45 := fun d => (h.e45 d).on hb, e53 := fun d => (h.e53 d).on hb, e5 := fun _ => rfl }⟩
    · intro L s w2 h hk hd hn
      have gq := h.e1 hd.2.1
      have s264 := h.e5 hd.1
      refine stepS (by simp [Region.wanted, yieldS, gq]) fun K hK => ?_
      go_simp
      exact hK _ _ { h with e6 := fun _ => rfl }
    · intro L s w2 h hk hd hn
      have gq := h.e1 hd.2.1
      have s264 := h.e5 hd.1
      refine stepS (by simp [Region.wanted, yieldS, gq]) fun K hK => ?_
      go_simp
      exact hK _ _ { h with e7 := fun _ => rfl }
    · intro L s w2 h hk hd hn
      have gq := h.e1 hd.2.2.2.2.1
      have s265 := h.e6 hd.2.1
      have s266 := h.e7 hd.2.2.1
      obtain ⟨Q, sF, hQ⟩ := h.e3 hd.1
      refine stepS (by simp [Region.wanted, yieldS, gq]) fun K hK => ?_
      go_simp
      refine (is1_at hQ).mono ?_
      rintro e w3 ⟨rfl, hb⟩
      exact ⟨_, rfl, hK _ _ { h with bel := below_step h.bel hb, e3 := fun d => (h.e3 d).on hb, e12 := fun d => (h.e12 d).on hb, e20 := fun d => (h.e20 d).on hb, e28 := fun d => (h.e28 d).on hb, e36 := fun d => (h.e36 d).on hb, e45 := fun d => (h.e45 d).on hb, e53 := fun d => (h.e53 d).on hb, e8 := fun _ => rfl }⟩
    · intro L s w2 h hk hd hn
      have s260 := h.e1 hd.1
      have s267 := h.e8 hd.2.1
      refine stepS rfl fun K hK => ?_
      go_simp
      exact hK _ _ { h with e9 := fun _ => rfl }
    · intro L s w2 h hk hd hn
      have s268 := h.e9 hd.1
      refine stepS rfl fun K hK => ?_
      go_simp
      exact hK _ _ { h with e10 := fun _ => rfl }
    · intro L s w2 h hk hd hn
      have gq := h.e10 hd.1
      have s1 : s 1 = _ := hk 1 (by kernel_rfl)
      have b := (h.bel.block _ (lt_of_block HBM.out)).trans HBM.out
      have c0 := cell_two0 b
      have c1 := cell_two1 b
      refine stepS (by simp [Region.wanted, yieldS, gq]) fun K hK => ?_
      go_simp
      exact hK _ _ { h with e11 := fun _ => rfl }
    · intro L s w2 h hk hd hn
      have gq := h.e10 hd.2.1
      have s270 := h.e11 hd.1
      refine stepS (by simp [Region.wanted, yieldS, gq]) fun K hK => ?_
      go_simp
      refine (is_at (-4503599627370496) 4503599627370496 _).mono ?_
      rintro e w3 ⟨v, rfl, hv, hb⟩
      exact ⟨_, rfl, hK _ _ { h with bel := below_step h.bel hb, e3 := fun d => (h.e3 d).on hb, e20 := fun d => (h.e20 d).on hb, e28 := fun d => (h.e28 d).on hb, e36 := fun d => (h.e36 d).on hb, e45 := fun d => (h.e45 d).on hb, e53 := fun d => (h.e53 d).on hb, e12 := fun _ => hv }⟩
    · intro L s w2 h hk hd hn
      have gq := h.e10 hd.1
      have s1 : s 1 = _ := hk 1 (by kernel_rfl)
      have b := (h.bel.block _ (lt_of_block HBM.out)).trans HBM.out
      have c0 := cell_two0 b
      have c1 := cell_two1 b
      refine stepS (by simp [Region.wanted, yieldS, gq]) fun K hK => ?_
      go_simp
      exact hK _ _ { h with e13 := fun _ => rfl }
    · intro L s w2 h hk hd hn
      have gq := h.e10 hd.2.2.1
      have s272 := h.e13 hd.1
      refine stepS (by simp [Region.wanted, yieldS, gq]) fun K hK => ?_
      go_simp
      refine (kn9_14 _).mono ?_
      rintro e w3 ⟨rfl, hb⟩
      exact ⟨_, rfl, hK _ _ { h with bel := below_step h.bel hb, e3 := fun d => (h.e3 d).on hb, e12 := fun d => (h.e12 d).on hb, e20 := fun d => (h.e20 d).on hb, e28 := fun d => (h.e28 d).on hb, e36 := fun d => (h.e36 d).on hb, e45 := fun d => (h.e45 d).on hb, e53 := fun d => (h.e53 d).on hb, e14 := fun _ => rfl }⟩
    · intro L s w2 h hk hd hn
      have gq := h.e10 hd.2.1
      have s273 := h.e14 hd.1
      refine stepS (by simp [Region.wanted, yieldS, gq]) fun K hK => ?_
      go_simp
      exact hK _ _ { h with e15 := fun _ => rfl }
    · intro L s w2 h hk hd hn
      have gq := h.e10 hd.2.1
      have s273 := h.e14 hd.1
      refine stepS (by simp [Region.wanted, yieldS, gq]) fun K hK => ?_
      go_simp
      exact hK _ _ { h with e16 := fun _ => rfl }
    · intro L s w2 h hk hd hn
      have gq := h.e10 hd.2.2.2.2.1
      have s274 := h.e15 hd.2.1
      have s275 := h.e16 hd.2.2.1
      obtain ⟨Q, sF, hQ⟩ := h.e12 hd.1
      refine stepS (by simp [Region.wanted, yieldS, gq]) fun K hK => ?_
      go_simp
      refine (is1_at hQ).mono ?_
      rintro e w3 ⟨rfl, hb⟩
      exact ⟨_, rfl, hK _ _ { h with bel := below_step h.bel hb, e3 := fun d => (h.e3 d).on hb, e12 := fun d => (h.e12 d).on hb, e20 := fun d => (h.e20 d).on hb, e28 := fun d => (h.e28 d).on hb, e36 := fun d => (h.e36 d).on hb, e45 := fun d => (h.e45 d).on hb, e53 := fun d => (h.e53 d).on hb, e17 := fun _ => rfl }⟩
    · intro L s w2 h hk hd hn
      have s269 := h.e10 hd.1
      have s276 := h.e17 hd.2.1
      refine stepS rfl fun K hK => ?_
      go_simp
      exact hK _ _ { h with e18 := fun _ => rfl }
    · intro L s w2 h hk hd hn
      have s277 := h.e18 hd.1
      refine stepS rfl fun K hK => ?_
      go_simp
      exact hK _ _ { h with e19 := fun _ => rfl }
    · intro L s w2 h hk hd hn
      have gq := h.e19 hd.1
      refine stepS (by simp [Region.wanted, yieldS, gq]) fun K hK => ?_
      go_simp
      refine (fl_at 2 _).mono ?_
      rintro e w3 ⟨v, rfl, hv, hb⟩
      exact ⟨_, rfl, hK _ _ { h with bel := below_step h.bel hb, e3 := fun d => (h.e3 d).on hb, e12 := fun d => (h.e12 d).on hb, e28 := fun d => (h.e28 d).on hb, e36 := fun d => (h.e36 d).on hb, e45 := fun d => (h.e45 d).on hb, e53 := fun d => (h.e53 d).on hb, e20 := fun _ => hv }⟩
    · intro L s w2 h hk hd hn
      have gq := h.e19 hd.1
      have s3 : s 3 = _ := hk 3 (by kernel_rfl)
      have b := (h.bel.block _ (lt_of_block HBO.out)).trans HBO.out
      have c0 := cell_two0 b
      have c1 := cell_two1 b
      refine stepS (by simp [Region.wanted, yieldS, gq]) fun K hK => ?_
      go_simp
      exact hK _ _ { h with e21 := fun _ => rfl }
    · intro L s w2 h hk hd hn
      have gq := h.e19 hd.2.2.1
      have s280 := h.e21 hd.1
      refine stepS (by simp [Region.wanted, yieldS, gq]) fun K hK => ?_
      go_simp
      refine (kn9_22 _).mono ?_
      rintro e w3 ⟨rfl, hb⟩
      exact ⟨_, rfl, hK _ _ { h with bel := below_step h.bel hb, e3 := fun d => (h.e3 d).on hb, e12 := fun d => (h.e12 d).on hb, e20 := fun d => (h.e20 d).on hb, e28 := fun d => (h.e28 d).on hb, e36 := fun d => (h.e36 d).on hb, e45 := fun d => (h.e45 d).on hb, e53 := fun d => (h.e53 d).on hb, e22 := fun _ => rfl }⟩
    · intro L s w2 h hk hd hn
      have gq := h.e19 hd.2.1
      have s281 := h.e22 hd.1
      refine stepS (by simp [Region.wanted, yieldS, gq]) fun K hK => ?_
      go_simp
      exact hK _ _ { h with e23 := fun _ => rfl }
    · intro L s w2 h hk hd hn
      have gq := h.e19 hd.2.1
      have s281 := h.e22 hd.1
      refine stepS (by simp [Region.wanted, yieldS, gq]) fun K hK => ?_
      go_simp
      exact hK _ _ { h with e24 := fun _ => rfl }
    · intro L s w2 h hk hd hn
      have gq := h.e19 hd.2.2.2.2.1
      have s282 := h.e23 hd.2.1
      have s283 := h.e24 hd.2.2.1
      obtain ⟨Q, sF, hQ⟩ := h.e20 hd.1
      refine stepS (by simp [Region.wanted, yieldS, gq]) fun K hK => ?_
      go_simp
      refine (fl1_at hQ).mono ?_
      rintro e w3 ⟨rfl, hb⟩
      exact ⟨_, rfl, hK _ _ { h with bel := below_step h.bel hb, e3 := fun d => (h.e3 d).on hb, e12 := fun d => (h.e12 d).on hb, e20 := fun d => (h.e20 d).on hb, e28 := fun d => (h.e28 d).on hb, e36 := fun d => (h.e36 d).on hb, e45 := fun d => (h.e45 d).on hb, e53 := fun d => (h.e53 d).on hb, e25 := fun _ => rfl }⟩
    · intro L s w2 h hk hd hn
      have s278 := h.e19 hd.1
      have s284 := h.e25 hd.2.1
      refine stepS rfl fun K hK => ?_
      go_simp
      exact hK _ _ { h with e26 := fun _ => rfl }
    · intro L s w2 h hk hd hn
      have s285 := h.e26 hd.1
      refine stepS rfl fun K hK => ?_
      go_simp
      exact hK _ _ { h with e27 := fun _ => rfl }
    · intro L s w2 h hk hd hn
      have gq := h.e27 hd.1
      refine stepS (by simp [Region.wanted, yieldS, gq]) fun K hK => ?_
      go_simp
      refine (fl_at 2 _).mono ?_
      rintro e w3 ⟨v, rfl, hv, hb⟩
      exact ⟨_, rfl, hK _ _ { h with bel := below_step h.bel hb, e3 := fun d => (h.e3 d).on hb, e12 := fun d => (h.e12 d).on hb, e20 := fun d => (h.e20 d).on hb, e36 := fun d => (h.e36 d).on hb, e45 := fun d => (h.e45 d).on hb, e53 := fun d => (h.e53 d).on hb, e28 := fun _ => hv }⟩
    · intro L s w2 h hk hd hn
      have gq := h.e27 hd.1
      have s3 : s 3 = _ := hk 3 (by kernel_rfl)
      have b := (h.bel.block _ (lt_of_block HBO.out)).trans HBO.out
      have c0 := cell_two0 b
      have c1 := cell_two1 b
      refine stepS (by simp [Region.wanted, yieldS, gq]) fun K hK => ?_
      go_simp
      exact hK _ _ { h with e29 := fun _ => rfl }
    · intro L s w2 h hk hd hn
      have gq := h.e27 hd.2.2.1
      have s288 := h.e29 hd.1
      refine stepS (by simp [Region.wanted, yieldS, gq]) fun K hK => ?_
      go_simp
      refine (kn9_30 _).mono ?_
      rintro e w3 ⟨rfl, hb⟩
      exact ⟨_, rfl, hK _ _ { h with bel := below_step h.bel hb, e3 := fun d => (h.e3 d).on hb, e12 := fun d => (h.e12 d).on hb, e20 := fun d => (h.e20 d).on hb, e28 := fun d => (h.e28 d).on hb, e36 := fun d => (h.e36 d).on hb, e45 := fun d => (h.e45 d).on hb, e53 := fun d => (h.e53 d).on hb, e30 := fun _ => rfl }⟩
    · intro L s w2 h hk hd hn
      have gq := h.e27 hd.2.1
      have s289 := h.e30 hd.1
      refine stepS (by simp [Region.wanted, yieldS, gq]) fun K hK => ?_
      go_simp
      exact hK _ _ { h with e31 := fun _ => rfl }
    · intro L s w2 h hk hd hn
      have gq := h.e27 hd.2.1
      have s289 := h.e30 hd.1
      refine stepS (by simp [Region.wanted, yieldS, gq]) fun K hK => ?_
      go_simp
      exact hK _ _ { h with e32 := fun _ => rfl }
    · intro L s w2 h hk hd hn
      have gq := h.e27 hd.2.2.2.2.1
      have s290 := h.e31 hd.2.1
      have s291 := h.e32 hd.2.2.1
      obtain ⟨Q, sF, hQ⟩ := h.e28 hd.1
      refine stepS (by simp [Region.wanted, yieldS, gq]) fun K hK => ?_
      go_simp
      refine (fl1_at hQ).mono ?_
      rintro e w3 ⟨rfl, hb⟩
      exact ⟨_, rfl, hK _ _ { h with bel := below_step h.bel hb, e3 := fun d => (h.e3 d).on hb, e12 := fun d => (h.e12 d).on hb, e20 := fun d => (h.e20 d).on hb, e28 := fun d => (h.e28 d).on hb, e36 := fun d => (h.e36 d).on hb, e45 := fun d => (h.e45 d).on hb, e53 := fun d => (h.e53 d).on hb, e33 := fun _ => rfl }⟩
    · intro L s w2 h hk hd hn
      have s286 := h.e27 hd.1
      have s292 := h.e33 hd.2.1
      refine stepS rfl fun K hK => ?_
      go_simp
      exact hK _ _ { h with e34 := fun _ => rfl }
    · intro L s w2 h hk hd hn
      have s293 := h.e34 hd.1
      refine stepS rfl fun K hK => ?_
      go_simp
      exact hK _ _ { h with e35 := fun _ => rfl }
    · intro L s w2 h hk hd hn
      have gq := h.e35 hd.1
      refine stepS (by simp [Region.wanted, yieldS, gq]) fun K hK => ?_
      go_simp
      refine (fl_at 6 _).mono ?_
      rintro e w3 ⟨v, rfl, hv, hb⟩
      exact ⟨_, rfl, hK _ _ { h with bel := below_step h.bel hb, e3 := fun d => (h.e3 d).on hb, e12 := fun d => (h.e12 d).on hb, e20 := fun d => (h.e20 d).on hb, e28 := fun d => (h.e28 d).on hb, e45 := fun d => (h.e45 d).on hb, e53 := fun d => (h.e53 d).on hb, e36 := fun _ => hv }⟩
    · intro L s w2 h hk hd hn
      have gq := h.e35 hd.1
      have s1 : s 1 = _ := hk 1 (by kernel_rfl)
      have b := (h.bel.block _ (lt_of_block HBM.out)).trans HBM.out
      have c0 := cell_two0 b
      have c1 := cell_two1 b
      refine stepS (by simp [Region.wanted, yieldS, gq]) fun K hK => ?_
      go_simp
      exact hK _ _ { h with e37 := fun _ => rfl }
    · intro L s w2 h hk hd hn
      have gq := h.e35 hd.2.2.1
      have s296 := h.e37 hd.1
      refine stepS (by simp [Region.wanted, yieldS, gq]) fun K hK => ?_
      go_simp
      refine (kn9_38 _).mono ?_
      rintro e w3 ⟨rfl, hb⟩
      exact ⟨_, rfl, hK _ _ { h with bel := below_step h.bel hb, e3 := fun d => (h.e3 d).on hb, e12 := fun d => (h.e12 d).on hb, e20 := fun d => (h.e20 d).on hb, e28 := fun d => (h.e28 d).on hb, e36 := fun d => (h.e36 d).on hb, e45 := fun d => (h.e45 d).on hb, e53 := fun d => (h.e53 d).on hb, e38 := fun _ => rfl }⟩
    · intro L s w2 h hk hd hn
      have gq := h.e35 hd.2.1
      have s297 := h.e38 hd.1
      refine stepS (by simp [Region.wanted, yieldS, gq]) fun K hK => ?_
      go_simp
      exact hK _ _ { h with e39 := fun _ => rfl }
    · intro L s w2 h hk hd hn
      have gq := h.e35 hd.2.1
      have s297 := h.e38 hd.1
      refine stepS (by simp [Region.wanted, yieldS, gq]) fun K hK => ?_
      go_simp
      exact hK _ _ { h with e40 := fun _ => rfl }
    · intro L s w2 h hk hd hn
      have gq := h.e35 hd.2.2.2.2.1
      have s298 := h.e39 hd.2.1
      have s299 := h.e40 hd.2.2.1
      obtain ⟨Q, sF, hQ⟩ := h.e36 hd.1
      refine stepS (by simp [Region.wanted, yieldS, gq]) fun K hK => ?_
      go_simp
      refine (fl1_at hQ).mono ?_
      rintro e w3 ⟨rfl, hb⟩
      exact ⟨_, rfl, hK _ _ { h with bel := below_step h.bel hb, e3 := fun d => (h.e3 d).on hb, e12 := fun d => (h.e12 d).on hb, e20 := fun d => (h.e20 d).on hb, e28 := fun d => (h.e28 d).on hb, e36 := fun d => (h.e36 d).on hb, e45 := fun d => (h.e45 d).on hb, e53 := fun d => (h.e53 d).on hb, e41 := fun _ => rfl }⟩
    · intro L s w2 h hk hd hn
      have s294 := h.e35 hd.1
      have s300 := h.e41 hd.2.1
      refine stepS rfl fun K hK => ?_
      go_simp
      exact hK _ _ { h with e42 := fun _ => rfl }
    · intro L s w2 h hk hd hn
      have s301 := h.e42 hd.1
      refine stepS rfl fun K hK => ?_
      go_simp
      exact hK _ _ { h with e43 := fun _ => rfl }
    · intro L s w2 h hk hd hn
      have gq := h.e43 hd.1
      refine stepS (by simp [Region.wanted, yieldS, gq]) fun K hK => ?_
      go_simp
      exact hK _ _ { h with e44 := fun _ => rfl }
    · intro L s w2 h hk hd hn
      have gq := h.e43 hd.2.1
      have s303 := h.e44 hd.1
      refine stepS (by simp [Region.wanted, yieldS, gq]) fun K hK => ?_
      go_simp
      refine (is_at (-1) 0 _).mono ?_
      rintro e w3 ⟨v, rfl, hv, hb⟩
      exact ⟨_, rfl, hK _ _ { h with bel := below_step h.bel hb, e3 := fun d => (h.e3 d).on hb, e12 := fun d => (h.e12 d).on hb, e20 := fun d => (h.e20 d).on hb, e28 := fun d => (h.e28 d).on hb, e36 := fun d => (h.e36 d).on hb, e53 := fun d => (h.e53 d).on hb, e45 := fun _ => hv }⟩
    · intro L s w2 h hk hd hn
      have gq := h.e43 hd.1
      refine stepS (by simp [Region.wanted, yieldS, gq]) fun K hK => ?_
      go_simp
      exact hK _ _ { h with e46 := fun _ => rfl }
    · intro L s w2 h hk hd hn
      have gq := h.e43 hd.2.2.1
      have s305 := h.e46 hd.1
      refine stepS (by simp [Region.wanted, yieldS, gq]) fun K hK => ?_
      go_simp
      refine (kn9_47 _).mono ?_
      rintro e w3 ⟨rfl, hb⟩
      exact ⟨_, rfl, hK _ _ { h with bel := below_step h.bel hb, e3 := fun d => (h.e3 d).on hb, e12 := fun d => (h.e12 d).on hb, e20 := fun d => (h.e20 d).on hb, e28 := fun d => (h.e28 d).on hb, e36 := fun d => (h.e36 d).on hb, e45 := fun d => (h.e45 d).on hb, e53 := fun d => (h.e53 d).on hb, e47 := fun _ => rfl }⟩
    · intro L s w2 h hk hd hn
      have gq := h.e43 hd.2.1
      have s306 := h.e47 hd.1
      refine stepS (by simp [Region.wanted, yieldS, gq]) fun K hK => ?_
      go_simp
      exact hK _ _ { h with e48 := fun _ => rfl }
    · intro L s w2 h hk hd hn
      have gq := h.e43 hd.2.1
      have s306 := h.e47 hd.1
      refine stepS (by simp [Region.wanted, yieldS, gq]) fun K hK => ?_
      go_simp
      exact hK _ _ { h with e49 := fun _ => rfl }
    · intro L s w2 h hk hd hn
      have gq := h.e43 hd.2.2.2.2.1
      have s307 := h.e48 hd.2.1
      have s308 := h.e49 hd.2.2.1
      obtain ⟨Q, sF, hQ⟩ := h.e45 hd.1
      refine stepS (by simp [Region.wanted, yieldS, gq]) fun K hK => ?_
      go_simp
      refine (is1_at hQ).mono ?_
      rintro e w3 ⟨rfl, hb⟩
      exact ⟨_, rfl, hK _ _ { h with bel := below_step h.bel hb, e3 := fun d => (h.e3 d).on hb, e12 := fun d => (h.e12 d).on hb, e20 := fun d => (h.e20 d).on hb, e28 := fun d => (h.e28 d).on hb, e36 := fun d => (h.e36 d).on hb, e45 := fun d => (h.e45 d).on hb, e53 := fun d => (h.e53 d).on hb, e50 := fun _ => rfl }⟩
    · intro L s w2 h hk hd hn
      have s302 := h.e43 hd.1
      have s309 := h.e50 hd.2.1
      refine stepS rfl fun K hK => ?_
      go_simp
      exact hK _ _ { h with e51 := fun _ => rfl }
    · intro L s w2 h hk hd hn
      have s310 := h.e51 hd.1
      refine stepS rfl fun K hK => ?_
      go_simp
      exact hK _ _ { h with e52 := fun _ => rfl }
    · intro L s w2 h hk hd hn
      have gq := h.e52 hd.1
      refine stepS (by simp [Region.wanted, yieldS, gq]) fun K hK => ?_
      go_simp
      refine (fl_at 20 _).mono ?_
      rintro e w3 ⟨v, rfl, hv, hb⟩
      exact ⟨_, rfl, hK _ _ { h with bel := below_step h.bel hb, e3 := fun d => (h.e3 d).on hb, e12 := fun d => (h.e12 d).on hb, e20 := fun d => (h.e20 d).on hb, e28 := fun d => (h.e28 d).on hb, e36 := fun d => (h.e36 d).on hb, e45 := fun d => (h.e45 d).on hb, e53 := fun _ => hv }⟩
    · intro L s w2 h hk hd hn
      have gq := h.e52 hd.1
      have s2 : s 2 = _ := hk 2 (by kernel_rfl)
      have b := (h.bel.block _ (lt_of_block HBB.out)).trans HBB.out
      have c0 := cell_two0 b
      have c1 := cell_two1 b
      refine stepS (by simp [Region.wanted, yieldS, gq]) fun K hK => ?_
      go_simp
      exact hK _ _ { h with e54 := fun _ => rfl }
    · intro L s w2 h hk hd hn
      have gq := h.e52 hd.2.2.1
      have s313 := h.e54 hd.1
      refine stepS (by simp [Region.wanted, yieldS, gq]) fun K hK => ?_
      go_simp
      refine (kn9_55 _).mono ?_
      rintro e w3 ⟨rfl, hb⟩
      exact ⟨_, rfl, hK _ _ { h with bel := below_step h.bel hb, e3 := fun d => (h.e3 d).on hb, e12 := fun d => (h.e12 d).on hb, e20 := fun d => (h.e20 d).on hb, e28 := fun d => (h.e28 d).on hb, e36 := fun d => (h.e36 d).on hb, e45 := fun d => (h.e45 d).on hb, e53 := fun d => (h.e53 d).on hb, e55 := fun _ => rfl }⟩
    · intro L s w2 h hk hd hn
      have gq := h.e52 hd.2.1
      have s314 := h.e55 hd.1
      refine stepS (by simp [Region.wanted, yieldS, gq]) fun K hK => ?_
      go_simp
      exact hK _ _ { h with e56 := fun _ => rfl }
    · intro L s w2 h hk hd hn
      have gq := h.e52 hd.2.1
      have s314 := h.e55 hd.1
      refine stepS (by simp [Region.wanted, yieldS, gq]) fun K hK => ?_
      go_simp
      exact hK _ _ { h with e57 := fun _ => rfl }
    · intro L s w2 h hk hd hn
      have gq := h.e52 hd.2.2.2.2.1
      have s315 := h.e56 hd.2.1
      have s316 := h.e57 hd.2.2.1
      obtain ⟨Q, sF, hQ⟩ := h.e53 hd.1
      refine stepS (by simp [Region.wanted, yieldS, gq]) fun K hK => ?_
      go_simp
      refine (fl1_at hQ).mono ?_
      rintro e w3 ⟨rfl, hb⟩
      exact ⟨_, rfl, hK _ _ { h with bel := below_step h.bel hb, e3 := fun d => (h.e3 d).on hb, e12 := fun d => (h.e12 d).on hb, e20 := fun d => (h.e20 d).on hb, e28 := fun d => (h.e28 d).on hb, e36 := fun d => (h.e36 d).on hb, e45 := fun d => (h.e45 d).on hb, e53 := fun d => (h.e53 d).on hb, e58 := fun _ => rfl }⟩
    · intro L s w2 h hk hd hn
      have s311 := h.e52 hd.1
      have s317 := h.e58 hd.2.1
      refine stepS rfl fun K hK => ?_
      go_simp
      exact hK _ _ { h with e59 := fun _ => rfl }
    · intro L s w2 h hk hd hn
      have s318 := h.e59 hd.1
      refine stepS rfl fun K hK => ?_
      go_simp
      exact hK _ _ { h with e60 := fun _ => rfl, o4 := fun d => Bool.noConfusion (show true = false from d), dl := fun _ => hd.2.2.1 }
  intro L s wc h hk hl a ha
  have k1 : s 1 = .pointer (some ⟨M, 0, none⟩) := hk 1 (by kernel_rfl)
  have k2 : s 2 = .pointer (some ⟨B, 0, none⟩) := hk 2 (by kernel_rfl)
  have k3 : s 3 = .pointer (some ⟨O, 0, none⟩) := hk 3 (by kernel_rfl)
  have k4 : s 4 = .bool true := h.e60 (hl 60 (by decide))
  replace ha := ha.trans (show actS _ s [] = ⟨#[s 0, s 1, s 2, s 3, s 4, s 5, s 6, s 7, s 8, s 9, s 10, s 11, s 12, s 13, s 14, s 15, s 16, s 17, s 18, s 19, s 20, s 21, s 22, s 23, s 24, s 25, s 26, s 27, s 28, s 29, s 30, s 31, s 32, s 33, s 34, s 35, s 36, s 37, s 38, s 39, s 40, s 41, s 42, s 43, s 44, s 45, s 46, s 47, s 48, s 49, s 50, s 51, s 52, s 53, s 54, s 55, s 56, s 57, s 58, s 59, s 60, s 61, s 62, s 63, s 64, s 65, s 66, s 67, s 68, s 69, s 70, s 71, s 72, s 73, s 74, s 75, s 76, s 77, s 78, s 79, s 80, s 81, s 82, s 83, s 84, s 85, s 86, s 87, s 88, s 89, s 90, s 91, s 92, s 93, s 94, s 95, s 96, s 97, s 98, s 99, s 100, s 101, s 102, s 103, s 104, s 105, s 106, s 107, s 108, s 109, s 110, s 111, s 112, s 113, s 114, s 115, s 116, s 117, s 118, s 119, s 120, s 121, s 122, s 123, s 124, s 125, s 126, s 127, s 128, s 129, s 130, s 131, s 132, s 133, s 134, s 135, s 136, s 137, s 138, s 139, s 140, s 141, s 142, s 143, s 144, s 145, s 146, s 147, s 148, s 149, s 150, s 151, s 152, s 153, s 154, s 155, s 156, s 157, s 158, s 159, s 160, s 161, s 162, s 163, s 164, s 165, s 166, s 167, s 168, s 169, s 170, s 171, s 172, s 173, s 174, s 175, s 176, s 177, s 178, s 179, s 180, s 181, s 182, s 183, s 184, s 185, s 186, s 187, s 188, s 189, s 190, s 191, s 192, s 193, s 194, s 195, s 196, s 197, s 198, s 199, s 200, s 201, s 202, s 203, s 204, s 205, s 206, s 207, s 208, s 209, s 210, s 211, s 212, s 213, s 214, s 215, s 216, s 217, s 218, s 219, s 220, s 221, s 222, s 223, s 224, s 225, s 226, s 227, s 228, s 229, s 230, s 231, s 232, s 233, s 234, s 235, s 236, s 237, s 238, s 239, s 240, s 241, s 242, s 243, s 244, s 245, s 246, s 247, s 248, s 249, s 250, s 251, s 252, s 253, s 254, s 255, s 256, s 257, s 258, s 259, s 260, s 261, s 262, s 263, s 264, s 265, s 266, s 267, s 268, s 269, s 270, s 271, s 272, s 273, s 274, s 275, s 276, s 277, s 278, s 279, s 280, s 281, s 282, s 283, s 284, s 285, s 286, s 287, s 288, s 289, s 290, s 291, s 292, s 293, s 294, s 295, s 296, s 297, s 298, s 299, s 300, s 301, s 302, s 303, s 304, s 305, s 306, s 307, s 308, s 309, s 310, s 311, s 312, s 313, s 314, s 315, s 316, s 317, s 318, s 319, s 320, s 321, s 322, s 323, s 324, s 325, s 326, s 327, s 328, s 329, s 330, s 331, s 332, s 333, s 334, s 335, s 336, s 337, s 338, s 339, s 340, s 341, s 342, s 343, s 344, s 345, s 346, s 347, s 348, s 349, s 350, s 351, s 352, s 353, s 354, s 355, s 356, s 357, s 358, s 359, s 360, s 361, s 362, s 363, s 364, s 365, s 366, s 367, s 368, s 369, s 370, s 371, s 372, s 373, s 374, s 375, s 376, s 377, s 378, s 379, s 380, s 381, s 382, s 383, s 384, s 385, s 386, s 387, s 388, s 389, s 390, s 391, s 392, s 393, s 394, s 395, s 396, s 397, s 398, s 399, s 400, s 401, s 402, s 403, s 404, s 405, s 406, s 407, s 408, s 409, s 410, s 411, s 412, s 413, s 414, s 415, s 416, s 417, s 418, s 419, s 420, s 421, s 422, s 423, s 424, s 425], []⟩ by kernel_rfl)
  rw [k1, k2, k3, k4] at ha
  subst ha
  replace HK := Lib.hid (HK.out.on h.bel)
  clear h hk hl k1 k2 k3 k4 HBO HBB HBM HPW
  go_upto_region 10 with (fail)
  have HBO := Lib.hid (HK.out.blk (O, .cells #[.int .i64 4294967296, .int .i64 4294967296] 23 (0, 0)) (.head _))
  have HBB := Lib.hid (HK.out.blk (B, .cells #[.int .i64 1, .int .i64 0] 23 (0, 0)) (.tail _ (.head _)))
  have HBM := Lib.hid (HK.out.blk (M, .cells #[.int .i64 (-4503599627370496), .int .i64 4503599627370496] 23 (0, 0)) (.tail _ (.tail _ (.head _))))
  have HPW := Lib.hid (HP.out.below HK.out.bel)
  refine wp_region_go (Kn10 wc M B O) (by kernel_rfl) (by kernel_rfl) ?_ ?_ ?_
  · exact ⟨(Below.refl _ _).drew, fun _ => rfl, fun h => absurd h Bool.false_ne_true, fun h => absurd h Bool.false_ne_true, fun h => absurd h Bool.false_ne_true, fun h => absurd h Bool.false_ne_true, fun h => absurd h Bool.false_ne_true, fun h => absurd h Bool.false_ne_true, fun h => absurd h Bool.false_ne_true, fun h => absurd h Bool.false_ne_true, fun h => absurd h Bool.false_ne_true, fun h => absurd h Bool.false_ne_true, fun h => absurd h Bool.false_ne_true, fun h => absurd h Bool.false_ne_true, fun h => absurd h Bool.false_ne_true, fun h => absurd h Bool.false_ne_true, fun h => absurd h Bool.false_ne_true, fun h => absurd h Bool.false_ne_true, fun h => absurd h Bool.false_ne_true, fun h => absurd h Bool.false_ne_true, fun h => absurd h Bool.false_ne_true, fun h => absurd h Bool.false_ne_true, fun h => absurd h Bool.false_ne_true, fun h => absurd h Bool.false_ne_true, fun h => absurd h Bool.false_ne_true, fun h => absurd h Bool.false_ne_true, fun h => absurd h Bool.false_ne_true, fun h => absurd h Bool.false_ne_true, fun h => absurd h Bool.false_ne_true, fun h => absurd h Bool.false_ne_true, fun h => absurd h Bool.false_ne_true, fun h => absurd h Bool.false_ne_true, fun h => absurd h Bool.false_ne_true, fun h => absurd h Bool.false_ne_true, fun h => absurd h Bool.false_ne_true, fun h => absurd h Bool.false_ne_true, fun h => absurd h Bool.false_ne_true, fun h => absurd h Bool.false_ne_true, fun h => absurd h Bool.false_ne_true, fun h => absurd h Bool.false_ne_true, fun h => absurd h Bool.false_ne_true, fun h => absurd h Bool.false_ne_true, fun h => absurd h Bool.false_ne_true, fun h => absurd h Bool.false_ne_true, fun h => absurd h Bool.false_ne_true, fun h => absurd h Bool.false_ne_true, fun h => absurd h Bool.false_ne_true, fun h => absurd h Bool.false_ne_true, fun h => absurd h Bool.false_ne_true, fun h => absurd h Bool.false_ne_true, fun h => absurd h Bool.false_ne_true, fun h => absurd h Bool.false_ne_true, fun h => absurd h Bool.false_ne_true, fun h => absurd h Bool.false_ne_true, fun h => absurd h Bool.false_ne_true, fun h => absurd h Bool.false_ne_true, fun h => absurd h Bool.false_ne_true, fun h => absurd h Bool.false_ne_true, fun h => absurd h Bool.false_ne_true, fun h => absurd h Bool.false_ne_true, fun h => absurd h Bool.false_ne_true, fun h => absurd h Bool.false_ne_true, fun h => absurd h Bool.false_ne_true, fun h => absurd h Bool.false_ne_true, fun h => absurd h Bool.false_ne_true, fun h => absurd h Bool.false_ne_true, fun h => absurd h Bool.false_ne_true, fun h => absurd h Bool.false_ne_true, fun h => absurd h Bool.false_ne_true, fun h => absurd h Bool.false_ne_true⟩
  · refine AllS.consN 1 (some 319) rfl rfl ?_ (AllS.consN 2 (some 320) rfl rfl ?_ (AllS.consN 3 (some 321) rfl rfl ?_ (AllS.consN 4 (some 322) rfl rfl ?_ (AllS.consN 5 (some 323) rfl rfl ?_ (AllS.consN 6 (some 324) rfl rfl ?_ (AllS.consN 7 (some 325) rfl rfl ?_ (AllS.consN 8 (some 326) rfl rfl ?_ (AllS.consN 9 (some 327) rfl rfl ?_ (AllS.consN 10 (some 328) rfl rfl ?_ (AllS.consN 11 (some 329) rfl rfl ?_ (AllS.consN 12 (some 330) rfl rfl ?_ (AllS.consN 13 (some 331) rfl rfl ?_ (AllS.consN 14 (some 332) rfl rfl ?_ (AllS.consN 15 (some 333) rfl rfl ?_ (AllS.consN 16 (some 334) rfl rfl ?_ (AllS.consN 17 (some 335) rfl rfl ?_ (AllS.consN 18 (some 336) rfl rfl ?_ (AllS.consN 19 (some 337) rfl rfl ?_ (AllS.consN 20 (some 338) rfl rfl ?_ (AllS.consN 21 (some 339) rfl rfl ?_ (AllS.consN 22 (some 340) rfl rfl ?_ (AllS.consN 23 (some 341) rfl rfl ?_ (AllS.consN 24 (some 342) rfl rfl ?_ (AllS.consN 25 (some 343) rfl rfl ?_ (AllS.consN 26 (some 344) rfl rfl ?_ (AllS.consN 27 (some 345) rfl rfl ?_ (AllS.consN 28 (some 346) rfl rfl ?_ (AllS.consN 29 (some 347) rfl rfl ?_ (AllS.consN 30 (some 348) rfl rfl ?_ (AllS.consN 31 (some 349) rfl rfl ?_ (AllS.consN 32 (some 350) rfl rfl ?_ (AllS.consN 33 (some 351) rfl rfl ?_ (AllS.consN 34 (some 352) rfl rfl ?_ (AllS.consN 35 (some 353) rfl rfl ?_ (AllS.consN 36 (some 354) rfl rfl ?_ (AllS.consN 37 (some 355) rfl rfl ?_ (AllS.consN 38 (some 356) rfl rfl ?_ (AllS.consN 39 (some 357) rfl rfl ?_ (AllS.consN 40 (some 358) rfl rfl ?_ (AllS.consN 41 (some 359) rfl rfl ?_ (AllS.consN 42 (some 360) rfl rfl ?_ (AllS.consN 43 (some 361) rfl rfl ?_ (AllS.consN 44 (some 362) rfl rfl ?_ (AllS.consN 45 (some 363) rfl rfl ?_ (AllS.consN 46 (some 364) rfl rfl ?_ (AllS.consN 47 (some 365) rfl rfl ?_ (AllS.consN 48 (some 366) rfl rfl ?_ (AllS.consN 49 (some 367) rfl rfl ?_ (AllS.consN 50 (some 368) rfl rfl ?_ (AllS.consN 51 (some 369) rfl rfl ?_ (AllS.consN 52 (some 370) rfl rfl ?_ (AllS.consN 53 (some 371) rfl rfl ?_ (AllS.consN 54 (some 372) rfl rfl ?_ (AllS.consN 55 (some 373) rfl rfl ?_ (AllS.consN 56 (some 374) rfl rfl ?_ (AllS.consN 57 (some 375) rfl rfl ?_ (AllS.consN 58 (some 376) rfl rfl ?_ (AllS.consN 59 (some 377) rfl rfl ?_ (AllS.consN 60 (some 378) rfl rfl ?_ (AllS.consN 61 (some 379) rfl rfl ?_ (AllS.consN 62 (some 380) rfl rfl ?_ (AllS.consN 63 (some 381) rfl rfl ?_ (AllS.consN 64 (some 382) rfl rfl ?_ (AllS.consN 65 (some 383) rfl rfl ?_ (AllS.consN 66 (some 384) rfl rfl ?_ (AllS.consN 67 (some 4) rfl rfl ?_ AllS.nil))))))))))))))))))))))))))))))))))))))))))))))))))))))))))))))))))
    · intro L s w2 h hk hd hn
      have s4 : s 4 = .bool true := h.o4 (by
            cases hx : L 66
            · rfl
            · exact absurd (h.dl hx) (by rw [hn]; exact Bool.false_ne_true))
      refine stepS rfl fun K hK => ?_
      go_simp
      exact hK _ _ { h with e0 := fun _ => rfl, dl := fun _ => rfl }
    · intro L s w2 h hk hd hn
      have s319 := h.e0 hd.1
      refine stepS rfl fun K hK => ?_
      go_simp
      exact hK _ _ { h with e1 := fun _ => rfl }
    · intro L s w2 h hk hd hn
      have gq := h.e1 hd.1
      refine stepS (by simp [Region.wanted, yieldS, gq]) fun K hK => ?_
      go_simp
      exact hK _ _ { h with e2 := fun _ => rfl }
    · intro L s w2 h hk hd hn
      have gq := h.e1 hd.2.1
      have s321 := h.e2 hd.1
      refine stepS (by simp [Region.wanted, yieldS, gq]) fun K hK => ?_
      go_simp
      refine (is_at 5 5 _).mono ?_
      rintro e w3 ⟨v, rfl, hv, hb⟩
      exact ⟨_, rfl, hK _ _ { h with bel := below_step h.bel hb, e12 := fun d => (h.e12 d).on hb, e21 := fun d => (h.e21 d).on hb, e29 := fun d => (h.e29 d).on hb, e37 := fun d => (h.e37 d).on hb, e45 := fun d => (h.e45 d).on hb, e53 := fun d => (h.e53 d).on hb, e60 := fun d => (h.e60 d).on hb, e3 := fun _ => hv }⟩
    · intro L s w2 h hk hd hn
      have gq := h.e1 hd.1
      refine stepS (by simp [Region.wanted, yieldS, gq]) fun K hK => ?_
      go_simp
      exact hK _ _ { h with e4 := fun _ => rfl }
    · intro L s w2 h hk hd hn
      have gq := h.e1 hd.1
      refine stepS (by simp [Region.wanted, yieldS, gq]) fun K hK => ?_
      go_simp
      exact hK _ _ { h with e5 := fun _ => rfl }
    · intro L s w2 h hk hd hn
      have gq := h.e1 hd.2.2.2.1
      have s323 := h.e4 hd.1
      have s324 := h.e5 hd.2.1
      refine stepS (by simp [Region.wanted, yieldS, gq]) fun K hK => ?_
      go_simp
      refine (kn10_6 _).mono ?_
      rintro e w3 ⟨rfl, hb⟩
      exact ⟨_, rfl, hK _ _ { h with bel := below_step h.bel hb, e3 := fun d => (h.e3 d).on hb, e12 := fun d => (h.e12 d).on hb, e21 := fun d => (h.e21 d).on hb, e29 := fun d => (h.e29 d).on hb, e37 := fun d => (h.e37 d).on hb, e45 := fun d => (h.e45 d).on hb, e53 := fun d => (h.e53 d).on hb, e60 := fun d => (h.e60 d).on hb, e6 := fun _ => rfl }⟩
    · intro L s w2 h hk hd hn
      have gq := h.e1 hd.2.1
      have s325 := h.e6 hd.1
      refine stepS (by simp [Region.wanted, yieldS, gq]) fun K hK => ?_
      go_simp
      exact hK _ _ { h with e7 := fun _ => rfl }
    · intro L s w2 h hk hd hn
      have gq := h.e1 hd.2.1
      have s325 := h.e6 hd.1
      refine stepS (by simp [Region.wanted, yieldS, gq]) fun K hK => ?_
      go_simp
      exact hK _ _ { h with e8 := fun _ => rfl }
    · intro L s w2 h hk hd hn
      have gq := h.e1 hd.2.2.2.2.1
      have s326 := h.e7 hd.2.1
      have s327 := h.e8 hd.2.2.1
      obtain ⟨Q, sF, hQ⟩ := h.e3 hd.1
      refine stepS (by simp [Region.wanted, yieldS, gq]) fun K hK => ?_
      go_simp
      refine (is1_at hQ).mono ?_
      rintro e w3 ⟨rfl, hb⟩
      exact ⟨_, rfl, hK _ _ { h with bel := below_step h.bel hb, e3 := fun d => (h.e3 d).on hb, e12 := fun d => (h.e12 d).on hb, e21 := fun d => (h.e21 d).on hb, e29 := fun d => (h.e29 d).on hb, e37 := fun d => (h.e37 d).on hb, e45 := fun d => (h.e45 d).on hb, e53 := fun d => (h.e53 d).on hb, e60 := fun d => (h.e60 d).on hb, e9 := fun _ => rfl }⟩
    · intro L s w2 h hk hd hn
      have s320 := h.e1 hd.1
      have s328 := h.e9 hd.2.1
      refine stepS rfl fun K hK => ?_
      go_simp
      exact hK _ _ { h with e10 := fun _ => rfl }
    · intro L s w2 h hk hd hn
      have s329 := h.e10 hd.1
      refine stepS rfl fun K hK => ?_
      go_simp
      exact hK _ _ { h with e11 := fun _ => rfl }
    · intro L s w2 h hk hd hn
      have gq := h.e11 hd.1
      refine stepS (by simp [Region.wanted, yieldS, gq]) fun K hK => ?_
      go_simp
      refine (fl_at 20 _).mono ?_
      rintro e w3 ⟨v, rfl, hv, hb⟩
      exact ⟨_, rfl, hK _ _ { h with bel := below_step h.bel hb, e3 := fun d => (h.e3 d).on hb, e21 := fun d => (h.e21 d).on hb, e29 := fun d => (h.e29 d).on hb, e37 := fun d => (h.e37 d).on hb, e45 := fun d => (h.e45 d).on hb, e53 := fun d => (h.e53 d).on hb, e60 := fun d => (h.e60 d).on hb, e12 := fun _ => hv }⟩
    · intro L s w2 h hk hd hn
      have gq := h.e11 hd.1
      refine stepS (by simp [Region.wanted, yieldS, gq]) fun K hK => ?_
      go_simp
      exact hK _ _ { h with e13 := fun _ => rfl }
    · intro L s w2 h hk hd hn
      have gq := h.e11 hd.1
      have s2 : s 2 = _ := hk 2 (by kernel_rfl)
      have b := (h.bel.block _ (lt_of_block HBB.out)).trans HBB.out
      have c0 := cell_two0 b
      have c1 := cell_two1 b
      refine stepS (by simp [Region.wanted, yieldS, gq]) fun K hK => ?_
      go_simp
      exact hK _ _ { h with e14 := fun _ => rfl }
    · intro L s w2 h hk hd hn
      have gq := h.e11 hd.2.2.2.1
      have s332 := h.e13 hd.1
      have s333 := h.e14 hd.2.1
      refine stepS (by simp [Region.wanted, yieldS, gq]) fun K hK => ?_
      go_simp
      refine (kn10_15 _).mono ?_
      rintro e w3 ⟨rfl, hb⟩
      exact ⟨_, rfl, hK _ _ { h with bel := below_step h.bel hb, e3 := fun d => (h.e3 d).on hb, e12 := fun d => (h.e12 d).on hb, e21 := fun d => (h.e21 d).on hb, e29 := fun d => (h.e29 d).on hb, e37 := fun d => (h.e37 d).on hb, e45 := fun d => (h.e45 d).on hb, e53 := fun d => (h.e53 d).on hb, e60 := fun d => (h.e60 d).on hb, e15 := fun _ => rfl }⟩
    · intro L s w2 h hk hd hn
      have gq := h.e11 hd.2.1
      have s334 := h.e15 hd.1
      refine stepS (by simp [Region.wanted, yieldS, gq]) fun K hK => ?_
      go_simp
      exact hK _ _ { h with e16 := fun _ => rfl }
    · intro L s w2 h hk hd hn
      have gq := h.e11 hd.2.1
      have s334 := h.e15 hd.1
      refine stepS (by simp [Region.wanted, yieldS, gq]) fun K hK => ?_
      go_simp
      exact hK _ _ { h with e17 := fun _ => rfl }
    · intro L s w2 h hk hd hn
      have gq := h.e11 hd.2.2.2.2.1
      have s335 := h.e16 hd.2.1
      have s336 := h.e17 hd.2.2.1
      obtain ⟨Q, sF, hQ⟩ := h.e12 hd.1
      refine stepS (by simp [Region.wanted, yieldS, gq]) fun K hK => ?_
      go_simp
      refine (fl1_at hQ).mono ?_
      rintro e w3 ⟨rfl, hb⟩
      exact ⟨_, rfl, hK _ _ { h with bel := below_step h.bel hb, e3 := fun d => (h.e3 d).on hb, e12 := fun d => (h.e12 d).on hb, e21 := fun d => (h.e21 d).on hb, e29 := fun d => (h.e29 d).on hb, e37 := fun d => (h.e37 d).on hb, e45 := fun d => (h.e45 d).on hb, e53 := fun d => (h.e53 d).on hb, e60 := fun d => (h.e60 d).on hb, e18 := fun _ => rfl }⟩
    · intro L s w2 h hk hd hn
      have s330 := h.e11 hd.1
      have s337 := h.e18 hd.2.1
      refine stepS rfl fun K hK => ?_
      go_simp
      exact hK _ _ { h with e19 := fun _ => rfl }
    · intro L s w2 h hk hd hn
      have s338 := h.e19 hd.1
      refine stepS rfl fun K hK => ?_
      go_simp
      exact hK _ _ { h with e20 := fun _ => rfl }
    · intro L s w2 h hk hd hn
      have gq := h.e20 hd.1
      refine stepS (by simp [Region.wanted, yieldS, gq]) fun K hK => ?_
      go_simp
      refine (sy_at (-1) _).mono ?_
      rintro e w3 ⟨v, rfl, hv, hb⟩
      exact ⟨_, rfl, hK _ _ { h with bel := below_step h.bel hb, e3 := fun d => (h.e3 d).on hb, e12 := fun d => (h.e12 d).on hb, e29 := fun d => (h.e29 d).on hb, e37 := fun d => (h.e37 d).on hb, e45 := fun d => (h.e45 d).on hb, e53 := fun d => (h.e53 d).on hb, e60 := fun d => (h.e60 d).on hb, e21 := fun _ => hv }⟩
    · intro L s w2 h hk hd hn
      have gq := h.e20 hd.1
      refine stepS (by simp [Region.wanted, yieldS, gq]) fun K hK => ?_
      go_simp
      exact hK _ _ { h with e22 := fun _ => rfl }
    · intro L s w2 h hk hd hn
      have gq := h.e20 hd.2.2.1
      have s341 := h.e22 hd.1
      refine stepS (by simp [Region.wanted, yieldS, gq]) fun K hK => ?_
      go_simp
      refine (kn10_23 _).mono ?_
      rintro e w3 ⟨rfl, hb⟩
      exact ⟨_, rfl, hK _ _ { h with bel := below_step h.bel hb, e3 := fun d => (h.e3 d).on hb, e12 := fun d => (h.e12 d).on hb, e21 := fun d => (h.e21 d).on hb, e29 := fun d => (h.e29 d).on hb, e37 := fun d => (h.e37 d).on hb, e45 := fun d => (h.e45 d).on hb, e53 := fun d => (h.e53 d).on hb, e60 := fun d => (h.e60 d).on hb, e23 := fun _ => rfl }⟩
    · intro L s w2 h hk hd hn
      have gq := h.e20 hd.2.1
      have s342 := h.e23 hd.1
      refine stepS (by simp [Region.wanted, yieldS, gq]) fun K hK => ?_
      go_simp
      exact hK _ _ { h with e24 := fun _ => rfl }
    · intro L s w2 h hk hd hn
      have gq := h.e20 hd.2.1
      have s342 := h.e23 hd.1
      refine stepS (by simp [Region.wanted, yieldS, gq]) fun K hK => ?_
      go_simp
      exact hK _ _ { h with e25 := fun _ => rfl }
    · intro L s w2 h hk hd hn
      have gq := h.e20 hd.2.2.2.2.1
      have s343 := h.e24 hd.2.1
      have s344 := h.e25 hd.2.2.1
      obtain ⟨Q, sF, hQ⟩ := h.e21 hd.1
      refine stepS (by simp [Region.wanted, yieldS, gq]) fun K hK => ?_
      go_simp
      refine (sy1_at hQ).mono ?_
      rintro e w3 ⟨rfl, hb⟩
      exact ⟨_, rfl, hK _ _ { h with bel := below_step h.bel hb, e3 := fun d => (h.e3 d).on hb, e12 := fun d => (h.e12 d).on hb, e21 := fun d => (h.e21 d).on hb, e29 := fun d => (h.e29 d).on hb, e37 := fun d => (h.e37 d).on hb, e45 := fun d => (h.e45 d).on hb, e53 := fun d => (h.e53 d).on hb, e60 := fun d => (h.e60 d).on hb, e26 := fun _ => rfl }⟩
    · intro L s w2 h hk hd hn
      have s339 := h.e20 hd.1
      have s345 := h.e26 hd.2.1
      refine stepS rfl fun K hK => ?_
      go_simp
      exact hK _ _ { h with e27 := fun _ => rfl }
    · intro L s w2 h hk hd hn
      have s346 := h.e27 hd.1
      refine stepS rfl fun K hK => ?_
      go_simp
      exact hK _ _ { h with e28 := fun _ => rfl }
    · intro L s w2 h hk hd hn
      have gq := h.e28 hd.1
      refine stepS (by simp [Region.wanted, yieldS, gq]) fun K hK => ?_
      go_simp
      refine (sy_at 9007199254740992 _).mono ?_
      rintro e w3 ⟨v, rfl, hv, hb⟩
      exact ⟨_, rfl, hK _ _ { h with bel := below_step h.bel hb, e3 := fun d => (h.e3 d).on hb, e12 := fun d => (h.e12 d).on hb, e21 := fun d => (h.e21 d).on hb, e37 := fun d => (h.e37 d).on hb, e45 := fun d => (h.e45 d).on hb, e53 := fun d => (h.e53 d).on hb, e60 := fun d => (h.e60 d).on hb, e29 := fun _ => hv }⟩
    · intro L s w2 h hk hd hn
      have gq := h.e28 hd.1
      have s1 : s 1 = _ := hk 1 (by kernel_rfl)
      have b := (h.bel.block _ (lt_of_block HBM.out)).trans HBM.out
      have c0 := cell_two0 b
      have c1 := cell_two1 b
      refine stepS (by simp [Region.wanted, yieldS, gq]) fun K hK => ?_
      go_simp
      exact hK _ _ { h with e30 := fun _ => rfl }
    · intro L s w2 h hk hd hn
      have gq := h.e28 hd.2.2.1
      have s349 := h.e30 hd.1
      refine stepS (by simp [Region.wanted, yieldS, gq]) fun K hK => ?_
      go_simp
      refine (kn10_31 _).mono ?_
      rintro e w3 ⟨rfl, hb⟩
      exact ⟨_, rfl, hK _ _ { h with bel := below_step h.bel hb, e3 := fun d => (h.e3 d).on hb, e12 := fun d => (h.e12 d).on hb, e21 := fun d => (h.e21 d).on hb, e29 := fun d => (h.e29 d).on hb, e37 := fun d => (h.e37 d).on hb, e45 := fun d => (h.e45 d).on hb, e53 := fun d => (h.e53 d).on hb, e60 := fun d => (h.e60 d).on hb, e31 := fun _ => rfl }⟩
    · intro L s w2 h hk hd hn
      have gq := h.e28 hd.2.1
      have s350 := h.e31 hd.1
      refine stepS (by simp [Region.wanted, yieldS, gq]) fun K hK => ?_
      go_simp
      exact hK _ _ { h with e32 := fun _ => rfl }
    · intro L s w2 h hk hd hn
      have gq := h.e28 hd.2.1
      have s350 := h.e31 hd.1
      refine stepS (by simp [Region.wanted, yieldS, gq]) fun K hK => ?_
      go_simp
      exact hK _ _ { h with e33 := fun _ => rfl }
    · intro L s w2 h hk hd hn
      have gq := h.e28 hd.2.2.2.2.1
      have s351 := h.e32 hd.2.1
      have s352 := h.e33 hd.2.2.1
      obtain ⟨Q, sF, hQ⟩ := h.e29 hd.1
      refine stepS (by simp [Region.wanted, yieldS, gq]) fun K hK => ?_
      go_simp
      refine (sy1_at hQ).mono ?_
      rintro e w3 ⟨rfl, hb⟩
      exact ⟨_, rfl, hK _ _ { h with bel := below_step h.bel hb, e3 := fun d => (h.e3 d).on hb, e12 := fun d => (h.e12 d).on hb, e21 := fun d => (h.e21 d).on hb, e29 := fun d => (h.e29 d).on hb, e37 := fun d => (h.e37 d).on hb, e45 := fun d => (h.e45 d).on hb, e53 := fun d => (h.e53 d).on hb, e60 := fun d => (h.e60 d).on hb, e34 := fun _ => rfl }⟩
    · intro L s w2 h hk hd hn
      have s347 := h.e28 hd.1
      have s353 := h.e34 hd.2.1
      refine stepS rfl fun K hK => ?_
      go_simp
      exact hK _ _ { h with e35 := fun _ => rfl }
    · intro L s w2 h hk hd hn
      have s354 := h.e35 hd.1
      refine stepS rfl fun K hK => ?_
      go_simp
      exact hK _ _ { h with e36 := fun _ => rfl }
    · intro L s w2 h hk hd hn
      have gq := h.e36 hd.1
      refine stepS (by simp [Region.wanted, yieldS, gq]) fun K hK => ?_
      go_simp
      refine (sy_at (-1) _).mono ?_
      rintro e w3 ⟨v, rfl, hv, hb⟩
      exact ⟨_, rfl, hK _ _ { h with bel := below_step h.bel hb, e3 := fun d => (h.e3 d).on hb, e12 := fun d => (h.e12 d).on hb, e21 := fun d => (h.e21 d).on hb, e29 := fun d => (h.e29 d).on hb, e45 := fun d => (h.e45 d).on hb, e53 := fun d => (h.e53 d).on hb, e60 := fun d => (h.e60 d).on hb, e37 := fun _ => hv }⟩
    · intro L s w2 h hk hd hn
      have gq := h.e36 hd.1
      refine stepS (by simp [Region.wanted, yieldS, gq]) fun K hK => ?_
      go_simp
      exact hK _ _ { h with e38 := fun _ => rfl }
    · intro L s w2 h hk hd hn
      have gq := h.e36 hd.2.2.1
      have s357 := h.e38 hd.1
      refine stepS (by simp [Region.wanted, yieldS, gq]) fun K hK => ?_
      go_simp
      refine (kn10_39 _).mono ?_
      rintro e w3 ⟨rfl, hb⟩
      exact ⟨_, rfl, hK _ _ { h with bel := below_step h.bel hb, e3 := fun d => (h.e3 d).on hb, e12 := fun d => (h.e12 d).on hb, e21 := fun d => (h.e21 d).on hb, e29 := fun d => (h.e29 d).on hb, e37 := fun d => (h.e37 d).on hb, e45 := fun d => (h.e45 d).on hb, e53 := fun d => (h.e53 d).on hb, e60 := fun d => (h.e60 d).on hb, e39 := fun _ => rfl }⟩
    · intro L s w2 h hk hd hn
      have gq := h.e36 hd.2.1
      have s358 := h.e39 hd.1
      refine stepS (by simp [Region.wanted, yieldS, gq]) fun K hK => ?_
      go_simp
      exact hK _ _ { h with e40 := fun _ => rfl }
    · intro L s w2 h hk hd hn
      have gq := h.e36 hd.2.1
      have s358 := h.e39 hd.1
      refine stepS (by simp [Region.wanted, yieldS, gq]) fun K hK => ?_
      go_simp
      exact hK _ _ { h with e41 := fun _ => rfl }
    · intro L s w2 h hk hd hn
      have gq := h.e36 hd.2.2.2.2.1
      have s359 := h.e40 hd.2.1
      have s360 := h.e41 hd.2.2.1
      obtain ⟨Q, sF, hQ⟩ := h.e37 hd.1
      refine stepS (by simp [Region.wanted, yieldS, gq]) fun K hK => ?_
      go_simp
      refine (sy1_at hQ).mono ?_
      rintro e w3 ⟨rfl, hb⟩
      exact ⟨_, rfl, hK _ _ { h with bel := below_step h.bel hb, e3 := fun d => (h.e3 d).on hb, e12 := fun d => (h.e12 d).on hb, e21 := fun d => (h.e21 d).on hb, e29 := fun d => (h.e29 d).on hb, e37 := fun d => (h.e37 d).on hb, e45 := fun d => (h.e45 d).on hb, e53 := fun d => (h.e53 d).on hb, e60 := fun d => (h.e60 d).on hb, e42 := fun _ => rfl }⟩
    · intro L s w2 h hk hd hn
      have s355 := h.e36 hd.1
      have s361 := h.e42 hd.2.1
      refine stepS rfl fun K hK => ?_
      go_simp
      exact hK _ _ { h with e43 := fun _ => rfl }
    · intro L s w2 h hk hd hn
      have s362 := h.e43 hd.1
      refine stepS rfl fun K hK => ?_
      go_simp
      exact hK _ _ { h with e44 := fun _ => rfl }
    · intro L s w2 h hk hd hn
      have gq := h.e44 hd.1
      refine stepS (by simp [Region.wanted, yieldS, gq]) fun K hK => ?_
      go_simp
      refine (sy_at 1 _).mono ?_
      rintro e w3 ⟨v, rfl, hv, hb⟩
      exact ⟨_, rfl, hK _ _ { h with bel := below_step h.bel hb, e3 := fun d => (h.e3 d).on hb, e12 := fun d => (h.e12 d).on hb, e21 := fun d => (h.e21 d).on hb, e29 := fun d => (h.e29 d).on hb, e37 := fun d => (h.e37 d).on hb, e53 := fun d => (h.e53 d).on hb, e60 := fun d => (h.e60 d).on hb, e45 := fun _ => hv }⟩
    · intro L s w2 h hk hd hn
      have gq := h.e44 hd.1
      have s3 : s 3 = _ := hk 3 (by kernel_rfl)
      have b := (h.bel.block _ (lt_of_block HBO.out)).trans HBO.out
      have c0 := cell_two0 b
      have c1 := cell_two1 b
      refine stepS (by simp [Region.wanted, yieldS, gq]) fun K hK => ?_
      go_simp
      exact hK _ _ { h with e46 := fun _ => rfl }
    · intro L s w2 h hk hd hn
      have gq := h.e44 hd.2.2.1
      have s365 := h.e46 hd.1
      refine stepS (by simp [Region.wanted, yieldS, gq]) fun K hK => ?_
      go_simp
      refine (kn10_47 _).mono ?_
      rintro e w3 ⟨rfl, hb⟩
      exact ⟨_, rfl, hK _ _ { h with bel := below_step h.bel hb, e3 := fun d => (h.e3 d).on hb, e12 := fun d => (h.e12 d).on hb, e21 := fun d => (h.e21 d).on hb, e29 := fun d => (h.e29 d).on hb, e37 := fun d => (h.e37 d).on hb, e45 := fun d => (h.e45 d).on hb, e53 := fun d => (h.e53 d).on hb, e60 := fun d => (h.e60 d).on hb, e47 := fun _ => rfl }⟩
    · intro L s w2 h hk hd hn
      have gq := h.e44 hd.2.1
      have s366 := h.e47 hd.1
      refine stepS (by simp [Region.wanted, yieldS, gq]) fun K hK => ?_
      go_simp
      exact hK _ _ { h with e48 := fun _ => rfl }
    · intro L s w2 h hk hd hn
      have gq := h.e44 hd.2.1
      have s366 := h.e47 hd.1
      refine stepS (by simp [Region.wanted, yieldS, gq]) fun K hK => ?_
      go_simp
      exact hK _ _ { h with e49 := fun _ => rfl }
    · intro L s w2 h hk hd hn
      have gq := h.e44 hd.2.2.2.2.1
      have s367 := h.e48 hd.2.1
      have s368 := h.e49 hd.2.2.1
      obtain ⟨Q, sF, hQ⟩ := h.e45 hd.1
      refine stepS (by simp [Region.wanted, yieldS, gq]) fun K hK => ?_
      go_simp
      refine (sy1_at hQ).mono ?_
      rintro e w3 ⟨rfl, hb⟩
      exact ⟨_, rfl, hK _ _ { h with bel := below_step h.bel hb, e3 := fun d => (h.e3 d).on hb, e12 := fun d => (h.e12 d).on hb, e21 := fun d => (h.e21 d).on hb, e29 := fun d => (h.e29 d).on hb, e37 := fun d => (h.e37 d).on hb, e45 := fun d => (h.e45 d).on hb, e53 := fun d => (h.e53 d).on hb, e60 := fun d => (h.e60 d).on hb, e50 := fun _ => rfl }⟩
    · intro L s w2 h hk hd hn
      have s363 := h.e44 hd.1
      have s369 := h.e50 hd.2.1
      refine stepS rfl fun K hK => ?_
      go_simp
      exact hK _ _ { h with e51 := fun _ => rfl }
    · intro L s w2 h hk hd hn
      have s370 := h.e51 hd.1
      refine stepS rfl fun K hK => ?_
      go_simp
      exact hK _ _ { h with e52 := fun _ => rfl }
    · intro L s w2 h hk hd hn
      have gq := h.e52 hd.1
      refine stepS (by simp [Region.wanted, yieldS, gq]) fun K hK => ?_
      go_simp
      refine (fl_at 2 _).mono ?_
      rintro e w3 ⟨v, rfl, hv, hb⟩
      exact ⟨_, rfl, hK _ _ { h with bel := below_step h.bel hb, e3 := fun d => (h.e3 d).on hb, e12 := fun d => (h.e12 d).on hb, e21 := fun d => (h.e21 d).on hb, e29 := fun d => (h.e29 d).on hb, e37 := fun d => (h.e37 d).on hb, e45 := fun d => (h.e45 d).on hb, e60 := fun d => (h.e60 d).on hb, e53 := fun _ => hv }⟩
    · intro L s w2 h hk hd hn
      have gq := h.e52 hd.2.1
      refine stepS (by simp [Region.wanted, yieldS, gq]) fun K hK => ?_
      go_simp
      refine (kn10_54 _ (HPW.out.below h.bel)).mono ?_
      rintro e w3 ⟨rfl, hb⟩
      exact ⟨_, rfl, hK _ _ { h with bel := below_step h.bel hb, e3 := fun d => (h.e3 d).on hb, e12 := fun d => (h.e12 d).on hb, e21 := fun d => (h.e21 d).on hb, e29 := fun d => (h.e29 d).on hb, e37 := fun d => (h.e37 d).on hb, e45 := fun d => (h.e45 d).on hb, e53 := fun d => (h.e53 d).on hb, e60 := fun d => (h.e60 d).on hb, e54 := fun _ => rfl }⟩
    · intro L s w2 h hk hd hn
      have gq := h.e52 hd.2.1
      have s373 := h.e54 hd.1
      refine stepS (by simp [Region.wanted, yieldS, gq]) fun K hK => ?_
      go_simp
      exact hK _ _ { h with e55 := fun _ => rfl }
    · intro L s w2 h hk hd hn
      have gq := h.e52 hd.2.1
      have s373 := h.e54 hd.1
      refine stepS (by simp [Region.wanted, yieldS, gq]) fun K hK => ?_
      go_simp
      exact hK _ _ { h with e56 := fun _ => rfl }
    · intro L s w2 h hk hd hn
      have gq := h.e52 hd.2.2.2.2.1
      have s374 := h.e55 hd.2.1
      have s375 := h.e56 hd.2.2.1
      obtain ⟨Q, sF, hQ⟩ := h.e53 hd.1
      refine stepS (by simp [Region.wanted, yieldS, gq]) fun K hK => ?_
      go_simp
      refine (fl1_at hQ).mono ?_
      rintro e w3 ⟨rfl, hb⟩
      exact ⟨_, rfl, hK _ _ { h with bel := below_step h.bel hb, e3 := fun d => (h.e3 d).on hb, e12 := fun d => (h.e12 d).on hb, e21 := fun d => (h.e21 d).on hb, e29 := fun d => (h.e29 d).on hb, e37 := fun d => (h.e37 d).on hb, e45 := fun d => (h.e45 d).on hb, e53 := fun d => (h.e53 d).on hb, e60 := fun d => (h.e60 d).on hb, e57 := fun _ => rfl }⟩
    · intro L s w2 h hk hd hn
      have s371 := h.e52 hd.1
      have s376 := h.e57 hd.2.1
      refine stepS rfl fun K hK => ?_
      go_simp
      exact hK _ _ { h with e58 := fun _ => rfl }
    · intro L s w2 h hk hd hn
      have s377 := h.e58 hd.1
      refine stepS rfl fun K hK => ?_
      go_simp
      exact hK _ _ { h with e59 := fun _ => rfl }
    · intro L s w2 h hk hd hn
      have gq := h.e59 hd.1
      refine stepS (by simp [Region.wanted, yieldS, gq]) fun K hK => ?_
      go_simp
      refine (fl_at 6 _).mono ?_
      rintro e w3 ⟨v, rfl, hv, hb⟩
      exact ⟨_, rfl, hK _ _ { h with bel := below_step h.bel hb, e3 := fun d => (h.e3 d).on hb, e12 := fun d => (h.e12 d).on hb, e21 := fun d => (h.e21 d).on hb, e29 := fun d => (h.e29 d).on hb, e37 := fun d => (h.e37 d).on hb, e45 := fun d => (h.e45 d).on hb, e53 := fun d => (h.e53 d).on hb, e60 := fun _ => hv }⟩
    · intro L s w2 h hk hd hn
      have gq := h.e59 hd.2.1
      refine stepS (by simp [Region.wanted, yieldS, gq]) fun K hK => ?_
      go_simp
      refine (kn10_61 _ (HPW.out.below h.bel)).mono ?_
      rintro e w3 ⟨rfl, hb⟩
      exact ⟨_, rfl, hK _ _ { h with bel := below_step h.bel hb, e3 := fun d => (h.e3 d).on hb, e12 := fun d => (h.e12 d).on hb, e21 := fun d => (h.e21 d).on hb, e29 := fun d => (h.e29 d).on hb, e37 := fun d => (h.e37 d).on hb, e45 := fun d => (h.e45 d).on hb, e53 := fun d => (h.e53 d).on hb, e60 := fun d => (h.e60 d).on hb, e61 := fun _ => rfl }⟩
    · intro L s w2 h hk hd hn
      have gq := h.e59 hd.2.1
      have s380 := h.e61 hd.1
      refine stepS (by simp [Region.wanted, yieldS, gq]) fun K hK => ?_
      go_simp
      exact hK _ _ { h with e62 := fun _ => rfl }
    · intro L s w2 h hk hd hn
      have gq := h.e59 hd.2.1
      have s380 := h.e61 hd.1
      refine stepS (by simp [Region.wanted, yieldS, gq]) fun K hK => ?_
      go_simp
      exact hK _ _ { h with e63 := fun _ => rfl }
    · intro L s w2 h hk hd hn
      have gq := h.e59 hd.2.2.2.2.1
      have s381 := h.e62 hd.2.1
      have s382 := h.e63 hd.2.2.1
      obtain ⟨Q, sF, hQ⟩ := h.e60 hd.1
      refine stepS (by simp [Region.wanted, yieldS, gq]) fun K hK => ?_
      go_simp
      refine (fl1_at hQ).mono ?_
      rintro e w3 ⟨rfl, hb⟩
      exact ⟨_, rfl, hK _ _ { h with bel := below_step h.bel hb, e3 := fun d => (h.e3 d).on hb, e12 := fun d => (h.e12 d).on hb, e21 := fun d => (h.e21 d).on hb, e29 := fun d => (h.e29 d).on hb, e37 := fun d => (h.e37 d).on hb, e45 := fun d => (h.e45 d).on hb, e53 := fun d => (h.e53 d).on hb, e60 := fun d => (h.e60 d).on hb, e64 := fun _ => rfl }⟩
    · intro L s w2 h hk hd hn
      have s378 := h.e59 hd.1
      have s383 := h.e64 hd.2.1
      refine stepS rfl fun K hK => ?_
      go_simp
      exact hK _ _ { h with e65 := fun _ => rfl }
    · intro L s w2 h hk hd hn
      have s384 := h.e65 hd.1
      refine stepS rfl fun K hK => ?_
      go_simp
      exact hK _ _ { h with e66 := fun _ => rfl, o4 := fun d => Bool.noConfusion (show true = false from d), dl := fun _ => hd.2.2.1 }
  intro L s wc h hk hl a ha
  have k1 : s 1 = .pointer (some ⟨M, 0, none⟩) := hk 1 (by kernel_rfl)
  have k2 : s 2 = .pointer (some ⟨B, 0, none⟩) := hk 2 (by kernel_rfl)
  have k3 : s 3 = .pointer (some ⟨O, 0, none⟩) := hk 3 (by kernel_rfl)
  have k4 : s 4 = .bool true := h.e66 (hl 66 (by decide))
  replace ha := ha.trans (show actS _ s [] = ⟨#[s 0, s 1, s 2, s 3, s 4, s 5, s 6, s 7, s 8, s 9, s 10, s 11, s 12, s 13, s 14, s 15, s 16, s 17, s 18, s 19, s 20, s 21, s 22, s 23, s 24, s 25, s 26, s 27, s 28, s 29, s 30, s 31, s 32, s 33, s 34, s 35, s 36, s 37, s 38, s 39, s 40, s 41, s 42, s 43, s 44, s 45, s 46, s 47, s 48, s 49, s 50, s 51, s 52, s 53, s 54, s 55, s 56, s 57, s 58, s 59, s 60, s 61, s 62, s 63, s 64, s 65, s 66, s 67, s 68, s 69, s 70, s 71, s 72, s 73, s 74, s 75, s 76, s 77, s 78, s 79, s 80, s 81, s 82, s 83, s 84, s 85, s 86, s 87, s 88, s 89, s 90, s 91, s 92, s 93, s 94, s 95, s 96, s 97, s 98, s 99, s 100, s 101, s 102, s 103, s 104, s 105, s 106, s 107, s 108, s 109, s 110, s 111, s 112, s 113, s 114, s 115, s 116, s 117, s 118, s 119, s 120, s 121, s 122, s 123, s 124, s 125, s 126, s 127, s 128, s 129, s 130, s 131, s 132, s 133, s 134, s 135, s 136, s 137, s 138, s 139, s 140, s 141, s 142, s 143, s 144, s 145, s 146, s 147, s 148, s 149, s 150, s 151, s 152, s 153, s 154, s 155, s 156, s 157, s 158, s 159, s 160, s 161, s 162, s 163, s 164, s 165, s 166, s 167, s 168, s 169, s 170, s 171, s 172, s 173, s 174, s 175, s 176, s 177, s 178, s 179, s 180, s 181, s 182, s 183, s 184, s 185, s 186, s 187, s 188, s 189, s 190, s 191, s 192, s 193, s 194, s 195, s 196, s 197, s 198, s 199, s 200, s 201, s 202, s 203, s 204, s 205, s 206, s 207, s 208, s 209, s 210, s 211, s 212, s 213, s 214, s 215, s 216, s 217, s 218, s 219, s 220, s 221, s 222, s 223, s 224, s 225, s 226, s 227, s 228, s 229, s 230, s 231, s 232, s 233, s 234, s 235, s 236, s 237, s 238, s 239, s 240, s 241, s 242, s 243, s 244, s 245, s 246, s 247, s 248, s 249, s 250, s 251, s 252, s 253, s 254, s 255, s 256, s 257, s 258, s 259, s 260, s 261, s 262, s 263, s 264, s 265, s 266, s 267, s 268, s 269, s 270, s 271, s 272, s 273, s 274, s 275, s 276, s 277, s 278, s 279, s 280, s 281, s 282, s 283, s 284, s 285, s 286, s 287, s 288, s 289, s 290, s 291, s 292, s 293, s 294, s 295, s 296, s 297, s 298, s 299, s 300, s 301, s 302, s 303, s 304, s 305, s 306, s 307, s 308, s 309, s 310, s 311, s 312, s 313, s 314, s 315, s 316, s 317, s 318, s 319, s 320, s 321, s 322, s 323, s 324, s 325, s 326, s 327, s 328, s 329, s 330, s 331, s 332, s 333, s 334, s 335, s 336, s 337, s 338, s 339, s 340, s 341, s 342, s 343, s 344, s 345, s 346, s 347, s 348, s 349, s 350, s 351, s 352, s 353, s 354, s 355, s 356, s 357, s 358, s 359, s 360, s 361, s 362, s 363, s 364, s 365, s 366, s 367, s 368, s 369, s 370, s 371, s 372, s 373, s 374, s 375, s 376, s 377, s 378, s 379, s 380, s 381, s 382, s 383, s 384, s 385, s 386, s 387, s 388, s 389, s 390, s 391, s 392, s 393, s 394, s 395, s 396, s 397, s 398, s 399, s 400, s 401, s 402, s 403, s 404, s 405, s 406, s 407, s 408, s 409, s 410, s 411, s 412, s 413, s 414, s 415, s 416, s 417, s 418, s 419, s 420, s 421, s 422, s 423, s 424, s 425], []⟩ by kernel_rfl)
  rw [k1, k2, k3, k4] at ha
  subst ha
  replace HK := Lib.hid (HK.out.on h.bel)
  clear h hk hl k1 k2 k3 k4 HBO HBB HBM HPW
  have hS := HK.out
  have d1 := fun W => span_Mid (1, 0) W
  rw [show sMid (1, 0) = (0, 20) by decide] at d1
  have D1 := Lib.hid d1
  clear d1
  have d2 := fun W => span_Has (1, 0) 1 W
  rw [show sHas (1, 0) 1 = (false, 20) by decide] at d2
  have D2 := Lib.hid d2
  clear d2
  have lB := lt_of_block (hS.blk (B, .cells #[.int .i64 1, .int .i64 0] 23 (0, 0)) (List.Mem.tail _ (List.Mem.head _)))
  have cB0 := cell_two0 (hS.blk (B, .cells #[.int .i64 1, .int .i64 0] 23 (0, 0)) (List.Mem.tail _ (List.Mem.head _)))
  have cB1 := cell_two1 (hS.blk (B, .cells #[.int .i64 1, .int .i64 0] 23 (0, 0)) (List.Mem.tail _ (List.Mem.head _)))
  go_wp2_with fail
  clear lB cB0 cB1
  replace hS := hS.al (.cells #[.int .i64 (-9223372036854775808), .int .u8 255, .int .u32 4294967295] 26 (0, 0))
  refine (hS.call (D1.out _)).mono ?_; rintro e y0 ⟨rfl, hS⟩
  have lB := lt_of_block (hS.blk (B, .cells #[.int .i64 1, .int .i64 0] 23 (0, 0)) (List.Mem.tail _ (List.Mem.tail _ (List.Mem.head _))))
  have cB0 := cell_two0 (hS.blk (B, .cells #[.int .i64 1, .int .i64 0] 23 (0, 0)) (List.Mem.tail _ (List.Mem.tail _ (List.Mem.head _))))
  have cB1 := cell_two1 (hS.blk (B, .cells #[.int .i64 1, .int .i64 0] 23 (0, 0)) (List.Mem.tail _ (List.Mem.tail _ (List.Mem.head _))))
  go_wp2_with fail
  clear lB cB0 cB1
  refine (hS.call (D2.out _)).mono ?_; rintro e y1 ⟨rfl, hS⟩
  go_wp2_with fail
  refine (hS.call (law2_works _ (HP.out.below hS.bel))).mono ?_; rintro e y2 ⟨rfl, hS⟩
  have lD := lt_of_block (hS.blk (wc.heap.size, .cells #[.int .i64 (-9223372036854775808), .int .u8 255, .int .u32 4294967295] 26 (0, 0)) (List.Mem.head _))
  obtain ⟨cD0, cD1, cD2⟩ := kn_thr (hS.blk (wc.heap.size, .cells #[.int .i64 (-9223372036854775808), .int .u8 255, .int .u32 4294967295] 26 (0, 0)) (List.Mem.head _))
  go_wp2_with fail
  clear lD cD0 cD1 cD2
  refine (hS.call (draft_Span (-9223372036854775808) 255 4294967295 (by decide) (by decide) _)).mono ?_; rintro e y3 ⟨rfl, hS⟩
  go_wp2_with fail
  refine (hS.call (span_Check_ok (dSpan_okS _ _ _ (by decide)) _)).mono ?_; rintro e y4 ⟨rfl, hS⟩
  have lD := lt_of_block (hS.blk (wc.heap.size, .cells #[.int .i64 (-9223372036854775808), .int .u8 255, .int .u32 4294967295] 26 (0, 0)) (List.Mem.head _))
  obtain ⟨cD0, cD1, cD2⟩ := kn_thr (hS.blk (wc.heap.size, .cells #[.int .i64 (-9223372036854775808), .int .u8 255, .int .u32 4294967295] 26 (0, 0)) (List.Mem.head _))
  go_wp2_with fail
  clear lD cD0 cD1 cD2
  refine (hS.call (draft_Small (-9223372036854775808) 255 4294967295 (by decide) (by decide) _)).mono ?_; rintro e y5 ⟨rfl, hS⟩
  go_wp2_with fail
  refine (hS.call (span_Check_ok (dSmall_sml _ _ _ (by decide)).1 _)).mono ?_; rintro e y6 ⟨rfl, hS⟩
  go_wp2_with fail
  go_ret
  exact ⟨rfl, hS.bel⟩
end Go.Proofs.YtjphhdfkkkdppaaDoor
