/- What the laws of chapter 08 share: few; the boxes of a law with an interval and a draft. Printed by wip/genPL.py. -/
import Derived.Deep.RegionHeld3
import Derived.Test.YtgfofilkpaelnaaLawPW
import Derived.Test.YtgfofilkpaelnaaRef8
namespace Go.Proofs.Ytgfofilkpaelnaa
open Go.RowKit Go.Shelf Mnc

theorem law8_few (ao : Option Addr) (n cap : Nat) (h1 : n ≤ cap) (h2 : cap ≤ 9223372036854775807) (w : World) :
    Calls Try.prog 17 #[.slice ao n cap] w fun e w' => e = .returned (.slice ao (min n 10) cap) ∧ w = w' := by
  rcases Nat.le_total n 10 with h | h
  · have hm : min (n : Int) 10 = (n : Int) := by omega
    have HM := Lib.hid (Nat.min_eq_left h)
    go_enter Try.func17, Try.ntmps17
    go_wp2
    go_ret
    exact ⟨by rw [HM.out]; rfl, rfl⟩
  · have hm : min (n : Int) 10 = 10 := by omega
    have HM := Lib.hid (Nat.min_eq_right h)
    have h3 : 10 ≤ cap := by omega
    go_enter Try.func17, Try.ntmps17
    go_wp2
    go_ret
    exact ⟨by rw [HM.out]; rfl, rfl⟩

/-- An interval and a draft in their boxes; three slices. -/
structure LwB (w W : World) (s : Int × Int) (x : Dr) (a0 a1 a2 : Option Addr) (c0 c1 c2 : Nat) (l0 l1 l2 : List (Int × Int)) : Prop where
  bel : Below w.heap.size w W
  bs : W.heap[w.heap.size]? = some (.cells #[.int .i64 s.1, .int .i64 s.2] 24 (0, 0))
  bx : W.heap[w.heap.size + 1]? = some (.cells #[.int .i64 x.1, .int .u8 x.2.1, .int .u32 x.2.2] 28 (0, 0))
  s0 : SpSl W a0 c0 l0
  s1 : SpSl W a1 c1 l1
  s2 : SpSl W a2 c2 l2
theorem LwB.on {w W W' : World} {s : Int × Int} {x : Dr} {a0 a1 a2 : Option Addr} {c0 c1 c2 : Nat} {l0 l1 l2 : List (Int × Int)} (h : LwB w W s x a0 a1 a2 c0 c1 c2 l0 l1 l2) (k : Below W.heap.size W W') : LwB w W' s x a0 a1 a2 c0 c1 c2 l0 l1 l2 :=
  ⟨below_step h.bel k, (k.block _ (lt_of_block h.bs)).trans h.bs, (k.block _ (lt_of_block h.bx)).trans h.bx, h.s0.on k, h.s1.on k, h.s2.on k⟩
theorem cell_three {w : World} {n : Nat} {a b c : Value} {t : TypeId} (h : w.heap[n]? = some (.cells #[a, b, c] t (0, 0))) : w.cell? ⟨n, 0, none⟩ = some a ∧ w.cell? ⟨n, 1, none⟩ = some b ∧ w.cell? ⟨n, 2, none⟩ = some c := by
  simp [World.cell?, h]
theorem keep5 {w3 W : World} {B0 B1 : Nat} {x y z u v : Value} (l0 : B0 < w3.heap.size) (l1 : B1 < w3.heap.size) (a0 : w3.cell? ⟨B0, 0, none⟩ = some x) (a1 : w3.cell? ⟨B0, 1, none⟩ = some y) (b0 : w3.cell? ⟨B1, 0, none⟩ = some z) (b1 : w3.cell? ⟨B1, 1, none⟩ = some u) (b2 : w3.cell? ⟨B1, 2, none⟩ = some v) (k : Below w3.heap.size w3 W) :
    W.cell? ⟨B0, 0, none⟩ = some x ∧ W.cell? ⟨B0, 1, none⟩ = some y ∧ W.cell? ⟨B1, 0, none⟩ = some z ∧ W.cell? ⟨B1, 1, none⟩ = some u ∧ W.cell? ⟨B1, 2, none⟩ = some v ∧ Below w3.heap.size w3 W :=
  ⟨(k.cell (p := ⟨B0, 0, none⟩) l0).trans a0, (k.cell (p := ⟨B0, 1, none⟩) l0).trans a1, (k.cell (p := ⟨B1, 0, none⟩) l1).trans b0, (k.cell (p := ⟨B1, 1, none⟩) l1).trans b1, (k.cell (p := ⟨B1, 2, none⟩) l1).trans b2, k⟩

theorem pickL_0 (x0 x1 x2 : Value) (w : World) :
    (Instr.index 32 (.agg #[x0, x1, x2]) (.int .i64 0)).run Try.prog w = .ok x0 w := by kernel_rfl
theorem pickL_1 (x0 x1 x2 : Value) (w : World) :
    (Instr.index 32 (.agg #[x0, x1, x2]) (.int .i64 1)).run Try.prog w = .ok x1 w := by kernel_rfl
theorem pickL_2 (x0 x1 x2 : Value) (w : World) :
    (Instr.index 32 (.agg #[x0, x1, x2]) (.int .i64 2)).run Try.prog w = .ok x2 w := by kernel_rfl
theorem pickS_0 (x0 x1 x2 x3 : Value) (w : World) :
    (Instr.index 34 (.agg #[x0, x1, x2, x3]) (.int .i64 0)).run Try.prog w = .ok (.agg #[x0, x1]) w := by kernel_rfl
theorem pickS_1 (x0 x1 x2 x3 : Value) (w : World) :
    (Instr.index 34 (.agg #[x0, x1, x2, x3]) (.int .i64 1)).run Try.prog w = .ok (.agg #[x2, x3]) w := by kernel_rfl
end Go.Proofs.Ytgfofilkpaelnaa
