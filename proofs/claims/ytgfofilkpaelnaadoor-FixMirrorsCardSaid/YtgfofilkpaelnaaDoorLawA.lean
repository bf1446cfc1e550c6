/- Contracts of law 01's helpers: is, fails, near; the values of roots. -/
import Derived.Test.YtgfofilkpaelnaaDoorFixT
namespace Go.Proofs.YtgfofilkpaelnaaDoor
open Go.RowKit Mnc

/-- A variable that was just boxed, and all else as it was. -/
structure Boxd (w w' : World) (n : Int) : Prop where
  bel : Below w.heap.size w w'
  cell : w'.cell? ⟨w.heap.size, 0, none⟩ = some (.int .i64 n)
  lt : w.heap.size < w'.heap.size

theorem Boxd.on {w w' W : World} {n : Int} (h : Boxd w w' n) (k : Below w'.heap.size w' W) : W.cell? ⟨w.heap.size, 0, none⟩ = some (.int .i64 n) := (k.cell h.lt).trans h.cell

theorem law1_is (n : Int) (w : World) :
    Calls Tryd.prog 43 #[.int .i64 n] w fun e w' => e = .returned (.func (.func 113) #[] #[.pointer (some ⟨w.heap.size, 0, none⟩)]) ∧ Boxd w w' n := by
  go_enter Tryd.func43, Tryd.ntmps43
  go_wp2
  go_ret
  exact ⟨rfl, (Below.refl _ _).alloc (Nat.le_refl _) _, by simp, by simp⟩

theorem law1_fails (n : Int) (w : World) :
    Calls Tryd.prog 42 #[.int .i64 n] w fun e w' => e = .returned (.func (.func 112) #[] #[.pointer (some ⟨w.heap.size, 0, none⟩)]) ∧ Boxd w w' n := by
  go_enter Tryd.func42, Tryd.ntmps42
  go_wp2
  go_ret
  exact ⟨rfl, (Below.refl _ _).alloc (Nat.le_refl _) _, by simp, by simp⟩

theorem law1_is1 (n : Int) (w : World) (B : Nat) (hc : w.cell? ⟨B, 0, none⟩ = some (.int .i64 n)) :
    Calls Tryd.prog 113 #[.int .i64 n, .int .i64 0, .pointer (some ⟨B, 0, none⟩)] w fun e w' => e = .returned (.bool true) ∧ w = w' := by
  go_enter Tryd.func113, Tryd.ntmps113
  go_wp2
  go_ret
  exact ⟨rfl, rfl⟩

theorem law1_fails1 (n : Int) (w : World) (B : Nat) (hc : w.cell? ⟨B, 0, none⟩ = some (.int .i64 n)) :
    Calls Tryd.prog 112 #[.int .i64 0, .int .i64 n, .pointer (some ⟨B, 0, none⟩)] w fun e w' => e = .returned (.bool true) ∧ w = w' := by
  go_enter Tryd.func112, Tryd.ntmps112
  go_wp2
  go_ret
  exact ⟨rfl, rfl⟩

/-- What near hands back. -/
def nearOf (n : Int) (raw : Bool) : Int := if raw then n else n.tmod 4503599627370497
theorem near_ok (n : Int) : ok (nearOf n false) := by
  have h : nearOf n false = n.tmod 4503599627370497 := by simp [nearOf]
  rw [h]
  have h1 := Int.tmod_lt_of_pos n (b := 4503599627370497) (by omega)
  have h2 := Int.tmod_lt_of_pos (-n) (b := 4503599627370497) (by omega)
  rw [Int.neg_tmod] at h2
  exact ⟨by omega, by omega⟩

theorem law1_near (n : Int) (raw : Bool) (w : World) :
    Calls Tryd.prog 19 #[.int .i64 n, .bool raw] w fun e w' => e = .returned (.int .i64 (nearOf n raw)) ∧ w = w' := by
  cases raw
  · have h := Lib.hid (show nearOf n false = n.tmod 4503599627370497 by simp [nearOf])
    go_enter Tryd.func19, Tryd.ntmps19
    go_wp2
    go_ret
    exact ⟨ret_int h.out.symm, rfl⟩
  · have h := Lib.hid (show nearOf n true = n by simp [nearOf])
    go_enter Tryd.func19, Tryd.ntmps19
    go_wp2
    go_ret
    exact ⟨ret_int h.out.symm, rfl⟩

theorem rt_down {a r : Nat} (ha : a ≤ 4503599627370496) (h1 : r * r ≤ a * 4294967296) (h2 : a * 4294967296 < (r + 1) * (r + 1)) : rt false (a : Int) = ((r : Int), 0) := by
  rw [rt_ok false (by unfold ok; omega) (by omega), Int.toNat_natCast, rtOf, if_neg (by simp), isq_eq h1 h2]
theorem rt_up {a r : Nat} (ha : a ≤ 4503599627370496) (h1 : r * r < a * 4294967296) (h2 : a * 4294967296 < (r + 1) * (r + 1)) : rt true (a : Int) = (((r + 1 : Nat) : Int), 0) := by
  rw [rt_ok true (by unfold ok; omega) (by omega), Int.toNat_natCast, rtOf, isq_eq (Nat.le_of_lt h1) h2, if_pos ⟨rfl, by omega⟩]
theorem rt_up_eq {a r : Nat} (ha : a ≤ 4503599627370496) (h1 : r * r = a * 4294967296) : rt true (a : Int) = ((r : Int), 0) := by
  have h2 : a * 4294967296 < (r + 1) * (r + 1) := by
    rw [Nat.mul_add, Nat.add_mul]
    omega
  rw [rt_ok true (by unfold ok; omega) (by omega), Int.toNat_natCast, rtOf, isq_eq (Nat.le_of_eq h1) h2, if_neg (by simp [h1])]
end Go.Proofs.YtgfofilkpaelnaaDoor
