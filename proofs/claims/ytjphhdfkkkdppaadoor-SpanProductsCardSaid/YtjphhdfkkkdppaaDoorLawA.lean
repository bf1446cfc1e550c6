/- Contracts of law 01's helpers: is, fails, near; the values of roots. -/
import Derived.Test.YtjphhdfkkkdppaaDoorFixI
namespace Go.Proofs.YtjphhdfkkkdppaaDoor
open Go.RowKit Mnc

/-- A variable that was just boxed, and all else as it was. -/
structure Boxd (w w' : World) (n : Int) : Prop where
  bel : Below w.heap.size w w'
  cell : w'.cell? ⟨w.heap.size, 0, none⟩ = some (.int .i64 n)
  lt : w.heap.size < w'.heap.size

theorem Boxd.on {w w' W : World} {n : Int} (h : Boxd w w' n) (k : Below w'.heap.size w' W) : W.cell? ⟨w.heap.size, 0, none⟩ = some (.int .i64 n) := (k.cell h.lt).trans h.cell

/-- What near hands back. -/
def nearOf (n : Int) (raw : Bool) : Int := if raw then n else n.tmod 4503599627370497
theorem near_ok (n : Int) : ok (nearOf n false) := by
  have h : nearOf n false = n.tmod 4503599627370497 := by simp [nearOf]
  rw [h]
  have h1 := Int.tmod_lt_of_pos n (b := 4503599627370497) (by omega)
  have h2 := Int.tmod_lt_of_pos (-n) (b := 4503599627370497) (by omega)
  rw [Int.neg_tmod] at h2
  exact ⟨by omega, by omega⟩

theorem rt_down {a r : Nat} (ha : a ≤ 4503599627370496) (h1 : r * r ≤ a * 4294967296) (h2 : a * 4294967296 < (r + 1) * (r + 1)) : rt false (a : Int) = ((r : Int), 0) := by
  rw [rt_ok false (by unfold ok; omega) (by omega), Int.toNat_natCast, rtOf, if_neg (by simp), isq_eq h1 h2]
theorem rt_up {a r : Nat} (ha : a ≤ 4503599627370496) (h1 : r * r < a * 4294967296) (h2 : a * 4294967296 < (r + 1) * (r + 1)) : rt true (a : Int) = (((r + 1 : Nat) : Int), 0) := by
  rw [rt_ok true (by unfold ok; omega) (by omega), Int.toNat_natCast, rtOf, isq_eq (Nat.le_of_lt h1) h2, if_pos ⟨rfl, by omega⟩]
theorem rt_up_eq {a r : Nat} (ha : a ≤ 4503599627370496) (h1 : r * r = a * 4294967296) : rt true (a : Int) = ((r : Int), 0) := by
  have h2 : a * 4294967296 < (r + 1) * (r + 1) := by
    rw [Nat.mul_add, Nat.add_mul]
    omega
  rw [rt_ok true (by unfold ok; omega) (by omega), Int.toNat_natCast, rtOf, isq_eq (Nat.le_of_eq h1) h2, if_neg (by simp [h1])]
end Go.Proofs.YtjphhdfkkkdppaaDoor
