/- Contracts of law 02's within, inside, at. -/
import Derived.Deep.QuietTactic
import Derived.BigQuiet
import Derived.Test.YtjphhdfkkkdppaaDoorLawS
namespace Mnc
open Go
/-- The number of an interval that at chooses. -/
def atV (a : Int × Int) (n : Int) : Int := a.1 + n % (a.2 - a.1 + 1)
theorem atV_in {a : Int × Int} (h : okS a) (n : Int) : a.1 ≤ atV a n ∧ atV a n ≤ a.2 := by
  obtain ⟨h1, h2, h3⟩ := h
  have e1 := Int.emod_nonneg n (show a.2 - a.1 + 1 ≠ 0 by omega)
  have e2 := Int.emod_lt_of_pos n (show 0 < a.2 - a.1 + 1 by omega)
  unfold atV
  omega
end Mnc
namespace Go.Proofs.YtjphhdfkkkdppaaDoor
open Go.RowKit Mnc

theorem lc {α : Type} {a b : α} {l m : List α} (h : a = b) (k : l = m) : a :: l = b :: m := by rw [h, k]

set_option maxHeartbeats 1000000 in
theorem law2_within {a b : Int × Int} (h : sIn a b) (w : World) :
    Calls Tryd.prog 80 #[.agg #[.int .i64 a.1, .int .i64 a.2], .agg #[.int .i64 b.1, .int .i64 b.2]] w fun e w' => e = .returned (.bool true) ∧ Below w.heap.size w w' := by
  obtain ⟨h1, h2⟩ := h
  go_enter Tryd.func80, Tryd.ntmps80
  go_wp2
  go_ret
  exact ⟨rfl, below_alloc (below_alloc (Below.refl _ _) _) _⟩

set_option maxHeartbeats 1000000 in
theorem law2_inside {r q : (Int × Int) × Int} (h : rIn r q) (w : World) :
    Calls Tryd.prog 48 #[.agg #[.int .i64 r.1.1, .int .i64 r.1.2], .int .i64 r.2, .agg #[.int .i64 q.1.1, .int .i64 q.1.2], .int .i64 q.2] w fun e w' => e = .returned (.bool true) ∧ Below w.heap.size w w' := by
  have hS := ((Kn.start w).al (.cells #[.int .i64 r.1.1, .int .i64 r.1.2] 23 (0, 0))).al (.cells #[.int .i64 q.1.1, .int .i64 q.1.2] 23 (0, 0))
  by_cases k : q.2 = 0
  · obtain ⟨h1, h2⟩ := h k
    have H := Lib.hid h2
    clear h h2
    have d1 : (q.2 == 0) = true := by simp [k]
    have d2 : (q.2 != 0) = false := by simp [k]
    have d3 : (r.2 == 0) = true := by simp [h1]
    clear k h1
    go_enter Tryd.func48, Tryd.ntmps48
    go_wp2_with fail
    refine (hS.call (law2_within H.out _)).mono ?_; rintro e w1 ⟨rfl, hS⟩
    go_wp2_with fail
    go_ret
    exact ⟨rfl, hS.bel⟩
  · have d1 : (q.2 == 0) = false := by simp [k]
    have d2 : (q.2 != 0) = true := by simp [k]
    clear h k
    go_enter Tryd.func48, Tryd.ntmps48
    go_wp2_with fail
    go_ret
    exact ⟨rfl, hS.bel⟩

set_option maxHeartbeats 1000000 in
theorem law2_at {a : Int × Int} (h : okS a) (n : Int) (hn : 0 ≤ n ∧ n < 18446744073709551616) (w : World) :
    Calls Tryd.prog 46 #[.agg #[.int .i64 a.1, .int .i64 a.2], .int .u64 n] w fun e w' => e = .returned (.int .i64 (atV a n)) ∧ Below w.heap.size w w' := by
  have HV := Lib.hid (show atV a n = a.1 + n % (a.2 - a.1 + 1) from rfl)
  obtain ⟨h1, h2, h3⟩ := h
  obtain ⟨n1, n2⟩ := hn
  have e1 := Int.emod_nonneg n (show a.2 - a.1 + 1 ≠ 0 by omega)
  have e2 := Int.emod_lt_of_pos n (show 0 < a.2 - a.1 + 1 by omega)
  have e3 : (a.2 - a.1 + 1) ≠ 0 := by omega
  go_enter Tryd.func46, Tryd.ntmps46
  go_wp2_with fail
  go_quiet (fail)
  go_wp2_with fail
  go_ret
  exact ⟨by rw [HV.out]; rfl, below_drewN (below_alloc (Below.refl _ _) _) _⟩
end Go.Proofs.YtjphhdfkkkdppaaDoor
