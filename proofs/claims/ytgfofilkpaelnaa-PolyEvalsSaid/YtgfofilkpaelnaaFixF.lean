/- Contracts: the closures of fix.multiplied, divided, scaled. -/
import Derived.Test.YtgfofilkpaelnaaFixE
import Derived.Test.YtgfofilkpaelnaaFixS
import Derived.Deep.RegionHeld3
namespace Go.Proofs.Ytgfofilkpaelnaa
open Go.RowKit Mnc

theorem split128 (n : Nat) : n / 18446744073709551616 * 18446744073709551616 + n % 18446744073709551616 = n := by omega

theorem fix_quotient' (n d : Nat) (away : Bool) (hd : d < 18446744073709551616) (w : World) :
    Calls Try.prog 193 #[.agg #[.int .u64 ((n / 18446744073709551616 : Nat) : Int), .int .u64 ((n % 18446744073709551616 : Nat) : Int)], .int .u64 (d : Int), .bool away] w fun e w' => e = .returned (.tuple #[.int .u64 ((quo n d away).1 : Nat), .bool (quo n d away).2]) ∧ Below w.heap.size w w' := by
  have h := fix_quotient (n / 18446744073709551616) (n % 18446744073709551616) d away (Nat.mod_lt _ (by omega)) hd w
  rw [split128] at h
  exact h

theorem fix_quotient_one (n : Nat) (away : Bool) (w : World) :
    Calls Try.prog 193 #[.agg #[.int .u64 ((n / 18446744073709551616 : Nat) : Int), .int .u64 ((n % 18446744073709551616 : Nat) : Int)], .int .u64 4294967296, .bool away] w fun e w' => e = .returned (.tuple #[.int .u64 ((quo n 4294967296 away).1 : Nat), .bool (quo n 4294967296 away).2]) ∧ Below w.heap.size w w' := by
  have h := fix_quotient' n 4294967296 away (by omega) w
  rw [show ((4294967296 : Nat) : Int) = 4294967296 from rfl] at h
  exact h

theorem fix_product_one (x : Nat) (hx : x < 18446744073709551616) (w : World) :
    Calls Try.prog 194 #[.int .u64 x, .int .u64 4294967296] w fun e w' => e = .returned (.agg #[.int .u64 ((x * 4294967296 / 18446744073709551616 : Nat) : Int), .int .u64 ((x * 4294967296 % 18446744073709551616 : Nat) : Int)]) ∧ Below w.heap.size w w' := by
  have h := fix_product x 4294967296 hx (by omega) w
  rw [show ((4294967296 : Nat) : Int) = 4294967296 from rfl] at h
  exact h

theorem below_step {w W W' : World} (h : Below w.heap.size w W) (k : Below W.heap.size W W') : Below w.heap.size w W' := h.trans (k.mono h.size)
theorem keep2 {w W : World} {p0 p1 : Addr} {v0 v1 : Value} (l0 : p0.block < w.heap.size) (l1 : p1.block < w.heap.size) (c0 : w.cell? p0 = some v0) (c1 : w.cell? p1 = some v1) (h : Below w.heap.size w W) : W.cell? p0 = some v0 ∧ W.cell? p1 = some v1 ∧ Below w.heap.size w W := ⟨(h.cell l0).trans c0, (h.cell l1).trans c1, h⟩
theorem keep3 {w W : World} {p0 p1 p2 : Addr} {v0 v1 v2 : Value} (l0 : p0.block < w.heap.size) (l1 : p1.block < w.heap.size) (l2 : p2.block < w.heap.size) (c0 : w.cell? p0 = some v0) (c1 : w.cell? p1 = some v1) (c2 : w.cell? p2 = some v2) (h : Below w.heap.size w W) : W.cell? p0 = some v0 ∧ W.cell? p1 = some v1 ∧ W.cell? p2 = some v2 ∧ Below w.heap.size w W := ⟨(h.cell l0).trans c0, (h.cell l1).trans c1, (h.cell l2).trans c2, h⟩

set_option maxRecDepth 100000 in
set_option maxHeartbeats 1000000 in
theorem fix_mul1 (a b : Int) (ha : ok a) (hb : ok b) (away : Bool) (w : World) (B0 B1 : Nat) (l0 : B0 < w.heap.size) (l1 : B1 < w.heap.size) (c0 : w.cell? ⟨B0, 0, none⟩ = some (.int .i64 a)) (c1 : w.cell? ⟨B1, 0, none⟩ = some (.int .i64 b)) :
    Calls Try.prog 192 #[.bool away, .pointer (some ⟨B0, 0, none⟩), .pointer (some ⟨B1, 0, none⟩)] w fun e w' => e = .returned (.tuple #[.int .u64 ((quo (a.natAbs * b.natAbs) 4294967296 away).1 : Nat), .bool (quo (a.natAbs * b.natAbs) 4294967296 away).2]) ∧ Below w.heap.size w w' := by
  have HsA := Lib.hid (fun W => fix_size a W (by have := ha.1; omega) (by have := ha.2; omega))
  have HsB := Lib.hid (fun W => fix_size b W (by have := hb.1; omega) (by have := hb.2; omega))
  have HP := Lib.hid (fun W => fix_product a.natAbs b.natAbs (by have := ha.1; have := ha.2; omega) (by have := hb.1; have := hb.2; omega) W)
  have HQ := Lib.hid (fun W => fix_quotient_one (a.natAbs * b.natAbs) away W)
  clear ha hb
  obtain ⟨x, hx⟩ : ∃ x, x = a.natAbs := ⟨_, rfl⟩
  obtain ⟨y, hy⟩ : ∃ y, y = b.natAbs := ⟨_, rfl⟩
  rw [← hx] at HsA HP HQ
  rw [← hy] at HsB HP HQ
  rw [← hx, ← hy]
  clear hx hy
  obtain ⟨n, hn⟩ : ∃ n, n = x * y := ⟨_, rfl⟩
  rw [← hn] at HP HQ ⊢
  clear hn
  obtain ⟨nh, hnh⟩ : ∃ nh, nh = n / 18446744073709551616 := ⟨_, rfl⟩
  obtain ⟨nl, hnl⟩ : ∃ nl, nl = n % 18446744073709551616 := ⟨_, rfl⟩
  rw [← hnh, ← hnl] at HP HQ
  clear hnh hnl
  obtain ⟨qq, hqq⟩ : ∃ qq, qq = quo n 4294967296 away := ⟨_, rfl⟩
  rw [← hqq] at HQ ⊢
  clear hqq
  go_enter Try.func192, Try.ntmps192
  go_wp2_with fail
  go_region_held3 (fun w' => w'.cell? ⟨B0, 0, none⟩ = some (.int .i64 a) ∧ w'.cell? ⟨B1, 0, none⟩ = some (.int .i64 b) ∧ Below w.heap.size w w')
    (first
      | exact keep2 l0 l1 c0 c1 (Below.refl _ _).drew
      | (go_split_ands; exact keep2 l0 l1 c0 c1 (by assumption))
      | (go_split_ands; exact keep2 l0 l1 c0 c1 (below_step (by assumption) hbel)))
    (first
      | (go_at_call_of 195 a; refine (HsA.out _).mono ?_; rintro e w' ⟨rfl, rfl⟩)
      | (go_at_call_of 195 b; refine (HsB.out _).mono ?_; rintro e w' ⟨rfl, rfl⟩)
      | (go_at_call 194; refine (HP.out _).mono ?_; rintro e w' ⟨rfl, hbel⟩)
      | (go_at_call 193; refine (HQ.out _).mono ?_; rintro e w' ⟨rfl, hbel⟩))
  go_wp2
  go_ret2
  exact ⟨rfl, by go_split_ands; assumption⟩

set_option maxRecDepth 100000 in
set_option maxHeartbeats 1000000 in
theorem fix_div1 (a b : Int) (ha : ok a) (hb : ok b) (away : Bool) (w : World) (B0 B1 : Nat) (l0 : B0 < w.heap.size) (l1 : B1 < w.heap.size) (c0 : w.cell? ⟨B0, 0, none⟩ = some (.int .i64 a)) (c1 : w.cell? ⟨B1, 0, none⟩ = some (.int .i64 b)) :
    Calls Try.prog 204 #[.bool away, .pointer (some ⟨B0, 0, none⟩), .pointer (some ⟨B1, 0, none⟩)] w fun e w' => e = .returned (.tuple #[.int .u64 ((quo (a.natAbs * 4294967296) b.natAbs away).1 : Nat), .bool (quo (a.natAbs * 4294967296) b.natAbs away).2]) ∧ Below w.heap.size w w' := by
  have HsA := Lib.hid (fun W => fix_size a W (by have := ha.1; omega) (by have := ha.2; omega))
  have HsB := Lib.hid (fun W => fix_size b W (by have := hb.1; omega) (by have := hb.2; omega))
  have HP := Lib.hid (fun W => fix_product_one a.natAbs (by have := ha.1; have := ha.2; omega) W)
  have HQ := Lib.hid (fun W => fix_quotient' (a.natAbs * 4294967296) b.natAbs away (by have := hb.1; have := hb.2; omega) W)
  clear ha hb
  obtain ⟨x, hx⟩ : ∃ x, x = a.natAbs := ⟨_, rfl⟩
  obtain ⟨y, hy⟩ : ∃ y, y = b.natAbs := ⟨_, rfl⟩
  rw [← hx] at HsA HP HQ
  rw [← hy] at HsB HQ
  rw [← hx, ← hy]
  clear hx hy
  obtain ⟨n, hn⟩ : ∃ n, n = x * 4294967296 := ⟨_, rfl⟩
  rw [← hn] at HP HQ ⊢
  clear hn
  obtain ⟨nh, hnh⟩ : ∃ nh, nh = n / 18446744073709551616 := ⟨_, rfl⟩
  obtain ⟨nl, hnl⟩ : ∃ nl, nl = n % 18446744073709551616 := ⟨_, rfl⟩
  rw [← hnh, ← hnl] at HP HQ
  clear hnh hnl
  obtain ⟨qq, hqq⟩ : ∃ qq, qq = quo n y away := ⟨_, rfl⟩
  rw [← hqq] at HQ ⊢
  clear hqq
  go_enter Try.func204, Try.ntmps204
  go_wp2_with fail
  go_region_held3 (fun w' => w'.cell? ⟨B0, 0, none⟩ = some (.int .i64 a) ∧ w'.cell? ⟨B1, 0, none⟩ = some (.int .i64 b) ∧ Below w.heap.size w w')
    (first
      | exact keep2 l0 l1 c0 c1 (Below.refl _ _).drew
      | (go_split_ands; exact keep2 l0 l1 c0 c1 (by assumption))
      | (go_split_ands; exact keep2 l0 l1 c0 c1 (below_step (by assumption) hbel)))
    (first
      | (go_at_call_of 195 a; refine (HsA.out _).mono ?_; rintro e w' ⟨rfl, rfl⟩)
      | (go_at_call_of 195 b; refine (HsB.out _).mono ?_; rintro e w' ⟨rfl, rfl⟩)
      | (go_at_call 194; refine (HP.out _).mono ?_; rintro e w' ⟨rfl, hbel⟩)
      | (go_at_call 193; refine (HQ.out _).mono ?_; rintro e w' ⟨rfl, hbel⟩))
  go_wp2
  go_ret2
  exact ⟨rfl, by go_split_ands; assumption⟩

set_option maxRecDepth 100000 in
set_option maxHeartbeats 1000000 in
theorem fix_scl1 (a b : Int) (d : Nat) (ha : ok a) (hb : -4611686018427387904 ≤ b ∧ b ≤ 4611686018427387904) (hd : d ≤ 4611686018427387904) (away : Bool) (w : World) (B0 B1 B2 : Nat) (l0 : B0 < w.heap.size) (l1 : B1 < w.heap.size) (l2 : B2 < w.heap.size) (c0 : w.cell? ⟨B0, 0, none⟩ = some (.int .i64 a)) (c1 : w.cell? ⟨B1, 0, none⟩ = some (.int .i64 b)) (c2 : w.cell? ⟨B2, 0, none⟩ = some (.int .i64 (d : Int))) :
    Calls Try.prog 197 #[.bool away, .pointer (some ⟨B0, 0, none⟩), .pointer (some ⟨B1, 0, none⟩), .pointer (some ⟨B2, 0, none⟩)] w fun e w' => e = .returned (.tuple #[.int .u64 ((quo (a.natAbs * b.natAbs) d away).1 : Nat), .bool (quo (a.natAbs * b.natAbs) d away).2]) ∧ Below w.heap.size w w' := by
  have HsA := Lib.hid (fun W => fix_size a W (by have := ha.1; omega) (by have := ha.2; omega))
  have HsB := Lib.hid (fun W => fix_size b W (by have := hb.1; omega) (by have := hb.2; omega))
  have HP := Lib.hid (fun W => fix_product a.natAbs b.natAbs (by have := ha.1; have := ha.2; omega) (by have := hb.1; have := hb.2; omega) W)
  have HQ := Lib.hid (fun W => fix_quotient' (a.natAbs * b.natAbs) d away (by omega) W)
  have hwd : IntKind.u64.wrap (d : Int) = (d : Int) := M64.wrapN d (by omega)
  clear ha hb hd
  obtain ⟨x, hx⟩ : ∃ x, x = a.natAbs := ⟨_, rfl⟩
  obtain ⟨y, hy⟩ : ∃ y, y = b.natAbs := ⟨_, rfl⟩
  rw [← hx] at HsA HP HQ
  rw [← hy] at HsB HP HQ
  rw [← hx, ← hy]
  clear hx hy
  obtain ⟨n, hn⟩ : ∃ n, n = x * y := ⟨_, rfl⟩
  rw [← hn] at HP HQ ⊢
  clear hn
  obtain ⟨nh, hnh⟩ : ∃ nh, nh = n / 18446744073709551616 := ⟨_, rfl⟩
  obtain ⟨nl, hnl⟩ : ∃ nl, nl = n % 18446744073709551616 := ⟨_, rfl⟩
  rw [← hnh, ← hnl] at HP HQ
  clear hnh hnl
  obtain ⟨qq, hqq⟩ : ∃ qq, qq = quo n d away := ⟨_, rfl⟩
  rw [← hqq] at HQ ⊢
  clear hqq
  go_enter Try.func197, Try.ntmps197
  go_wp2_with fail
  go_region_held3 (fun w' => w'.cell? ⟨B0, 0, none⟩ = some (.int .i64 a) ∧ w'.cell? ⟨B1, 0, none⟩ = some (.int .i64 b) ∧ w'.cell? ⟨B2, 0, none⟩ = some (.int .i64 (d : Int)) ∧ Below w.heap.size w w')
    (first
      | exact keep3 l0 l1 l2 c0 c1 c2 (Below.refl _ _).drew
      | (go_split_ands; exact keep3 l0 l1 l2 c0 c1 c2 (by assumption))
      | (go_split_ands; exact keep3 l0 l1 l2 c0 c1 c2 (below_step (by assumption) hbel)))
    (first
      | (go_at_call_of 195 a; refine (HsA.out _).mono ?_; rintro e w' ⟨rfl, rfl⟩)
      | (go_at_call_of 195 b; refine (HsB.out _).mono ?_; rintro e w' ⟨rfl, rfl⟩)
      | (go_at_call 194; refine (HP.out _).mono ?_; rintro e w' ⟨rfl, hbel⟩)
      | (go_at_call 193; refine (HQ.out _).mono ?_; rintro e w' ⟨rfl, hbel⟩))
  go_wp2
  go_ret2
  exact ⟨rfl, by go_split_ands; assumption⟩

end Go.Proofs.Ytgfofilkpaelnaa
