/- Contracts: the closures of fix.multiplied, divided, scaled. -/
import Derived.Test.YtjphhdfkkkdppaaDoorFixE
import Derived.Test.YtjphhdfkkkdppaaDoorFixS
import Derived.Deep.RegionHeld3
import Derived.BigGuardPart
import Derived.Test.YtjphhdfkkkdppaaDoorPl
import Derived.OneCell
namespace Go.Proofs.YtjphhdfkkkdppaaDoor
open Go.RowKit Mnc

theorem split128 (n : Nat) : n / 18446744073709551616 * 18446744073709551616 + n % 18446744073709551616 = n := by omega

theorem fix_quotient' (n d : Nat) (away : Bool) (hd : d < 18446744073709551616) (w : World) :
    Calls Tryd.prog 91 #[.agg #[.int .u64 ((n / 18446744073709551616 : Nat) : Int), .int .u64 ((n % 18446744073709551616 : Nat) : Int)], .int .u64 (d : Int), .bool away] w fun e w' => e = .returned (.tuple #[.int .u64 ((quo n d away).1 : Nat), .bool (quo n d away).2]) ∧ Below w.heap.size w w' := by
  have h := fix_quotient (n / 18446744073709551616) (n % 18446744073709551616) d away (Nat.mod_lt _ (by omega)) hd w
  rw [split128] at h
  exact h

theorem fix_quotient_one (n : Nat) (away : Bool) (w : World) :
    Calls Tryd.prog 91 #[.agg #[.int .u64 ((n / 18446744073709551616 : Nat) : Int), .int .u64 ((n % 18446744073709551616 : Nat) : Int)], .int .u64 4294967296, .bool away] w fun e w' => e = .returned (.tuple #[.int .u64 ((quo n 4294967296 away).1 : Nat), .bool (quo n 4294967296 away).2]) ∧ Below w.heap.size w w' := by
  have h := fix_quotient' n 4294967296 away (by omega) w
  rw [show ((4294967296 : Nat) : Int) = 4294967296 from rfl] at h
  exact h

theorem fix_product_one (x : Nat) (hx : x < 18446744073709551616) (w : World) :
    Calls Tryd.prog 92 #[.int .u64 x, .int .u64 4294967296] w fun e w' => e = .returned (.agg #[.int .u64 ((x * 4294967296 / 18446744073709551616 : Nat) : Int), .int .u64 ((x * 4294967296 % 18446744073709551616 : Nat) : Int)]) ∧ Below w.heap.size w w' := by
  have h := fix_product x 4294967296 hx (by omega) w
  rw [show ((4294967296 : Nat) : Int) = 4294967296 from rfl] at h
  exact h

theorem below_step {w W W' : World} (h : Below w.heap.size w W) (k : Below W.heap.size W W') : Below w.heap.size w W' := h.trans (k.mono h.size)
theorem keep2 {w W : World} {p0 p1 : Addr} {v0 v1 : Value} (l0 : p0.block < w.heap.size) (l1 : p1.block < w.heap.size) (c0 : w.cell? p0 = some v0) (c1 : w.cell? p1 = some v1) (h : Below w.heap.size w W) : W.cell? p0 = some v0 ∧ W.cell? p1 = some v1 ∧ Below w.heap.size w W := ⟨(h.cell l0).trans c0, (h.cell l1).trans c1, h⟩
theorem keep3 {w W : World} {p0 p1 p2 : Addr} {v0 v1 v2 : Value} (l0 : p0.block < w.heap.size) (l1 : p1.block < w.heap.size) (l2 : p2.block < w.heap.size) (c0 : w.cell? p0 = some v0) (c1 : w.cell? p1 = some v1) (c2 : w.cell? p2 = some v2) (h : Below w.heap.size w W) : W.cell? p0 = some v0 ∧ W.cell? p1 = some v1 ∧ W.cell? p2 = some v2 ∧ Below w.heap.size w W := ⟨(h.cell l0).trans c0, (h.cell l1).trans c1, (h.cell l2).trans c2, h⟩

set_option maxRecDepth 100000 in
set_option maxHeartbeats 1000000 in
theorem fix_mul1 (a b : Int) (ha : ok a) (hb : ok b) (away : Bool) (w : World) (B0 B1 : Nat) (l0 : B0 < w.heap.size) (l1 : B1 < w.heap.size) (c0 : w.cell? ⟨B0, 0, none⟩ = some (.int .i64 a)) (c1 : w.cell? ⟨B1, 0, none⟩ = some (.int .i64 b)) :
    Calls Tryd.prog 111 #[.bool away, .pointer (some ⟨B0, 0, none⟩), .pointer (some ⟨B1, 0, none⟩)] w fun e w' => e = .returned (.tuple #[.int .u64 ((quo (a.natAbs * b.natAbs) 4294967296 away).1 : Nat), .bool (quo (a.natAbs * b.natAbs) 4294967296 away).2]) ∧ Below w.heap.size w w' := by
  have HsA := Lib.hid (fun W => fix_size a W (by have := ha.1; omega) (by have := ha.2; omega))
  have HsB := Lib.hid (fun W => fix_size b W (by have := hb.1; omega) (by have := hb.2; omega))
  have HP := Lib.hid (fun W => fix_product a.natAbs b.natAbs (by have := ha.1; have := ha.2; omega) (by have := hb.1; have := hb.2; omega) W)
  have HQ := Lib.hid (fun W => fix_quotient_one (a.natAbs * b.natAbs) away W)
  clear ha hb
  obtain ⟨x, hx⟩ : ∃ x, x = a.natAbs := ⟨_, rfl⟩
  obtain ⟨y, hy⟩ : ∃ y, y = b.natAbs := ⟨_, rfl⟩
  rw [← hx] at HsA HP HQ
  rw [← hy] at HsB HP HQ
  rw [← hx, ← hy]
  clear hx hy
  obtain ⟨n, hn⟩ : ∃ n, n = x * y := ⟨_, rfl⟩
  rw [← hn] at HP HQ ⊢
  clear hn
  obtain ⟨nh, hnh⟩ : ∃ nh, nh = n / 18446744073709551616 := ⟨_, rfl⟩
  obtain ⟨nl, hnl⟩ : ∃ nl, nl = n % 18446744073709551616 := ⟨_, rfl⟩
  rw [← hnh, ← hnl] at HP HQ
  clear hnh hnl
  obtain ⟨qq, hqq⟩ : ∃ qq, qq = quo n 4294967296 away := ⟨_, rfl⟩
  rw [← hqq] at HQ ⊢
  clear hqq
  go_enter Tryd.func111, Tryd.ntmps111
  go_wp2_with fail
  go_region_held3 (fun w' => w'.cell? ⟨B0, 0, none⟩ = some (.int .i64 a) ∧ w'.cell? ⟨B1, 0, none⟩ = some (.int .i64 b) ∧ Below w.heap.size w w')
    (first
      | exact keep2 l0 l1 c0 c1 (Below.refl _ _).drew
      | (go_split_ands; exact keep2 l0 l1 c0 c1 (by assumption))
      | (go_split_ands; exact keep2 l0 l1 c0 c1 (below_step (by assumption) hbel)))
    (first
      | (go_at_call_of 93 a; refine (HsA.out _).mono ?_; rintro e w' ⟨rfl, rfl⟩)
      | (go_at_call_of 93 b; refine (HsB.out _).mono ?_; rintro e w' ⟨rfl, rfl⟩)
      | (go_at_call 92; refine (HP.out _).mono ?_; rintro e w' ⟨rfl, hbel⟩)
      | (go_at_call 91; refine (HQ.out _).mono ?_; rintro e w' ⟨rfl, hbel⟩))
  go_wp2
  go_ret2
  exact ⟨rfl, by go_split_ands; assumption⟩

set_option maxRecDepth 100000 in
set_option maxHeartbeats 1000000 in
theorem fix_div1 (a b : Int) (ha : ok a) (hb : ok b) (away : Bool) (w : World) (B0 B1 : Nat) (l0 : B0 < w.heap.size) (l1 : B1 < w.heap.size) (c0 : w.cell? ⟨B0, 0, none⟩ = some (.int .i64 a)) (c1 : w.cell? ⟨B1, 0, none⟩ = some (.int .i64 b)) :
    Calls Tryd.prog 117 #[.bool away, .pointer (some ⟨B0, 0, none⟩), .pointer (some ⟨B1, 0, none⟩)] w fun e w' => e = .returned (.tuple #[.int .u64 ((quo (a.natAbs * 4294967296) b.natAbs away).1 : Nat), .bool (quo (a.natAbs * 4294967296) b.natAbs away).2]) ∧ Below w.heap.size w w' := by
  have HsA := Lib.hid (fun W => fix_size a W (by have := ha.1; omega) (by have := ha.2; omega))
  have HsB := Lib.hid (fun W => fix_size b W (by have := hb.1; omega) (by have := hb.2; omega))
  have HP := Lib.hid (fun W => fix_product_one a.natAbs (by have := ha.1; have := ha.2; omega) W)
  have HQ := Lib.hid (fun W => fix_quotient' (a.natAbs * 4294967296) b.natAbs away (by have := hb.1; have := hb.2; omega) W)
  clear ha hb
  obtain ⟨x, hx⟩ : ∃ x, x = a.natAbs := ⟨_, rfl⟩
  obtain ⟨y, hy⟩ : ∃ y, y = b.natAbs := ⟨_, rfl⟩
  rw [← hx] at HsA HP HQ
  rw [← hy] at HsB HQ
  rw [← hx, ← hy]
  clear hx hy
  obtain ⟨n, hn⟩ : ∃ n, n = x * 4294967296 := ⟨_, rfl⟩
  rw [← hn] at HP HQ ⊢
  clear hn
  obtain ⟨nh, hnh⟩ : ∃ nh, nh = n / 18446744073709551616 := ⟨_, rfl⟩
  obtain ⟨nl, hnl⟩ : ∃ nl, nl = n % 18446744073709551616 := ⟨_, rfl⟩
  rw [← hnh, ← hnl] at HP HQ
  clear hnh hnl
  obtain ⟨qq, hqq⟩ : ∃ qq, qq = quo n y away := ⟨_, rfl⟩
  rw [← hqq] at HQ ⊢
  clear hqq
  go_enter Tryd.func117, Tryd.ntmps117
  go_wp2_with fail
  go_region_held3 (fun w' => w'.cell? ⟨B0, 0, none⟩ = some (.int .i64 a) ∧ w'.cell? ⟨B1, 0, none⟩ = some (.int .i64 b) ∧ Below w.heap.size w w')
    (first
      | exact keep2 l0 l1 c0 c1 (Below.refl _ _).drew
      | (go_split_ands; exact keep2 l0 l1 c0 c1 (by assumption))
      | (go_split_ands; exact keep2 l0 l1 c0 c1 (below_step (by assumption) hbel)))
    (first
      | (go_at_call_of 93 a; refine (HsA.out _).mono ?_; rintro e w' ⟨rfl, rfl⟩)
      | (go_at_call_of 93 b; refine (HsB.out _).mono ?_; rintro e w' ⟨rfl, rfl⟩)
      | (go_at_call 92; refine (HP.out _).mono ?_; rintro e w' ⟨rfl, hbel⟩)
      | (go_at_call 91; refine (HQ.out _).mono ?_; rintro e w' ⟨rfl, hbel⟩))
  go_wp2
  go_ret2
  exact ⟨rfl, by go_split_ands; assumption⟩

set_option maxRecDepth 100000 in
set_option maxHeartbeats 1000000 in
theorem fix_scl1 (a b : Int) (d : Nat) (ha : ok a) (hb : -4611686018427387904 ≤ b ∧ b ≤ 4611686018427387904) (hd : d ≤ 4611686018427387904) (away : Bool) (w : World) (B0 B1 B2 : Nat) (l0 : B0 < w.heap.size) (l1 : B1 < w.heap.size) (l2 : B2 < w.heap.size) (c0 : w.cell? ⟨B0, 0, none⟩ = some (.int .i64 a)) (c1 : w.cell? ⟨B1, 0, none⟩ = some (.int .i64 b)) (c2 : w.cell? ⟨B2, 0, none⟩ = some (.int .i64 (d : Int))) :
    Calls Tryd.prog 121 #[.bool away, .pointer (some ⟨B0, 0, none⟩), .pointer (some ⟨B1, 0, none⟩), .pointer (some ⟨B2, 0, none⟩)] w fun e w' => e = .returned (.tuple #[.int .u64 ((quo (a.natAbs * b.natAbs) d away).1 : Nat), .bool (quo (a.natAbs * b.natAbs) d away).2]) ∧ Below w.heap.size w w' := by
  have HsA := Lib.hid (fun W => fix_size a W (by have := ha.1; omega) (by have := ha.2; omega))
  have HsB := Lib.hid (fun W => fix_size b W (by have := hb.1; omega) (by have := hb.2; omega))
  have HP := Lib.hid (fun W => fix_product a.natAbs b.natAbs (by have := ha.1; have := ha.2; omega) (by have := hb.1; have := hb.2; omega) W)
  have HQ := Lib.hid (fun W => fix_quotient' (a.natAbs * b.natAbs) d away (by omega) W)
  have hwd : IntKind.u64.wrap (d : Int) = (d : Int) := M64.wrapN d (by omega)
  clear ha hb hd
  obtain ⟨x, hx⟩ : ∃ x, x = a.natAbs := ⟨_, rfl⟩
  obtain ⟨y, hy⟩ : ∃ y, y = b.natAbs := ⟨_, rfl⟩
  rw [← hx] at HsA HP HQ
  rw [← hy] at HsB HP HQ
  rw [← hx, ← hy]
  clear hx hy
  obtain ⟨n, hn⟩ : ∃ n, n = x * y := ⟨_, rfl⟩
  rw [← hn] at HP HQ ⊢
  clear hn
  obtain ⟨nh, hnh⟩ : ∃ nh, nh = n / 18446744073709551616 := ⟨_, rfl⟩
  obtain ⟨nl, hnl⟩ : ∃ nl, nl = n % 18446744073709551616 := ⟨_, rfl⟩
  rw [← hnh, ← hnl] at HP HQ
  clear hnh hnl
  obtain ⟨qq, hqq⟩ : ∃ qq, qq = quo n d away := ⟨_, rfl⟩
  rw [← hqq] at HQ ⊢
  clear hqq
  go_enter Tryd.func121, Tryd.ntmps121
  go_wp2_with fail
  go_region_held3 (fun w' => w'.cell? ⟨B0, 0, none⟩ = some (.int .i64 a) ∧ w'.cell? ⟨B1, 0, none⟩ = some (.int .i64 b) ∧ w'.cell? ⟨B2, 0, none⟩ = some (.int .i64 (d : Int)) ∧ Below w.heap.size w w')
    (first
      | exact keep3 l0 l1 l2 c0 c1 c2 (Below.refl _ _).drew
      | (go_split_ands; exact keep3 l0 l1 l2 c0 c1 c2 (by assumption))
      | (go_split_ands; exact keep3 l0 l1 l2 c0 c1 c2 (below_step (by assumption) hbel)))
    (first
      | (go_at_call_of 93 a; refine (HsA.out _).mono ?_; rintro e w' ⟨rfl, rfl⟩)
      | (go_at_call_of 93 b; refine (HsB.out _).mono ?_; rintro e w' ⟨rfl, rfl⟩)
      | (go_at_call 92; refine (HP.out _).mono ?_; rintro e w' ⟨rfl, hbel⟩)
      | (go_at_call 91; refine (HQ.out _).mono ?_; rintro e w' ⟨rfl, hbel⟩))
  go_wp2
  go_ret2
  exact ⟨rfl, by go_split_ands; assumption⟩

set_option maxRecDepth 100000 in
set_option maxHeartbeats 1000000 in
theorem fix_dec1 (a : Int) (k P : Nat) (ha : -9223372036854775808 ≤ a ∧ a ≤ 9223372036854775807) (hP : P < 18446744073709551616) (hk : k < 13) (away : Bool) (w : World) (B0 B1 : Nat) (l0 : B0 < w.heap.size) (l1 : B1 < w.heap.size) (c0 : w.cell? ⟨B0, 0, none⟩ = some (.int .i64 a)) (c1 : w.cell? ⟨B1, 0, none⟩ = some (.int .i64 (k : Int))) (lp : 0 < w.heap.size) (cp : w.cell? ⟨0, k, none⟩ = some (.int .u64 (P : Nat))) :
    Calls Tryd.prog 90 #[.bool away, .pointer (some ⟨B0, 0, none⟩), .pointer (some ⟨B1, 0, none⟩)] w fun e w' => e = .returned (.tuple #[.int .u64 ((quo (a.natAbs * 4294967296) P away).1 : Nat), .bool (quo (a.natAbs * 4294967296) P away).2]) ∧ Below w.heap.size w w' := by
  have HsA := Lib.hid (fun W => fix_size a W (by have := ha.1; omega) (by have := ha.2; omega))
  have HP := Lib.hid (fun W => fix_product_one a.natAbs (by have := ha.1; have := ha.2; omega) W)
  have HQ := Lib.hid (fun W => fix_quotient' (a.natAbs * 4294967296) P away hP W)
  have hk0 : (0 : Int) ≤ (k : Int) := by omega
  have hk1 : (k : Int) < 13 := by omega
  clear ha hP hk
  obtain ⟨x, hx⟩ : ∃ x, x = a.natAbs := ⟨_, rfl⟩
  rw [← hx] at HsA HP HQ
  rw [← hx]
  clear hx
  obtain ⟨n, hn⟩ : ∃ n, n = x * 4294967296 := ⟨_, rfl⟩
  rw [← hn] at HP HQ ⊢
  clear hn
  obtain ⟨nh, hnh⟩ : ∃ nh, nh = n / 18446744073709551616 := ⟨_, rfl⟩
  obtain ⟨nl, hnl⟩ : ∃ nl, nl = n % 18446744073709551616 := ⟨_, rfl⟩
  rw [← hnh, ← hnl] at HP HQ
  clear hnh hnl
  obtain ⟨qq, hqq⟩ : ∃ qq, qq = quo n P away := ⟨_, rfl⟩
  rw [← hqq] at HQ ⊢
  clear hqq
  go_enter Tryd.func90, Tryd.ntmps90
  go_wp2_with fail
  go_region_held3 (fun w' => w'.cell? ⟨B0, 0, none⟩ = some (.int .i64 a) ∧ w'.cell? ⟨B1, 0, none⟩ = some (.int .i64 (k : Int)) ∧ w'.cell? ⟨0, k, none⟩ = some (.int .u64 (P : Nat)) ∧ Below w.heap.size w w')
    (first
      | exact keep3 l0 l1 lp c0 c1 cp (Below.refl _ _).drew
      | (go_split_ands; exact keep3 l0 l1 lp c0 c1 cp (by assumption))
      | (go_split_ands; exact keep3 l0 l1 lp c0 c1 cp (below_step (by assumption) hbel)))
    (first
      | (go_at_call_of 93 a; refine (HsA.out _).mono ?_; rintro e w' ⟨rfl, rfl⟩)
      | (go_at_call 92; refine (HP.out _).mono ?_; rintro e w' ⟨rfl, hbel⟩)
      | (go_at_call 91; refine (HQ.out _).mono ?_; rintro e w' ⟨rfl, hbel⟩))
  go_wp2
  go_ret2
  exact ⟨rfl, by go_split_ands; assumption⟩

end Go.Proofs.YtjphhdfkkkdppaaDoor

/- Contracts: multiplied, divided, scaled and the exported functions over them. Printed by wip/genG.py. -/
namespace Go.Proofs.YtjphhdfkkkdppaaDoor
open Go.RowKit Mnc

theorem fix_all2_box (a b : Int) (w : World) :
    Calls Tryd.prog 110 #[.slice (some ⟨w.heap.size + 1 + 1, 0, none⟩) 2 2] (((w.alloc (.cells #[.int .i64 a] 3)).alloc (.cells #[.int .i64 b] 3)).alloc (.cells #[.int .i64 a, .int .i64 b] 3)) fun e w' => e = .returned (.int .i64 (chk2 a b)) ∧ ((w.alloc (.cells #[.int .i64 a] 3)).alloc (.cells #[.int .i64 b] 3)).alloc (.cells #[.int .i64 a, .int .i64 b] 3) = w' := by
  have h := fix_all2_new a b ((w.alloc (.cells #[.int .i64 a] 3)).alloc (.cells #[.int .i64 b] 3))
  rw [show ((w.alloc (.cells #[.int .i64 a] 3)).alloc (.cells #[.int .i64 b] 3)).heap.size = w.heap.size + 1 + 1 by simp] at h
  exact h

theorem box_a (w : World) (u v : Value) (o o' : TypeId) (C : Obj) : (((w.alloc (.cells #[u] o)).alloc (.cells #[v] o')).alloc C).cell? ⟨w.heap.size, 0, none⟩ = some u := by
  have h : Below (w.heap.size + 1) (w.alloc (.cells #[u] o)) (((w.alloc (.cells #[u] o)).alloc (.cells #[v] o')).alloc C) := ((Below.refl _ _).alloc (by simp) _).alloc (by simp) _
  rw [h.cell (by simp)]
  simp
theorem box_b (w : World) (u v : Value) (o o' : TypeId) (C : Obj) : (((w.alloc (.cells #[u] o)).alloc (.cells #[v] o')).alloc C).cell? ⟨w.heap.size + 1, 0, none⟩ = some v := by
  have h : Below (w.heap.size + 1 + 1) ((w.alloc (.cells #[u] o)).alloc (.cells #[v] o')) (((w.alloc (.cells #[u] o)).alloc (.cells #[v] o')).alloc C) := (Below.refl _ _).alloc (by simp) _
  rw [h.cell (by simp)]
  have e : w.heap.size + 1 = (w.alloc (.cells #[u] o)).heap.size := by simp
  rw [e]
  generalize w.alloc (.cells #[u] o) = W
  simp

set_option maxRecDepth 100000 in
set_option maxHeartbeats 1000000 in
theorem fix_multiplied (a b : Int) (up : Bool) (w : World) :
    Calls Tryd.prog 97 #[.int .i64 a, .int .i64 b, .bool up] w fun e w' => e = .returned (.tuple #[.int .i64 (mul up a b).1, .int .i64 (mul up a b).2]) ∧ Below w.heap.size w w' := by
  by_cases h : ok a ∧ ok b
  · obtain ⟨ha, hb⟩ := h
    have Hc := Lib.hid (chk2_ok ha hb)
    have Hr := Lib.hid (mul_ok up ha hb)
    have HS := Lib.hid (fun (W : World) (B0 B1 : Nat) l0 l1 c0 c1 => fix_signed_mul (decide (a < 0) != decide (b < 0)) up (.pointer (some ⟨B0, 0, none⟩)) (.pointer (some ⟨B1, 0, none⟩)) _ (quo_lt _ _ _) W (fix_mul1 a b ha hb _ W B0 B1 l0 l1 c0 c1))
    clear ha hb
    go_enter Tryd.func97, Tryd.ntmps97
    go_wp2_with (first | (go_at_call 110; refine (fix_all2_box _ _ _).mono ?_; rintro e w' ⟨rfl, rfl⟩; rw [Hc.out]) | (go_at_call 89; refine (HS.out _ _ _ (by simp; omega) (by simp) (box_a _ _ _ _ _ _) (box_b _ _ _ _ _ _)).mono ?_; rintro e w' ⟨rfl, hbel⟩))
    go_ret2
    exact ⟨ret2 (by rw [Hr.out]), below_step ((((Below.refl _ _).alloc (Nat.le_refl _) _).alloc (by simp) _).alloc (by simp; omega) _) hbel⟩
  · have Hc := Lib.hid (chk2_bad h)
    have Hr := Lib.hid (mul_bad up h)
    clear h
    go_enter Tryd.func97, Tryd.ntmps97
    go_wp2_with (go_at_call 110; refine (fix_all2_box _ _ _).mono ?_; rintro e w' ⟨rfl, rfl⟩; rw [Hc.out])
    go_ret2
    exact ⟨ret2 Hr.out, (((Below.refl _ _).alloc (Nat.le_refl _) _).alloc (by simp) _).alloc (by simp; omega) _⟩

set_option maxRecDepth 100000 in
set_option maxHeartbeats 1000000 in
theorem fix_divided (a b : Int) (up : Bool) (w : World) :
    Calls Tryd.prog 103 #[.int .i64 a, .int .i64 b, .bool up] w fun e w' => e = .returned (.tuple #[.int .i64 (dvd up a b).1, .int .i64 (dvd up a b).2]) ∧ Below w.heap.size w w' := by
  by_cases h : ok a ∧ ok b
  · obtain ⟨ha, hb⟩ := h
    have Hc := Lib.hid (chk2_ok ha hb)
    by_cases hz : b = 0
    · have Hr := Lib.hid (dvd_zero up ha hb hz)
      subst hz
      clear ha hb
      go_enter Tryd.func103, Tryd.ntmps103
      go_wp2_with (go_at_call 110; refine (fix_all2_box _ _ _).mono ?_; rintro e w' ⟨rfl, rfl⟩; rw [Hc.out])
      go_ret2
      exact ⟨ret2 Hr.out, (((Below.refl _ _).alloc (Nat.le_refl _) _).alloc (by simp) _).alloc (by simp; omega) _⟩
    · have Hr := Lib.hid (dvd_ok up ha hb hz)
      have hz : decide (b = 0) = false := by simp; omega
      have HS := Lib.hid (fun (W : World) (B0 B1 : Nat) l0 l1 c0 c1 => fix_signed_div (decide (a < 0) != decide (b < 0)) up (.pointer (some ⟨B0, 0, none⟩)) (.pointer (some ⟨B1, 0, none⟩)) _ (quo_lt _ _ _) W (fix_div1 a b ha hb _ W B0 B1 l0 l1 c0 c1))
      clear ha hb
      go_enter Tryd.func103, Tryd.ntmps103
      go_wp2_with (first | (go_at_call 110; refine (fix_all2_box _ _ _).mono ?_; rintro e w' ⟨rfl, rfl⟩; rw [Hc.out]) | (go_at_call 89; refine (HS.out _ _ _ (by simp; omega) (by simp) (box_a _ _ _ _ _ _) (box_b _ _ _ _ _ _)).mono ?_; rintro e w' ⟨rfl, hbel⟩))
      go_ret2
      exact ⟨ret2 (by rw [Hr.out]), below_step ((((Below.refl _ _).alloc (Nat.le_refl _) _).alloc (by simp) _).alloc (by simp; omega) _) hbel⟩
  · have Hc := Lib.hid (chk2_bad h)
    have Hr := Lib.hid (dvd_bad up h)
    clear h
    go_enter Tryd.func103, Tryd.ntmps103
    go_wp2_with (go_at_call 110; refine (fix_all2_box _ _ _).mono ?_; rintro e w' ⟨rfl, rfl⟩; rw [Hc.out])
    go_ret2
    exact ⟨ret2 Hr.out, (((Below.refl _ _).alloc (Nat.le_refl _) _).alloc (by simp) _).alloc (by simp; omega) _⟩

theorem fix_MulDown (a b : Int) (w : World) :
    Calls Tryd.prog 72 #[.int .i64 a, .int .i64 b] w fun e w' => e = .returned (.tuple #[.int .i64 (mul false a b).1, .int .i64 (mul false a b).2]) ∧ Below w.heap.size w w' := by
  have H := Lib.hid (fun W => fix_multiplied a b false W)
  go_enter Tryd.func72, Tryd.ntmps72
  go_wp2_with (go_at_call 97; refine (H.out _).mono ?_; rintro e w' ⟨rfl, hbel⟩)
  go_ret2
  exact ⟨rfl, hbel⟩

theorem fix_MulUp (a b : Int) (w : World) :
    Calls Tryd.prog 73 #[.int .i64 a, .int .i64 b] w fun e w' => e = .returned (.tuple #[.int .i64 (mul true a b).1, .int .i64 (mul true a b).2]) ∧ Below w.heap.size w w' := by
  have H := Lib.hid (fun W => fix_multiplied a b true W)
  go_enter Tryd.func73, Tryd.ntmps73
  go_wp2_with (go_at_call 97; refine (H.out _).mono ?_; rintro e w' ⟨rfl, hbel⟩)
  go_ret2
  exact ⟨rfl, hbel⟩

theorem fix_DivDown (a b : Int) (w : World) :
    Calls Tryd.prog 78 #[.int .i64 a, .int .i64 b] w fun e w' => e = .returned (.tuple #[.int .i64 (dvd false a b).1, .int .i64 (dvd false a b).2]) ∧ Below w.heap.size w w' := by
  have H := Lib.hid (fun W => fix_divided a b false W)
  go_enter Tryd.func78, Tryd.ntmps78
  go_wp2_with (go_at_call 103; refine (H.out _).mono ?_; rintro e w' ⟨rfl, hbel⟩)
  go_ret2
  exact ⟨rfl, hbel⟩

theorem fix_DivUp (a b : Int) (w : World) :
    Calls Tryd.prog 79 #[.int .i64 a, .int .i64 b] w fun e w' => e = .returned (.tuple #[.int .i64 (dvd true a b).1, .int .i64 (dvd true a b).2]) ∧ Below w.heap.size w w' := by
  have H := Lib.hid (fun W => fix_divided a b true W)
  go_enter Tryd.func79, Tryd.ntmps79
  go_wp2_with (go_at_call 103; refine (H.out _).mono ?_; rintro e w' ⟨rfl, hbel⟩)
  go_ret2
  exact ⟨rfl, hbel⟩

theorem box_c (w : World) (u v x : Value) (o o' o'' : TypeId) : (((w.alloc (.cells #[u] o)).alloc (.cells #[v] o')).alloc (.cells #[x] o'')).cell? ⟨w.heap.size + 1 + 1, 0, none⟩ = some x := by
  have e : w.heap.size + 1 + 1 = ((w.alloc (.cells #[u] o)).alloc (.cells #[v] o')).heap.size := by simp
  rw [e]
  generalize (w.alloc (.cells #[u] o)).alloc (.cells #[v] o') = W
  simp

set_option maxRecDepth 100000 in
set_option maxHeartbeats 1000000 in
theorem fix_scaled (a n d : Int) (up : Bool) (w : World) :
    Calls Tryd.prog 105 #[.int .i64 a, .int .i64 n, .int .i64 d, .bool up] w fun e w' => e = .returned (.tuple #[.int .i64 (scl up a n d).1, .int .i64 (scl up a n d).2]) ∧ Below w.heap.size w w' := by
  by_cases ha : ok a
  · have Hc := Lib.hid (chk_ok ha)
    by_cases h1 : n < -4611686018427387904
    · have Hr := Lib.hid (scl_bad up (a := a) (n := n) (d := d) (by unfold sclOk; omega))
      clear ha
      have b1 : decide (n < -4611686018427387904) = true := by simp; omega
      clear h1
      go_enter Tryd.func105, Tryd.ntmps105
      go_wp2_with (go_at_call 118; refine (fix_Check _ _).mono ?_; rintro e w' ⟨rfl, rfl⟩; rw [Hc.out])
      go_ret2
      exact ⟨ret2 Hr.out, (((Below.refl _ _).alloc (Nat.le_refl _) _).alloc (by simp) _).alloc (by simp; omega) _⟩
    · have b1 : decide (n < -4611686018427387904) = false := by simp; omega
      by_cases h2 : 4611686018427387904 < n
      · have Hr := Lib.hid (scl_bad up (a := a) (n := n) (d := d) (by unfold sclOk; omega))
        have b2 : decide (4611686018427387904 < n) = true := by simp; omega
        clear ha h1 h2
        go_enter Tryd.func105, Tryd.ntmps105
        go_wp2_with (go_at_call 118; refine (fix_Check _ _).mono ?_; rintro e w' ⟨rfl, rfl⟩; rw [Hc.out])
        go_ret2
        exact ⟨ret2 Hr.out, (((Below.refl _ _).alloc (Nat.le_refl _) _).alloc (by simp) _).alloc (by simp; omega) _⟩
      · have b2 : decide (4611686018427387904 < n) = false := by simp; omega
        by_cases h3 : d < 1
        · have Hr := Lib.hid (scl_bad up (a := a) (n := n) (d := d) (by unfold sclOk; omega))
          have b3 : decide (d < 1) = true := by simp; omega
          clear ha h1 h2 h3
          go_enter Tryd.func105, Tryd.ntmps105
          go_wp2_with (go_at_call 118; refine (fix_Check _ _).mono ?_; rintro e w' ⟨rfl, rfl⟩; rw [Hc.out])
          go_ret2
          exact ⟨ret2 Hr.out, (((Below.refl _ _).alloc (Nat.le_refl _) _).alloc (by simp) _).alloc (by simp; omega) _⟩
        · have b3 : decide (d < 1) = false := by simp; omega
          by_cases h4 : 4611686018427387904 < d
          · have Hr := Lib.hid (scl_bad up (a := a) (n := n) (d := d) (by unfold sclOk; omega))
            have b4 : decide (4611686018427387904 < d) = true := by simp; omega
            clear ha h1 h2 h3 h4
            go_enter Tryd.func105, Tryd.ntmps105
            go_wp2_with (go_at_call 118; refine (fix_Check _ _).mono ?_; rintro e w' ⟨rfl, rfl⟩; rw [Hc.out])
            go_ret2
            exact ⟨ret2 Hr.out, (((Below.refl _ _).alloc (Nat.le_refl _) _).alloc (by simp) _).alloc (by simp; omega) _⟩
          · have b4 : decide (4611686018427387904 < d) = false := by simp; omega
            obtain ⟨D, rfl⟩ : ∃ D : Nat, d = D := ⟨d.toNat, by omega⟩
            have Hr := Lib.hid (scl_ok up (a := a) (n := n) (d := (D : Int)) (by unfold sclOk; exact ⟨ha, by omega, by omega, by omega, by omega⟩))
            rw [Int.toNat_natCast] at Hr
            have HS := Lib.hid (fun (W : World) (B0 B1 B2 : Nat) l0 l1 l2 c0 c1 c2 => fix_signed_scl (decide (a < 0) != decide (n < 0)) up (.pointer (some ⟨B0, 0, none⟩)) (.pointer (some ⟨B1, 0, none⟩)) (.pointer (some ⟨B2, 0, none⟩)) _ (quo_lt _ _ _) W (fix_scl1 a n D ha (by omega) (by omega) _ W B0 B1 B2 l0 l1 l2 c0 c1 c2))
            clear ha h1 h2 h3 h4
            go_enter Tryd.func105, Tryd.ntmps105
            go_wp2_with (first | (go_at_call 118; refine (fix_Check _ _).mono ?_; rintro e w' ⟨rfl, rfl⟩; rw [Hc.out]) | (go_at_call 89; refine (HS.out _ _ _ _ (by simp; omega) (by simp) (by simp) (box_a _ _ _ _ _ _) (box_b _ _ _ _ _ _) (box_c _ _ _ _ _ _ _)).mono ?_; rintro e w' ⟨rfl, hbel⟩))
            go_ret2
            exact ⟨ret2 (by rw [Hr.out]), below_step ((((Below.refl _ _).alloc (Nat.le_refl _) _).alloc (by simp) _).alloc (by simp; omega) _) hbel⟩
  · have Hc := Lib.hid (chk_bad ha)
    have Hr := Lib.hid (scl_bad up (a := a) (n := n) (d := d) (by unfold sclOk; exact fun h => ha h.1))
    clear ha
    go_enter Tryd.func105, Tryd.ntmps105
    go_wp2_with (go_at_call 118; refine (fix_Check _ _).mono ?_; rintro e w' ⟨rfl, rfl⟩; rw [Hc.out])
    go_ret2
    exact ⟨ret2 Hr.out, (((Below.refl _ _).alloc (Nat.le_refl _) _).alloc (by simp) _).alloc (by simp; omega) _⟩

theorem fix_ScaleDown (a n d : Int) (w : World) :
    Calls Tryd.prog 85 #[.int .i64 a, .int .i64 n, .int .i64 d] w fun e w' => e = .returned (.tuple #[.int .i64 (scl false a n d).1, .int .i64 (scl false a n d).2]) ∧ Below w.heap.size w w' := by
  have H := Lib.hid (fun W => fix_scaled a n d false W)
  go_enter Tryd.func85, Tryd.ntmps85
  go_wp2_with (go_at_call 105; refine (H.out _).mono ?_; rintro e w' ⟨rfl, hbel⟩)
  go_ret2
  exact ⟨rfl, hbel⟩

theorem fix_ScaleUp (a n d : Int) (w : World) :
    Calls Tryd.prog 86 #[.int .i64 a, .int .i64 n, .int .i64 d] w fun e w' => e = .returned (.tuple #[.int .i64 (scl true a n d).1, .int .i64 (scl true a n d).2]) ∧ Below w.heap.size w w' := by
  have H := Lib.hid (fun W => fix_scaled a n d true W)
  go_enter Tryd.func86, Tryd.ntmps86
  go_wp2_with (go_at_call 105; refine (H.out _).mono ?_; rintro e w' ⟨rfl, hbel⟩)
  go_ret2
  exact ⟨rfl, hbel⟩

end Go.Proofs.YtjphhdfkkkdppaaDoor

/- Contracts: wide.atMost, fix.root and its closure, SqrtDown, SqrtUp. -/
namespace Go.Proofs.YtjphhdfkkkdppaaDoor
open Go.RowKit Mnc

set_option maxRecDepth 100000 in
set_option maxHeartbeats 1000000 in
theorem fix_atMost0 (a b c d : Int) (w : World) :
    Calls Tryd.prog 120 #[.agg #[.int .u64 a, .int .u64 b], .agg #[.int .u64 c, .int .u64 d]] w fun e w' => e = .returned (.bool (decide (a < c ∨ a = c ∧ b ≤ d))) ∧ Below w.heap.size w w' := by
  by_cases h1 : a < c
  · rw [show decide (a < c ∨ a = c ∧ b ≤ d) = true by simp; omega]
    · go_enter Tryd.func120, Tryd.ntmps120
      go_wp2
      go_ret
      exact ⟨rfl, ((Below.refl _ _).alloc (Nat.le_refl _) _).alloc (by simp) _⟩
  · by_cases h2 : a = c
    · subst h2
      by_cases h3 : b ≤ d
      · rw [show decide (a < a ∨ a = a ∧ b ≤ d) = true by simp; omega]
        go_enter Tryd.func120, Tryd.ntmps120
        go_wp2
        go_ret
        exact ⟨rfl, ((Below.refl _ _).alloc (Nat.le_refl _) _).alloc (by simp) _⟩
      · rw [show decide (a < a ∨ a = a ∧ b ≤ d) = false by simp; omega]
        go_enter Tryd.func120, Tryd.ntmps120
        go_wp2
        go_ret
        exact ⟨rfl, ((Below.refl _ _).alloc (Nat.le_refl _) _).alloc (by simp) _⟩
    · rw [show decide (a < c ∨ a = c ∧ b ≤ d) = false by simp; omega]
      go_enter Tryd.func120, Tryd.ntmps120
      go_wp2
      go_ret
      exact ⟨rfl, ((Below.refl _ _).alloc (Nat.le_refl _) _).alloc (by simp) _⟩

theorem fix_atMost (n m : Nat) (w : World) :
    Calls Tryd.prog 120 #[.agg #[.int .u64 ((n / 18446744073709551616 : Nat) : Int), .int .u64 ((n % 18446744073709551616 : Nat) : Int)], .agg #[.int .u64 ((m / 18446744073709551616 : Nat) : Int), .int .u64 ((m % 18446744073709551616 : Nat) : Int)]] w fun e w' => e = .returned (.bool (decide (n ≤ m))) ∧ Below w.heap.size w w' := by
  have h := fix_atMost0 (n / 18446744073709551616 : Nat) (n % 18446744073709551616 : Nat) (m / 18446744073709551616 : Nat) (m % 18446744073709551616 : Nat) w
  rw [show decide (((n / 18446744073709551616 : Nat) : Int) < (m / 18446744073709551616 : Nat) ∨ ((n / 18446744073709551616 : Nat) : Int) = (m / 18446744073709551616 : Nat) ∧ ((n % 18446744073709551616 : Nat) : Int) ≤ (m % 18446744073709551616 : Nat)) = decide (n ≤ m) by apply decide_eq_decide.mpr; omega] at h
  exact h

theorem sq_bits {n k R : Nat} (hk : k < 43) (h : SqAt n k R) : bits .or .u64 (R : Int) (IntKind.u64.wrap (2 ^ (42 - k))) = ((R + 2 ^ (42 - k) : Nat) : Int) := by
  have hl := sqAt_lt hk h
  have e : IntKind.u64.wrap (2 ^ (42 - k)) = ((2 ^ (42 - k) : Nat) : Int) := by
    have h2 : ((2 : Int) ^ (42 - k)) = ((2 ^ (42 - k) : Nat) : Int) := by simp
    rw [h2]
    exact M64.wrapN _ (Nat.lt_of_le_of_lt (Nat.le_add_left _ _) hl)
  rw [e, ← sqAt_or hk h]
  exact bits_or_u64_nat R (2 ^ (42 - k)) (Nat.lt_of_le_of_lt (Nat.le_add_right _ _) hl) (Nat.lt_of_le_of_lt (Nat.le_add_left _ _) hl)

theorem below_stepB {w W W' : World} {B : Nat} (h : Below B w W) (hB : B ≤ W.heap.size) (k : Below W.heap.size W W') : Below B w W' := h.trans (k.mono hB)

set_option maxRecDepth 100000 in
set_option maxHeartbeats 4000000 in
theorem fix_rt1 (n : Nat) (hn : n < 2 ^ 86) (away : Bool) (w : World) (B0 : Nat) (l0 : B0 < w.heap.size) (c0 : w.cell? ⟨B0, 0, none⟩ = some (.int .u64 ((n / 18446744073709551616 : Nat) : Int))) (c1 : w.cell? ⟨B0, 1, none⟩ = some (.int .u64 ((n % 18446744073709551616 : Nat) : Int))) :
    Calls Tryd.prog 119 #[.bool away, .pointer (some ⟨B0, 0, none⟩)] w fun e w' => e = .returned (.tuple #[.int .u64 (rtOf away n : Nat), .bool true]) ∧ Below w.heap.size w w' := by
  obtain ⟨nh, hnh⟩ : ∃ nh, nh = n / 18446744073709551616 := ⟨_, rfl⟩
  obtain ⟨nl, hnl⟩ : ∃ nl, nl = n % 18446744073709551616 := ⟨_, rfl⟩
  rw [← hnh] at c0
  rw [← hnl] at c1
  have Hnh := Lib.hid hnh
  have Hnl := Lib.hid hnl
  have Hn := Lib.hid hn
  clear hnh hnl hn
  obtain ⟨RR, hRR⟩ : ∃ RR, RR = rtOf away n := ⟨_, rfl⟩
  rw [← hRR]
  have HRR := Lib.hid hRR
  clear hRR
  go_enter Tryd.func119, Tryd.ntmps119
  go_wp2_with fail
  go_loopw [5, 8] (fun r i wr => ∃ k R : Nat, k ≤ 43 ∧ i = .int .i64 k ∧ r = .int .u64 R ∧ Hid (SqAt n k R) ∧ Below w.heap.size w wr) (fun _ i _ => 43 - (intOf i).toNat)
  case atStart => exact ⟨0, 0, by omega, rfl, rfl, Lib.hid (sqAt_start Hn.out), Below.refl _ _⟩
  case round =>
    obtain ⟨k, R, hk, rfl, rfl, HS, hbw⟩ := hrel
    rcases Nat.lt_or_ge k 43 with hk' | hk'
    · have hb0 : decide ((k : Int) < 43) = true := by simp; omega
      obtain ⟨X, hX⟩ : ∃ X, X = R + 2 ^ (42 - k) := ⟨_, rfl⟩
      have HX := Lib.hid hX
      have HB := Lib.hid (sq_bits hk' HS.out)
      rw [← hX] at HB
      clear hX
      have l0' : B0 < wr.heap.size := Nat.lt_of_lt_of_le l0 hbw.size
      have c0' := (hbw.cell (p := ⟨B0, 0, none⟩) l0).trans c0
      have c1' := (hbw.cell (p := ⟨B0, 1, none⟩) l0).trans c1
      have HP := Lib.hid (fun W => fix_product X X (by rw [HX.out]; exact sqAt_lt hk' HS.out) (by rw [HX.out]; exact sqAt_lt hk' HS.out) W)
      have HA := Lib.hid (fun W => fix_atMost (X * X) n W)
      rw [← Hnh.out, ← Hnl.out] at HA
      have HN1 : Hid (∀ h : X * X ≤ n, SqAt n (k + 1) X) := Lib.hid (fun h => by have e := HX.out; rw [e] at h ⊢; exact sqAt_take hk' HS.out h)
      have HN2 : Hid (∀ h : ¬ X * X ≤ n, SqAt n (k + 1) R) := Lib.hid (fun h => by have e := HX.out; rw [e] at h; exact sqAt_leave hk' HS.out h)
      obtain ⟨Y, hY⟩ : ∃ Y, Y = X * X := ⟨_, rfl⟩
      rw [← hY] at HP HA HN1 HN2
      clear hY
      obtain ⟨yh, hyh⟩ : ∃ yh, yh = Y / 18446744073709551616 := ⟨_, rfl⟩
      obtain ⟨yl, hyl⟩ : ∃ yl, yl = Y % 18446744073709551616 := ⟨_, rfl⟩
      rw [← hyh, ← hyl] at HP HA
      clear hyh hyl
      by_cases hle : Y ≤ n
      · have HN := Lib.hid (HN1.out hle)
        rw [decide_eq_true hle] at HA
        clear hle
        go_upto_region 6 with (fail)
        rw [HB.out]
        go_region_held3 (fun w' => w'.cell? ⟨B0, 0, none⟩ = some (.int .u64 (nh : Int)) ∧ w'.cell? ⟨B0, 1, none⟩ = some (.int .u64 (nl : Int)) ∧ Below wr.heap.size wr w')
          (first
            | exact keep2 l0' l0' c0' c1' (Below.refl _ _).drew
            | (go_split_ands; exact keep2 l0' l0' c0' c1' (by assumption))
            | (go_split_ands; exact keep2 l0' l0' c0' c1' (below_step (by assumption) hbel)))
          (first
            | (go_at_call 92; refine (HP.out _).mono ?_; rintro e w' ⟨rfl, hbel⟩)
            | (go_at_call 120; refine (HA.out _).mono ?_; rintro e w' ⟨rfl, hbel⟩))
        go_wp2
        go_roundw
        case rel => exact ⟨k + 1, X, by omega, by go_num, rfl, HN, below_step hbw (by go_split_ands; assumption)⟩
        case measure => simp [intOf]; omega
      · have HN := Lib.hid (HN2.out hle)
        rw [decide_eq_false hle] at HA
        clear hle
        go_upto_region 6 with (fail)
        rw [HB.out]
        go_region_held3 (fun w' => w'.cell? ⟨B0, 0, none⟩ = some (.int .u64 (nh : Int)) ∧ w'.cell? ⟨B0, 1, none⟩ = some (.int .u64 (nl : Int)) ∧ Below wr.heap.size wr w')
          (first
            | exact keep2 l0' l0' c0' c1' (Below.refl _ _).drew
            | (go_split_ands; exact keep2 l0' l0' c0' c1' (by assumption))
            | (go_split_ands; exact keep2 l0' l0' c0' c1' (below_step (by assumption) hbel)))
          (first
            | (go_at_call 92; refine (HP.out _).mono ?_; rintro e w' ⟨rfl, hbel⟩)
            | (go_at_call 120; refine (HA.out _).mono ?_; rintro e w' ⟨rfl, hbel⟩))
        go_wp2
        go_roundw
        case rel => exact ⟨k + 1, R, by omega, by go_num, rfl, HN, below_step hbw (by go_split_ands; assumption)⟩
        case measure => simp [intOf]; omega
    · obtain rfl : k = 43 := by omega
      have HI := Lib.hid (sqAt_end HS.out)
      have l0' : B0 < wr.heap.size := Nat.lt_of_lt_of_le l0 hbw.size
      have c0' := (hbw.cell (p := ⟨B0, 0, none⟩) l0).trans c0
      have c1' := (hbw.cell (p := ⟨B0, 1, none⟩) l0).trans c1
      cases away
      · have HE : Hid (RR = R) := Lib.hid (by rw [HRR.out, rtOf, if_neg (by simp), HI.out])
        go_upto_region 9 with (fail)
        go_quiet (fail)
        go_wp2
        go_ret2
        exact ⟨by rw [HE.out]; rfl, below_step hbw (below_drewN (Below.refl _ _) _)⟩
      · have HP := Lib.hid (fun W => fix_product R R (by have := HS.out.2.2.2; simp at this; omega) (by have := HS.out.2.2.2; simp at this; omega) W)
        have HD : Hid (R * R = n ∨ ¬ R * R = n) := Lib.hid (Nat.decEq _ _).em
        have HE1 : Hid (R * R = n → RR = R) := Lib.hid (fun h => by rw [HRR.out, rtOf, HI.out, if_neg (by simp [h])])
        have HE2 : Hid (¬ R * R = n → RR = R + 1) := Lib.hid (fun h => by rw [HRR.out, rtOf, HI.out, if_pos ⟨rfl, h⟩])
        have HR : Hid (R < 18446744073709551615) := Lib.hid (by have := HS.out.2.2.2; simp at this; omega)
        obtain ⟨Y, hY⟩ : ∃ Y, Y = R * R := ⟨_, rfl⟩
        rw [← hY] at HP HE1 HE2 HD
        clear hY
        obtain ⟨yh, hyh⟩ : ∃ yh, yh = Y / 18446744073709551616 := ⟨_, rfl⟩
        obtain ⟨yl, hyl⟩ : ∃ yl, yl = Y % 18446744073709551616 := ⟨_, rfl⟩
        rw [← hyh, ← hyl] at HP
        by_cases e1 : nh = yh
        · by_cases e2 : nl = yl
          · have HE := Lib.hid (HE1.out (by have := Hnh.out; have := Hnl.out; omega))
            subst e1 e2
            clear hyh hyl
            go_upto_region 9 with (fail)
            go_region_held3 (fun w' => w'.cell? ⟨B0, 0, none⟩ = some (.int .u64 (nh : Int)) ∧ w'.cell? ⟨B0, 1, none⟩ = some (.int .u64 (nl : Int)) ∧ Below wr.heap.size wr w')
              (first
                | exact keep2 l0' l0' c0' c1' (Below.refl _ _).drew
                | (go_split_ands; exact keep2 l0' l0' c0' c1' (by assumption))
                | (go_split_ands; exact keep2 l0' l0' c0' c1' (below_step (by assumption) hbel)))
              (first
                | (go_at_call 92; refine (HP.out _).mono ?_; rintro e w' ⟨rfl, hbel⟩))
            go_wp2
            go_ret2
            exact ⟨by rw [HE.out]; rfl, below_step hbw (by go_split_ands; assumption)⟩
          · have HE := Lib.hid (HE2.out (by have := Hnh.out; have := Hnl.out; rintro rfl; omega))
            have e3 : ¬ (yl : Int) = (nl : Int) := by omega
            have hw1 : IntKind.u64.wrap ((R : Int) + 1) = ((R + 1 : Nat) : Int) := M64.wrapN (R + 1) (by have := HR.out; omega)
            have HW := Lib.hid hw1
            subst e1
            clear hyh hyl hw1
            go_upto_region 9 with (fail)
            go_region_held3 (fun w' => w'.cell? ⟨B0, 0, none⟩ = some (.int .u64 (nh : Int)) ∧ w'.cell? ⟨B0, 1, none⟩ = some (.int .u64 (nl : Int)) ∧ Below wr.heap.size wr w')
              (first
                | exact keep2 l0' l0' c0' c1' (Below.refl _ _).drew
                | (go_split_ands; exact keep2 l0' l0' c0' c1' (by assumption))
                | (go_split_ands; exact keep2 l0' l0' c0' c1' (below_step (by assumption) hbel)))
              (first
                | (go_at_call 92; refine (HP.out _).mono ?_; rintro e w' ⟨rfl, hbel⟩))
            go_wp2
            go_ret2
            exact ⟨by rw [HE.out, ← HW.out]; rfl, below_step hbw (by go_split_ands; assumption)⟩
        · have HE := Lib.hid (HE2.out (by have := Hnh.out; have := Hnl.out; rintro rfl; omega))
          have e3 : ¬ (yh : Int) = (nh : Int) := by omega
          have hw1 : IntKind.u64.wrap ((R : Int) + 1) = ((R + 1 : Nat) : Int) := M64.wrapN (R + 1) (by have := HR.out; omega)
          have HW := Lib.hid hw1
          clear hyh hyl hw1
          go_upto_region 9 with (fail)
          go_region_held3 (fun w' => w'.cell? ⟨B0, 0, none⟩ = some (.int .u64 (nh : Int)) ∧ w'.cell? ⟨B0, 1, none⟩ = some (.int .u64 (nl : Int)) ∧ Below wr.heap.size wr w')
            (first
              | exact keep2 l0' l0' c0' c1' (Below.refl _ _).drew
              | (go_split_ands; exact keep2 l0' l0' c0' c1' (by assumption))
              | (go_split_ands; exact keep2 l0' l0' c0' c1' (below_step (by assumption) hbel)))
            (first
              | (go_at_call 92; refine (HP.out _).mono ?_; rintro e w' ⟨rfl, hbel⟩))
          go_wp2
          go_ret2
          exact ⟨by rw [HE.out, ← HW.out]; rfl, below_step hbw (by go_split_ands; assumption)⟩

set_option maxRecDepth 100000 in
set_option maxHeartbeats 1000000 in
theorem fix_root (a : Int) (up : Bool) (w : World) :
    Calls Tryd.prog 104 #[.int .i64 a, .bool up] w fun e w' => e = .returned (.tuple #[.int .i64 (rt up a).1, .int .i64 (rt up a).2]) ∧ Below w.heap.size w w' := by
  by_cases ha : ok a
  · have Hc := Lib.hid (chk_ok ha)
    by_cases h0 : a < 0
    · have Hr := Lib.hid (rt_bad up (a := a) (by omega))
      clear ha
      go_enter Tryd.func104, Tryd.ntmps104
      go_wp2_with (go_at_call 118; refine (fix_Check _ _).mono ?_; rintro e w' ⟨rfl, rfl⟩; rw [Hc.out])
      go_ret2
      exact ⟨ret2 Hr.out, Below.refl _ _⟩
    · obtain ⟨A, rfl⟩ : ∃ A : Nat, a = A := ⟨a.toNat, by omega⟩
      have Hr := Lib.hid (rt_ok up ha (by omega))
      rw [Int.toNat_natCast] at Hr
      have hA : A ≤ 4503599627370496 := by have := ha.2; omega
      have HP := Lib.hid (fun W => fix_product_one A (by omega) W)
      have hw : IntKind.u64.wrap (A : Int) = (A : Int) := M64.wrapN A (by omega)
      have hb : decide ((A : Int) < 0) = false := by simp
      obtain ⟨n, hn⟩ : ∃ n, n = A * 4294967296 := ⟨_, rfl⟩
      rw [← hn] at HP Hr
      have h86 : n < 2 ^ 86 := by
        have : (2 : Nat) ^ 86 = 77371252455336267181195264 := by decide
        omega
      have HL := Lib.hid (sgn_near false (q := rtOf up n) (rtOf_le up (by omega)))
      have HQ : rtOf up n < 18446744073709551616 := by
        have := rtOf_le up (n := n) (r := 4503599627370496) (by omega)
        omega
      have HS : Hid (∀ (W : World) (B0 : Nat), B0 < W.heap.size → W.cell? ⟨B0, 0, none⟩ = some (.int .u64 ((n / 18446744073709551616 : Nat) : Int)) → W.cell? ⟨B0, 1, none⟩ = some (.int .u64 ((n % 18446744073709551616 : Nat) : Int)) →
          Calls Tryd.prog 89 #[.bool false, .bool up, .func (.func 119) #[] #[.pointer (some ⟨B0, 0, none⟩)]] W fun e w' => e = .returned (.tuple #[.int .i64 (sgn false (rtOf up n, true)).1, .int .i64 (sgn false (rtOf up n, true)).2]) ∧ Below W.heap.size W w') :=
        Lib.hid (fun W B0 l0 c0 c1 => fix_signed_rt false up (.pointer (some ⟨B0, 0, none⟩)) (rtOf up n, true) HQ W (by have h := fix_rt1 n h86 up W B0 l0 c0 c1; rw [← Bool.bne_false (b := up)] at h; simpa using h))
      clear HQ
      obtain ⟨nh, hnh⟩ : ∃ nh, nh = n / 18446744073709551616 := ⟨_, rfl⟩
      obtain ⟨nl, hnl⟩ : ∃ nl, nl = n % 18446744073709551616 := ⟨_, rfl⟩
      rw [← hnh, ← hnl] at HP
      rw [← hnh, ← hnl] at HS
      rw [HL.out] at HS
      clear ha h0 hA hn h86 hnh hnl
      go_enter Tryd.func104, Tryd.ntmps104
      go_wp2_with (first | (go_at_call 118; refine (fix_Check _ _).mono ?_; rintro e w' ⟨rfl, rfl⟩; rw [Hc.out]) | (go_at_call 92; refine (HP.out _).mono ?_; rintro e w' ⟨rfl, hbel⟩) | (go_at_call 89; refine (HS.out _ _ (by simp) (by simp) (by simp)).mono ?_; rintro e w' ⟨rfl, hbel2⟩))
      go_ret2
      refine ⟨ret2 (by rw [Hr.out]), below_step ?_ hbel2⟩
      exact hbel.alloc hbel.size _
  · have Hc := Lib.hid (chk_bad ha)
    have Hr := Lib.hid (rt_bad up (a := a) (fun h => ha h.1))
    clear ha
    go_enter Tryd.func104, Tryd.ntmps104
    go_wp2_with (go_at_call 118; refine (fix_Check _ _).mono ?_; rintro e w' ⟨rfl, rfl⟩; rw [Hc.out])
    go_ret2
    exact ⟨ret2 Hr.out, Below.refl _ _⟩

theorem fix_SqrtDown (a : Int) (w : World) :
    Calls Tryd.prog 83 #[.int .i64 a] w fun e w' => e = .returned (.tuple #[.int .i64 (rt false a).1, .int .i64 (rt false a).2]) ∧ Below w.heap.size w w' := by
  have H := Lib.hid (fun W => fix_root a false W)
  go_enter Tryd.func83, Tryd.ntmps83
  go_wp2_with (go_at_call 104; refine (H.out _).mono ?_; rintro e w' ⟨rfl, hbel⟩)
  go_ret2
  exact ⟨rfl, hbel⟩

theorem fix_SqrtUp (a : Int) (w : World) :
    Calls Tryd.prog 84 #[.int .i64 a] w fun e w' => e = .returned (.tuple #[.int .i64 (rt true a).1, .int .i64 (rt true a).2]) ∧ Below w.heap.size w w' := by
  have H := Lib.hid (fun W => fix_root a true W)
  go_enter Tryd.func84, Tryd.ntmps84
  go_wp2_with (go_at_call 104; refine (H.out _).mono ?_; rintro e w' ⟨rfl, hbel⟩)
  go_ret2
  exact ⟨rfl, hbel⟩

end Go.Proofs.YtjphhdfkkkdppaaDoor

/- Contract: fix.FromDec. -/
namespace Go.Proofs.YtjphhdfkkkdppaaDoor
open Go.RowKit Mnc

/-- The powers of ten lie where the variable lies. -/
def Pows (w : World) : Prop := 0 < w.heap.size ∧ ∀ k : Nat, k < 13 → w.cell? ⟨0, k, none⟩ = some (.int .u64 ((10 ^ k : Nat) : Int))
theorem Pows.below {w w' : World} (h : Pows w) (k : Below w.heap.size w w') : Pows w' := ⟨Nat.lt_of_lt_of_le h.1 k.size, fun j hj => (k.cell h.1).trans (h.2 j hj)⟩
theorem pow_lt {k : Nat} (h : k < 13) : 10 ^ k < 18446744073709551616 := Nat.lt_of_lt_of_le (Nat.pow_lt_pow_right (by omega) h) (by decide)

theorem dec_signed (a : Int) (ha : -9223372036854775808 ≤ a ∧ a ≤ 9223372036854775807) (k : Nat) (hk : k < 13) (up : Bool) (W : World) (B0 B1 : Nat) (l0 : B0 < W.heap.size) (l1 : B1 < W.heap.size) (c0 : W.cell? ⟨B0, 0, none⟩ = some (.int .i64 a)) (c1 : W.cell? ⟨B1, 0, none⟩ = some (.int .i64 (k : Int))) (hP : Pows W) :
    Calls Tryd.prog 89 #[.bool (decide (a < 0)), .bool up, .func (.func 90) #[] #[.pointer (some ⟨B0, 0, none⟩), .pointer (some ⟨B1, 0, none⟩)]] W fun e w' => e = .returned (.tuple #[.int .i64 (decOf up a k).1, .int .i64 (decOf up a k).2]) ∧ Below W.heap.size W w' :=
  fix_signed_dec (decide (a < 0)) up (.pointer (some ⟨B0, 0, none⟩)) (.pointer (some ⟨B1, 0, none⟩)) _ (quo_lt _ _ _) W (fix_dec1 a k (10 ^ k) ha (pow_lt hk) hk _ W B0 B1 l0 l1 c0 c1 hP.1 (hP.2 k hk))

theorem ret3 {k k' k'' : IntKind} {a b c : Int} {p : Int × Int × Int} (h : p = (a, b, c)) : Ending.returned (.tuple #[.int k a, .int k' b, .int k'' c]) = .returned (.tuple #[.int k p.1, .int k' p.2.1, .int k'' p.2.2]) := by rw [h]

def DecAt (p0 p1 : Int × Int) (j : Nat) (x y : Int) : Prop := (1 ≤ j → p0.2 = 0 ∧ x = p0.1) ∧ (2 ≤ j → p1.2 = 0 ∧ y = p1.1)
structure DecMem (w wr : World) (a : Int) (k : Nat) (x y : Int) : Prop where
  bel : Below w.heap.size w wr
  b0 : wr.heap[w.heap.size]? = some (.cells #[.int .i64 a] 3 (0, 0))
  b1 : wr.heap[w.heap.size + 1]? = some (.cells #[.int .i64 (k : Int)] 3 (0, 0))
  b2 : wr.heap[w.heap.size + 1 + 1]? = some (.cells #[.int .i64 x, .int .i64 y] 37 (0, 0))

theorem DecMem.start (w : World) (a : Int) (k : Nat) : DecMem w (((w.alloc (.cells #[.int .i64 a] 3)).alloc (.cells #[.int .i64 (k : Int)] 3)).alloc (.cells #[.int .i64 0, .int .i64 0] 37)) a k 0 0 where
  bel := (((Below.refl _ _).alloc (Nat.le_refl _) _).alloc (by simp) _).alloc (by simp; omega) _
  b0 := by
    rw [Below.heap_alloc _ _ _ (by simp; omega), Below.heap_alloc _ _ _ (by simp)]
    exact heap_alloc_new w _
  b1 := by
    rw [Below.heap_alloc _ _ _ (by simp)]
    have h := heap_alloc_new (w.alloc (.cells #[.int .i64 a] 3)) (.cells #[.int .i64 (k : Int)] 3)
    rw [show (w.alloc (.cells #[.int .i64 a] 3)).heap.size = w.heap.size + 1 by simp] at h
    exact h
  b2 := by
    have h := heap_alloc_new ((w.alloc (.cells #[.int .i64 a] 3)).alloc (.cells #[.int .i64 (k : Int)] 3)) (.cells #[.int .i64 0, .int .i64 0] 37)
    rw [show ((w.alloc (.cells #[.int .i64 a] 3)).alloc (.cells #[.int .i64 (k : Int)] 3)).heap.size = w.heap.size + 1 + 1 by simp] at h
    exact h

theorem DecMem.set0 {w wr w' : World} {a : Int} {k : Nat} {x y : Int} (h : DecMem w wr a k x y) (hb : Below wr.heap.size wr w') (z : Int) : DecMem w (w'.setCell ⟨w.heap.size + 1 + 1, 0, none⟩ (.int .i64 z)) a k z y where
  bel := (below_step h.bel hb).setCell (by simp; omega) _
  b0 := by rw [heap_setCell_other _ _ _ _ (by simp; omega), hb.block _ (lt_of_block h.b0)]; exact h.b0
  b1 := by rw [heap_setCell_other _ _ _ _ (by simp), hb.block _ (lt_of_block h.b1)]; exact h.b1
  b2 := by rw [heap_setCell_same _ _ _ _ _ _ ((hb.block _ (lt_of_block h.b2)).trans h.b2)]; rfl

theorem DecMem.set1 {w wr w' : World} {a : Int} {k : Nat} {x y : Int} (h : DecMem w wr a k x y) (hb : Below wr.heap.size wr w') (z : Int) : DecMem w (w'.setCell ⟨w.heap.size + 1 + 1, 1, none⟩ (.int .i64 z)) a k x z where
  bel := (below_step h.bel hb).setCell (by simp; omega) _
  b0 := by rw [heap_setCell_other _ _ _ _ (by simp; omega), hb.block _ (lt_of_block h.b0)]; exact h.b0
  b1 := by rw [heap_setCell_other _ _ _ _ (by simp), hb.block _ (lt_of_block h.b1)]; exact h.b1
  b2 := by rw [heap_setCell_same _ _ _ _ _ _ ((hb.block _ (lt_of_block h.b2)).trans h.b2)]; rfl

theorem cell_two0 {w : World} {b : Nat} {u v : Value} {t : TypeId} (h : w.heap[b]? = some (.cells #[u, v] t (0, 0))) : w.cell? ⟨b, 0, none⟩ = some u := by simp [World.cell?, h]
theorem cell_two1 {w : World} {b : Nat} {u v : Value} {t : TypeId} (h : w.heap[b]? = some (.cells #[u, v] t (0, 0))) : w.cell? ⟨b, 1, none⟩ = some v := by simp [World.cell?, h]
theorem free_two {w : World} {b i : Nat} {u v : Value} {t : TypeId} (h : w.heap[b]? = some (.cells #[u, v] t (0, 0))) : w.frozen? ⟨b, i, none⟩ = false := by simp [World.frozen?, h]

set_option maxRecDepth 100000 in
set_option maxHeartbeats 4000000 in
theorem fix_FromDec (a d : Int) (ha : -9223372036854775808 ≤ a ∧ a ≤ 9223372036854775807) (w : World) (hP : Pows w) :
    Calls Tryd.prog 66 #[.int .i64 a, .int .i64 d] w fun e w' => e = .returned (.tuple #[.int .i64 (dec a d).1, .int .i64 (dec a d).2.1, .int .i64 (dec a d).2.2]) ∧ Below w.heap.size w w' := by
  by_cases h1 : d < 0
  · have Hr := Lib.hid (dec_bad (a := a) (d := d) (by omega))
    clear ha hP
    go_enter Tryd.func66, Tryd.ntmps66
    go_wp2
    refine bodyPost_ret (v := .tuple #[.int .i64 0, .int .i64 0, .int .i64 2]) (by simp [results, Tryd.results66, go_sem]) rfl ?_
    exact ⟨ret3 Hr.out, ((Below.refl _ _).alloc (Nat.le_refl _) _).alloc (by simp) _⟩
  · by_cases h2 : 13 ≤ d
    · have Hr := Lib.hid (dec_bad (a := a) (d := d) (by omega))
      clear ha hP
      go_enter Tryd.func66, Tryd.ntmps66
      go_wp2
      refine bodyPost_ret (v := .tuple #[.int .i64 0, .int .i64 0, .int .i64 2]) (by simp [results, Tryd.results66, go_sem]) rfl ?_
      exact ⟨ret3 Hr.out, ((Below.refl _ _).alloc (Nat.le_refl _) _).alloc (by simp) _⟩
    · obtain ⟨k, rfl⟩ : ∃ k : Nat, d = k := ⟨d.toNat, by omega⟩
      have hk : k < 13 := by omega
      have b1 : decide ((k : Int) < 0) = false := by simp
      have b2 : decide ((13 : Int) ≤ (k : Int)) = false := by simp; omega
      clear h1 h2
      have Hr := Lib.hid (dec_in a hk)
      have HS0 := Lib.hid (dec_signed a ha k hk false)
      have HS1 := Lib.hid (dec_signed a ha k hk true)
      obtain ⟨p0, hp0⟩ : ∃ p0, p0 = decOf false a k := ⟨_, rfl⟩
      obtain ⟨p1, hp1⟩ : ∃ p1, p1 = decOf true a k := ⟨_, rfl⟩
      rw [← hp0] at HS0
      rw [← hp1] at HS1
      rw [← hp0, ← hp1] at Hr
      have HP := Lib.hid hP
      clear ha hk hP hp0 hp1
      go_enter Tryd.func66, Tryd.ntmps66
      go_wp2_with fail
      go_loopw [6, 16] (fun e i wr => ∃ (j : Nat) (x y : Int), j ≤ 2 ∧ i = .int .i64 j ∧ e = .int .i64 0 ∧ Hid (DecAt p0 p1 j x y) ∧ Hid (DecMem w wr a k x y)) (fun _ i _ => 2 - (intOf i).toNat)
      case atStart => exact ⟨0, 0, 0, by omega, rfl, rfl, Lib.hid ⟨fun h => by omega, fun h => by omega⟩, Lib.hid (DecMem.start w a k)⟩
      case round =>
        obtain ⟨j, x, y, hj, rfl, rfl, HD, HM⟩ := hrel
        rcases (by omega : j = 0 ∨ j = 1 ∨ j = 2) with rfl | rfl | rfl
        · have HSj := Lib.hid (HS0.out wr w.heap.size (w.heap.size + 1) (lt_of_block HM.out.b0) (lt_of_block HM.out.b1) (cell_of_one HM.out.b0) (cell_of_one HM.out.b1) (HP.out.below HM.out.bel))
          have l2 := lt_of_block HM.out.b2
          have g0 := cell_of_one HM.out.b0
          have f0 := cell_two0 HM.out.b2
          have f1 := free_two (i := 0) HM.out.b2
          by_cases hz : p0.2 = 0
          · have HZ := Lib.hid hz
            clear hz
            rw [HZ.out] at HSj
            go_wp2_with (go_at_call 89; refine (HSj.out).mono ?_; rintro e w' ⟨rfl, hbel⟩; have q1 := (hbel.cell (p := ⟨w.heap.size + 1 + 1, 0, none⟩) l2).trans f0; have q2 := (hbel.frozen (p := ⟨w.heap.size + 1 + 1, 0, none⟩) l2).trans f1)
            go_roundw
            case rel => exact ⟨1, p0.1, y, by omega, rfl, rfl, Lib.hid ⟨fun _ => ⟨HZ.out, rfl⟩, fun h => by omega⟩, Lib.hid (HM.out.set0 hbel _)⟩
            case measure => simp [intOf]
          · have HZ := Lib.hid hz
            have hz2 : decide (p0.2 = 0) = false := by simp [hz]
            go_wp2_with (go_at_call 89; refine (HSj.out).mono ?_; rintro e w' ⟨rfl, hbel⟩; have q1 := (hbel.cell (p := ⟨w.heap.size + 1 + 1, 0, none⟩) l2).trans f0; have q2 := (hbel.frozen (p := ⟨w.heap.size + 1 + 1, 0, none⟩) l2).trans f1)
            refine bodyPost_ret (v := .tuple #[.int .i64 0, .int .i64 0, .int .i64 p0.2]) (by simp [results, Tryd.results66, go_sem]) rfl ?_
            exact ⟨ret3 (by rw [Hr.out, if_neg HZ.out]), (HM.out.set0 hbel _).bel⟩
        · have HSj := Lib.hid (HS1.out wr w.heap.size (w.heap.size + 1) (lt_of_block HM.out.b0) (lt_of_block HM.out.b1) (cell_of_one HM.out.b0) (cell_of_one HM.out.b1) (HP.out.below HM.out.bel))
          have l2 := lt_of_block HM.out.b2
          have g0 := cell_of_one HM.out.b0
          have f0 := cell_two1 HM.out.b2
          have f1 := free_two (i := 1) HM.out.b2
          by_cases hz : p1.2 = 0
          · have HZ := Lib.hid hz
            clear hz
            rw [HZ.out] at HSj
            go_wp2_with (go_at_call 89; refine (HSj.out).mono ?_; rintro e w' ⟨rfl, hbel⟩; have q1 := (hbel.cell (p := ⟨w.heap.size + 1 + 1, 1, none⟩) l2).trans f0; have q2 := (hbel.frozen (p := ⟨w.heap.size + 1 + 1, 1, none⟩) l2).trans f1)
            go_roundw
            case rel => exact ⟨2, x, p1.1, by omega, rfl, rfl, Lib.hid ⟨fun _ => HD.out.1 (by omega), fun h => ⟨HZ.out, rfl⟩⟩, Lib.hid (HM.out.set1 hbel _)⟩
            case measure => simp [intOf]
          · have HZ := Lib.hid hz
            have hz2 : decide (p1.2 = 0) = false := by simp [hz]
            go_wp2_with (go_at_call 89; refine (HSj.out).mono ?_; rintro e w' ⟨rfl, hbel⟩; have q1 := (hbel.cell (p := ⟨w.heap.size + 1 + 1, 1, none⟩) l2).trans f0; have q2 := (hbel.frozen (p := ⟨w.heap.size + 1 + 1, 1, none⟩) l2).trans f1)
            refine bodyPost_ret (v := .tuple #[.int .i64 0, .int .i64 0, .int .i64 p1.2]) (by simp [results, Tryd.results66, go_sem]) rfl ?_
            exact ⟨ret3 (by rw [Hr.out, if_pos (HD.out.1 (by omega)).1, if_neg HZ.out]), (HM.out.set1 hbel _).bel⟩
        · have f0 := cell_two0 HM.out.b2
          have f1 := cell_two1 HM.out.b2
          go_upto_region 11 with (fail)
          go_quiet (fail)
          go_wp2
          refine bodyPost_ret (v := .tuple #[.int .i64 x, .int .i64 y, .int .i64 0]) (by simp [results, Tryd.results66, go_sem]) rfl ?_
          exact ⟨ret3 (by rw [Hr.out, if_pos (HD.out.1 (by omega)).1, if_pos (HD.out.2 (by omega)).1, (HD.out.1 (by omega)).2, (HD.out.2 (by omega)).2]), below_step HM.out.bel (below_drewN (Below.refl _ _) _)⟩
end Go.Proofs.YtjphhdfkkkdppaaDoor
