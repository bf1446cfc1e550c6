/- Contracts: the closures of fix.multiplied, divided, scaled. -/
import Derived.Test.YthhkcfpljgdnhaaGreatFixX
import Derived.Test.YthhkcfpljgdnhaaGreatFixS
import Derived.Deep.RegionHeld3
import Derived.BigGuardPart
import Derived.Test.YthhkcfpljgdnhaaGreatPl
import Derived.OneCell
namespace Go.Proofs.YthhkcfpljgdnhaaGreat
open Go.RowKit Mnc

theorem split128 (n : Nat) : n / 18446744073709551616 * 18446744073709551616 + n % 18446744073709551616 = n := by omega

theorem fix_quotient' (n d : Nat) (away : Bool) (hd : d < 18446744073709551616) (w : World) :
  Calls Tryz.prog 115 #[.agg #[.int .u64 ((n / 18446744073709551616 : Nat) : Int), .int .u64 ((n % 18446744073709551616 : Nat) : Int)], .int .u64 (d : Int), .bool away] w fun e w' => e = .returned (.tuple #[.int .u64 ((quo n d away).1 : Nat), .bool (quo n d away).2]) ∧ Below w.heap.size w w' := by
 have h := fix_quotient (n / 18446744073709551616) (n % 18446744073709551616) d away (Nat.mod_lt _ (by omega)) hd w
 rw [split128] at h
 exact h

theorem fix_quotient_one (n : Nat) (away : Bool) (w : World) :
  Calls Tryz.prog 115 #[.agg #[.int .u64 ((n / 18446744073709551616 : Nat) : Int), .int .u64 ((n % 18446744073709551616 : Nat) : Int)], .int .u64 4294967296, .bool away] w fun e w' => e = .returned (.tuple #[.int .u64 ((quo n 4294967296 away).1 : Nat), .bool (quo n 4294967296 away).2]) ∧ Below w.heap.size w w' := by
 have h := fix_quotient' n 4294967296 away (by omega) w
 rw [show ((4294967296 : Nat) : Int) = 4294967296 from rfl] at h
 exact h

theorem fix_product_one (x : Nat) (hx : x < 18446744073709551616) (w : World) :
  Calls Tryz.prog 116 #[.int .u64 x, .int .u64 4294967296] w fun e w' => e = .returned (.agg #[.int .u64 ((x * 4294967296 / 18446744073709551616 : Nat) : Int), .int .u64 ((x * 4294967296 % 18446744073709551616 : Nat) : Int)]) ∧ Below w.heap.size w w' := by
 have h := fix_product x 4294967296 hx (by omega) w
 rw [show ((4294967296 : Nat) : Int) = 4294967296 from rfl] at h
 exact h

theorem below_step {w W W' : World} (h : Below w.heap.size w W) (k : Below W.heap.size W W') : Below w.heap.size w W' := h.trans (k.mono h.size)
theorem keep2 {w W : World} {p0 p1 : Addr} {v0 v1 : Value} (l0 : p0.block < w.heap.size) (l1 : p1.block < w.heap.size) (c0 : w.cell? p0 = some v0) (c1 : w.cell? p1 = some v1) (h : Below w.heap.size w W) : W.cell? p0 = some v0 ∧ W.cell? p1 = some v1 ∧ Below w.heap.size w W := ⟨(h.cell l0).trans c0, (h.cell l1).trans c1, h⟩
set_option maxRecDepth 100000 in
set_option maxHeartbeats 1000000 in
theorem fix_mul1 (a b : Int) (ha : ok a) (hb : ok b) (away : Bool) (w : World) (B0 B1 : Nat) (l0 : B0 < w.heap.size) (l1 : B1 < w.heap.size) (c0 : w.cell? ⟨B0, 0, none⟩ = some (.int .i64 a)) (c1 : w.cell? ⟨B1, 0, none⟩ = some (.int .i64 b)) :
  Calls Tryz.prog 122 #[.bool away, .pointer (some ⟨B0, 0, none⟩), .pointer (some ⟨B1, 0, none⟩)] w fun e w' => e = .returned (.tuple #[.int .u64 ((quo (a.natAbs * b.natAbs) 4294967296 away).1 : Nat), .bool (quo (a.natAbs * b.natAbs) 4294967296 away).2]) ∧ Below w.heap.size w w' := by
 have HsA := Lib.hid (fun W => fix_size a W (by have := ha.1; omega) (by have := ha.2; omega))
 have HsB := Lib.hid (fun W => fix_size b W (by have := hb.1; omega) (by have := hb.2; omega))
 have HP := Lib.hid (fun W => fix_product a.natAbs b.natAbs (by have := ha.1; have := ha.2; omega) (by have := hb.1; have := hb.2; omega) W)
 have HQ := Lib.hid (fun W => fix_quotient_one (a.natAbs * b.natAbs) away W)
 clear ha hb
 obtain ⟨x, hx⟩ : ∃ x, x = a.natAbs := ⟨_, rfl⟩
 obtain ⟨y, hy⟩ : ∃ y, y = b.natAbs := ⟨_, rfl⟩
 rw [← hx] at HsA HP HQ
 rw [← hy] at HsB HP HQ
 rw [← hx, ← hy]
 clear hx hy
 obtain ⟨n, hn⟩ : ∃ n, n = x * y := ⟨_, rfl⟩
 rw [← hn] at HP HQ ⊢
 clear hn
 obtain ⟨nh, hnh⟩ : ∃ nh, nh = n / 18446744073709551616 := ⟨_, rfl⟩
 obtain ⟨nl, hnl⟩ : ∃ nl, nl = n % 18446744073709551616 := ⟨_, rfl⟩
 rw [← hnh, ← hnl] at HP HQ
 clear hnh hnl
 obtain ⟨qq, hqq⟩ : ∃ qq, qq = quo n 4294967296 away := ⟨_, rfl⟩
 rw [← hqq] at HQ ⊢
 clear hqq
 go_enter Tryz.func122, Tryz.ntmps122
 go_wp2_with fail
 go_region_held3 (fun w' => w'.cell? ⟨B0, 0, none⟩ = some (.int .i64 a) ∧ w'.cell? ⟨B1, 0, none⟩ = some (.int .i64 b) ∧ Below w.heap.size w w')
  (first
   | exact keep2 l0 l1 c0 c1 (Below.refl _ _).drew
   | (go_split_ands; exact keep2 l0 l1 c0 c1 (by assumption))
   | (go_split_ands; exact keep2 l0 l1 c0 c1 (below_step (by assumption) hbel)))
  (first
   | (go_at_call_of 117 a; refine (HsA.out _).mono ?_; rintro e w' ⟨rfl, rfl⟩)
   | (go_at_call_of 117 b; refine (HsB.out _).mono ?_; rintro e w' ⟨rfl, rfl⟩)
   | (go_at_call 116; refine (HP.out _).mono ?_; rintro e w' ⟨rfl, hbel⟩)
   | (go_at_call 115; refine (HQ.out _).mono ?_; rintro e w' ⟨rfl, hbel⟩))
 go_wp2
 go_ret2
 exact ⟨rfl, by go_split_ands; assumption⟩

set_option maxRecDepth 100000 in
set_option maxHeartbeats 1000000 in
theorem fix_div1 (a b : Int) (ha : ok a) (hb : ok b) (away : Bool) (w : World) (B0 B1 : Nat) (l0 : B0 < w.heap.size) (l1 : B1 < w.heap.size) (c0 : w.cell? ⟨B0, 0, none⟩ = some (.int .i64 a)) (c1 : w.cell? ⟨B1, 0, none⟩ = some (.int .i64 b)) :
  Calls Tryz.prog 114 #[.bool away, .pointer (some ⟨B0, 0, none⟩), .pointer (some ⟨B1, 0, none⟩)] w fun e w' => e = .returned (.tuple #[.int .u64 ((quo (a.natAbs * 4294967296) b.natAbs away).1 : Nat), .bool (quo (a.natAbs * 4294967296) b.natAbs away).2]) ∧ Below w.heap.size w w' := by
 have HsA := Lib.hid (fun W => fix_size a W (by have := ha.1; omega) (by have := ha.2; omega))
 have HsB := Lib.hid (fun W => fix_size b W (by have := hb.1; omega) (by have := hb.2; omega))
 have HP := Lib.hid (fun W => fix_product_one a.natAbs (by have := ha.1; have := ha.2; omega) W)
 have HQ := Lib.hid (fun W => fix_quotient' (a.natAbs * 4294967296) b.natAbs away (by have := hb.1; have := hb.2; omega) W)
 clear ha hb
 obtain ⟨x, hx⟩ : ∃ x, x = a.natAbs := ⟨_, rfl⟩
 obtain ⟨y, hy⟩ : ∃ y, y = b.natAbs := ⟨_, rfl⟩
 rw [← hx] at HsA HP HQ
 rw [← hy] at HsB HQ
 rw [← hx, ← hy]
 clear hx hy
 obtain ⟨n, hn⟩ : ∃ n, n = x * 4294967296 := ⟨_, rfl⟩
 rw [← hn] at HP HQ ⊢
 clear hn
 obtain ⟨nh, hnh⟩ : ∃ nh, nh = n / 18446744073709551616 := ⟨_, rfl⟩
 obtain ⟨nl, hnl⟩ : ∃ nl, nl = n % 18446744073709551616 := ⟨_, rfl⟩
 rw [← hnh, ← hnl] at HP HQ
 clear hnh hnl
 obtain ⟨qq, hqq⟩ : ∃ qq, qq = quo n y away := ⟨_, rfl⟩
 rw [← hqq] at HQ ⊢
 clear hqq
 go_enter Tryz.func114, Tryz.ntmps114
 go_wp2_with fail
 go_region_held3 (fun w' => w'.cell? ⟨B0, 0, none⟩ = some (.int .i64 a) ∧ w'.cell? ⟨B1, 0, none⟩ = some (.int .i64 b) ∧ Below w.heap.size w w')
  (first
   | exact keep2 l0 l1 c0 c1 (Below.refl _ _).drew
   | (go_split_ands; exact keep2 l0 l1 c0 c1 (by assumption))
   | (go_split_ands; exact keep2 l0 l1 c0 c1 (below_step (by assumption) hbel)))
  (first
   | (go_at_call_of 117 a; refine (HsA.out _).mono ?_; rintro e w' ⟨rfl, rfl⟩)
   | (go_at_call_of 117 b; refine (HsB.out _).mono ?_; rintro e w' ⟨rfl, rfl⟩)
   | (go_at_call 116; refine (HP.out _).mono ?_; rintro e w' ⟨rfl, hbel⟩)
   | (go_at_call 115; refine (HQ.out _).mono ?_; rintro e w' ⟨rfl, hbel⟩))
 go_wp2
 go_ret2
 exact ⟨rfl, by go_split_ands; assumption⟩

end Go.Proofs.YthhkcfpljgdnhaaGreat

/- Contracts: multiplied, divided, scaled and the exported functions over them. Printed by wip/genG.py. -/
namespace Go.Proofs.YthhkcfpljgdnhaaGreat
open Go.RowKit Mnc

theorem fix_all2_box (a b : Int) (w : World) :
  Calls Tryz.prog 112 #[.slice (some ⟨w.heap.size + 1 + 1, 0, none⟩) 2 2] (((w.alloc (.cells #[.int .i64 a] 3)).alloc (.cells #[.int .i64 b] 3)).alloc (.cells #[.int .i64 a, .int .i64 b] 3)) fun e w' => e = .returned (.int .i64 (chk2 a b)) ∧ ((w.alloc (.cells #[.int .i64 a] 3)).alloc (.cells #[.int .i64 b] 3)).alloc (.cells #[.int .i64 a, .int .i64 b] 3) = w' := by
 have h := fix_all2_new a b ((w.alloc (.cells #[.int .i64 a] 3)).alloc (.cells #[.int .i64 b] 3))
 rw [show ((w.alloc (.cells #[.int .i64 a] 3)).alloc (.cells #[.int .i64 b] 3)).heap.size = w.heap.size + 1 + 1 by simp] at h
 exact h

theorem box_a (w : World) (u v : Value) (o o' : TypeId) (C : Obj) : (((w.alloc (.cells #[u] o)).alloc (.cells #[v] o')).alloc C).cell? ⟨w.heap.size, 0, none⟩ = some u := by
 have h : Below (w.heap.size + 1) (w.alloc (.cells #[u] o)) (((w.alloc (.cells #[u] o)).alloc (.cells #[v] o')).alloc C) := ((Below.refl _ _).alloc (by simp) _).alloc (by simp) _
 rw [h.cell (by simp)]
 simp
theorem box_b (w : World) (u v : Value) (o o' : TypeId) (C : Obj) : (((w.alloc (.cells #[u] o)).alloc (.cells #[v] o')).alloc C).cell? ⟨w.heap.size + 1, 0, none⟩ = some v := by
 have h : Below (w.heap.size + 1 + 1) ((w.alloc (.cells #[u] o)).alloc (.cells #[v] o')) (((w.alloc (.cells #[u] o)).alloc (.cells #[v] o')).alloc C) := (Below.refl _ _).alloc (by simp) _
 rw [h.cell (by simp)]
 have e : w.heap.size + 1 = (w.alloc (.cells #[u] o)).heap.size := by simp
 rw [e]
 generalize w.alloc (.cells #[u] o) = W
 simp

set_option maxRecDepth 100000 in
set_option maxHeartbeats 1000000 in
theorem fix_multiplied (a b : Int) (up : Bool) (w : World) :
  Calls Tryz.prog 103 #[.int .i64 a, .int .i64 b, .bool up] w fun e w' => e = .returned (.tuple #[.int .i64 (mul up a b).1, .int .i64 (mul up a b).2]) ∧ Below w.heap.size w w' := by
 by_cases h : ok a ∧ ok b
 ·obtain ⟨ha, hb⟩ := h
  have Hc := Lib.hid (chk2_ok ha hb)
  have Hr := Lib.hid (mul_ok up ha hb)
  have HS := Lib.hid (fun (W : World) (B0 B1 : Nat) l0 l1 c0 c1 => fix_signed_mul (decide (a < 0) != decide (b < 0)) up (.pointer (some ⟨B0, 0, none⟩)) (.pointer (some ⟨B1, 0, none⟩)) _ (quo_lt _ _ _) W (fix_mul1 a b ha hb _ W B0 B1 l0 l1 c0 c1))
  clear ha hb
  go_enter Tryz.func103, Tryz.ntmps103
  go_wp2_with (first | (go_at_call 112; refine (fix_all2_box _ _ _).mono ?_; rintro e w' ⟨rfl, rfl⟩; rw [Hc.out]) | (go_at_call 113; refine (HS.out _ _ _ (by simp; omega) (by simp) (box_a _ _ _ _ _ _) (box_b _ _ _ _ _ _)).mono ?_; rintro e w' ⟨rfl, hbel⟩))
  go_ret2
  exact ⟨ret2 (by rw [Hr.out]), below_step ((((Below.refl _ _).alloc (Nat.le_refl _) _).alloc (by simp) _).alloc (by simp; omega) _) hbel⟩
 ·have Hc := Lib.hid (chk2_bad h)
  have Hr := Lib.hid (mul_bad up h)
  clear h
  go_enter Tryz.func103, Tryz.ntmps103
  go_wp2_with (go_at_call 112; refine (fix_all2_box _ _ _).mono ?_; rintro e w' ⟨rfl, rfl⟩; rw [Hc.out])
  go_ret2
  exact ⟨ret2 Hr.out, (((Below.refl _ _).alloc (Nat.le_refl _) _).alloc (by simp) _).alloc (by simp; omega) _⟩

set_option maxRecDepth 100000 in
set_option maxHeartbeats 1000000 in
theorem fix_divided (a b : Int) (up : Bool) (w : World) :
  Calls Tryz.prog 98 #[.int .i64 a, .int .i64 b, .bool up] w fun e w' => e = .returned (.tuple #[.int .i64 (dvd up a b).1, .int .i64 (dvd up a b).2]) ∧ Below w.heap.size w w' := by
 by_cases h : ok a ∧ ok b
 ·obtain ⟨ha, hb⟩ := h
  have Hc := Lib.hid (chk2_ok ha hb)
  by_cases hz : b = 0
  ·have Hr := Lib.hid (dvd_zero up ha hb hz)
   subst hz
   clear ha hb
   go_enter Tryz.func98, Tryz.ntmps98
   go_wp2_with (go_at_call 112; refine (fix_all2_box _ _ _).mono ?_; rintro e w' ⟨rfl, rfl⟩; rw [Hc.out])
   go_ret2
   exact ⟨ret2 Hr.out, (((Below.refl _ _).alloc (Nat.le_refl _) _).alloc (by simp) _).alloc (by simp; omega) _⟩
  ·have Hr := Lib.hid (dvd_ok up ha hb hz)
   have hz : decide (b = 0) = false := by simp; omega
   have HS := Lib.hid (fun (W : World) (B0 B1 : Nat) l0 l1 c0 c1 => fix_signed_div (decide (a < 0) != decide (b < 0)) up (.pointer (some ⟨B0, 0, none⟩)) (.pointer (some ⟨B1, 0, none⟩)) _ (quo_lt _ _ _) W (fix_div1 a b ha hb _ W B0 B1 l0 l1 c0 c1))
   clear ha hb
   go_enter Tryz.func98, Tryz.ntmps98
   go_wp2_with (first | (go_at_call 112; refine (fix_all2_box _ _ _).mono ?_; rintro e w' ⟨rfl, rfl⟩; rw [Hc.out]) | (go_at_call 113; refine (HS.out _ _ _ (by simp; omega) (by simp) (box_a _ _ _ _ _ _) (box_b _ _ _ _ _ _)).mono ?_; rintro e w' ⟨rfl, hbel⟩))
   go_ret2
   exact ⟨ret2 (by rw [Hr.out]), below_step ((((Below.refl _ _).alloc (Nat.le_refl _) _).alloc (by simp) _).alloc (by simp; omega) _) hbel⟩
 ·have Hc := Lib.hid (chk2_bad h)
  have Hr := Lib.hid (dvd_bad up h)
  clear h
  go_enter Tryz.func98, Tryz.ntmps98
  go_wp2_with (go_at_call 112; refine (fix_all2_box _ _ _).mono ?_; rintro e w' ⟨rfl, rfl⟩; rw [Hc.out])
  go_ret2
  exact ⟨ret2 Hr.out, (((Below.refl _ _).alloc (Nat.le_refl _) _).alloc (by simp) _).alloc (by simp; omega) _⟩

theorem fix_MulDown (a b : Int) (w : World) :
  Calls Tryz.prog 85 #[.int .i64 a, .int .i64 b] w fun e w' => e = .returned (.tuple #[.int .i64 (mul false a b).1, .int .i64 (mul false a b).2]) ∧ Below w.heap.size w w' := by
 have H := Lib.hid (fun W => fix_multiplied a b false W)
 go_enter Tryz.func85, Tryz.ntmps85
 go_wp2_with (go_at_call 103; refine (H.out _).mono ?_; rintro e w' ⟨rfl, hbel⟩)
 go_ret2
 exact ⟨rfl, hbel⟩

theorem fix_MulUp (a b : Int) (w : World) :
  Calls Tryz.prog 86 #[.int .i64 a, .int .i64 b] w fun e w' => e = .returned (.tuple #[.int .i64 (mul true a b).1, .int .i64 (mul true a b).2]) ∧ Below w.heap.size w w' := by
 have H := Lib.hid (fun W => fix_multiplied a b true W)
 go_enter Tryz.func86, Tryz.ntmps86
 go_wp2_with (go_at_call 103; refine (H.out _).mono ?_; rintro e w' ⟨rfl, hbel⟩)
 go_ret2
 exact ⟨rfl, hbel⟩

theorem fix_DivDown (a b : Int) (w : World) :
  Calls Tryz.prog 78 #[.int .i64 a, .int .i64 b] w fun e w' => e = .returned (.tuple #[.int .i64 (dvd false a b).1, .int .i64 (dvd false a b).2]) ∧ Below w.heap.size w w' := by
 have H := Lib.hid (fun W => fix_divided a b false W)
 go_enter Tryz.func78, Tryz.ntmps78
 go_wp2_with (go_at_call 98; refine (H.out _).mono ?_; rintro e w' ⟨rfl, hbel⟩)
 go_ret2
 exact ⟨rfl, hbel⟩

theorem fix_DivUp (a b : Int) (w : World) :
  Calls Tryz.prog 79 #[.int .i64 a, .int .i64 b] w fun e w' => e = .returned (.tuple #[.int .i64 (dvd true a b).1, .int .i64 (dvd true a b).2]) ∧ Below w.heap.size w w' := by
 have H := Lib.hid (fun W => fix_divided a b true W)
 go_enter Tryz.func79, Tryz.ntmps79
 go_wp2_with (go_at_call 98; refine (H.out _).mono ?_; rintro e w' ⟨rfl, hbel⟩)
 go_ret2
 exact ⟨rfl, hbel⟩

end Go.Proofs.YthhkcfpljgdnhaaGreat

/- Contracts: wide.atMost, fix.root and its closure, SqrtDown, SqrtUp. -/
namespace Go.Proofs.YthhkcfpljgdnhaaGreat
open Go.RowKit Mnc

end Go.Proofs.YthhkcfpljgdnhaaGreat

/- Contract: fix.FromDec. -/
namespace Go.Proofs.YthhkcfpljgdnhaaGreat
open Go.RowKit Mnc

structure DecMem (w wr : World) (a : Int) (k : Nat) (x y : Int) : Prop where
 bel : Below w.heap.size w wr
 b0 : wr.heap[w.heap.size]? = some (.cells #[.int .i64 a] 3 (0, 0))
 b1 : wr.heap[w.heap.size + 1]? = some (.cells #[.int .i64 (k : Int)] 3 (0, 0))
 b2 : wr.heap[w.heap.size + 1 + 1]? = some (.cells #[.int .i64 x, .int .i64 y] 50 (0, 0))

theorem DecMem.start (w : World) (a : Int) (k : Nat) : DecMem w (((w.alloc (.cells #[.int .i64 a] 3)).alloc (.cells #[.int .i64 (k : Int)] 3)).alloc (.cells #[.int .i64 0, .int .i64 0] 50)) a k 0 0 where
 bel := (((Below.refl _ _).alloc (Nat.le_refl _) _).alloc (by simp) _).alloc (by simp; omega) _
 b0 := by
  rw [Below.heap_alloc _ _ _ (by simp; omega), Below.heap_alloc _ _ _ (by simp)]
  exact heap_alloc_new w _
 b1 := by
  rw [Below.heap_alloc _ _ _ (by simp)]
  have h := heap_alloc_new (w.alloc (.cells #[.int .i64 a] 3)) (.cells #[.int .i64 (k : Int)] 3)
  rw [show (w.alloc (.cells #[.int .i64 a] 3)).heap.size = w.heap.size + 1 by simp] at h
  exact h
 b2 := by
  have h := heap_alloc_new ((w.alloc (.cells #[.int .i64 a] 3)).alloc (.cells #[.int .i64 (k : Int)] 3)) (.cells #[.int .i64 0, .int .i64 0] 50)
  rw [show ((w.alloc (.cells #[.int .i64 a] 3)).alloc (.cells #[.int .i64 (k : Int)] 3)).heap.size = w.heap.size + 1 + 1 by simp] at h
  exact h

theorem DecMem.set0 {w wr w' : World} {a : Int} {k : Nat} {x y : Int} (h : DecMem w wr a k x y) (hb : Below wr.heap.size wr w') (z : Int) : DecMem w (w'.setCell ⟨w.heap.size + 1 + 1, 0, none⟩ (.int .i64 z)) a k z y where
 bel := (below_step h.bel hb).setCell (by simp; omega) _
 b0 := by rw [heap_setCell_other _ _ _ _ (by simp; omega), hb.block _ (lt_of_block h.b0)]; exact h.b0
 b1 := by rw [heap_setCell_other _ _ _ _ (by simp), hb.block _ (lt_of_block h.b1)]; exact h.b1
 b2 := by rw [heap_setCell_same _ _ _ _ _ _ ((hb.block _ (lt_of_block h.b2)).trans h.b2)]; rfl

theorem DecMem.set1 {w wr w' : World} {a : Int} {k : Nat} {x y : Int} (h : DecMem w wr a k x y) (hb : Below wr.heap.size wr w') (z : Int) : DecMem w (w'.setCell ⟨w.heap.size + 1 + 1, 1, none⟩ (.int .i64 z)) a k x z where
 bel := (below_step h.bel hb).setCell (by simp; omega) _
 b0 := by rw [heap_setCell_other _ _ _ _ (by simp; omega), hb.block _ (lt_of_block h.b0)]; exact h.b0
 b1 := by rw [heap_setCell_other _ _ _ _ (by simp), hb.block _ (lt_of_block h.b1)]; exact h.b1
 b2 := by rw [heap_setCell_same _ _ _ _ _ _ ((hb.block _ (lt_of_block h.b2)).trans h.b2)]; rfl

theorem cell_two0 {w : World} {b : Nat} {u v : Value} {t : TypeId} (h : w.heap[b]? = some (.cells #[u, v] t (0, 0))) : w.cell? ⟨b, 0, none⟩ = some u := by simp [World.cell?, h]
theorem cell_two1 {w : World} {b : Nat} {u v : Value} {t : TypeId} (h : w.heap[b]? = some (.cells #[u, v] t (0, 0))) : w.cell? ⟨b, 1, none⟩ = some v := by simp [World.cell?, h]
theorem free_two {w : World} {b i : Nat} {u v : Value} {t : TypeId} (h : w.heap[b]? = some (.cells #[u, v] t (0, 0))) : w.frozen? ⟨b, i, none⟩ = false := by simp [World.frozen?, h]

end Go.Proofs.YthhkcfpljgdnhaaGreat
