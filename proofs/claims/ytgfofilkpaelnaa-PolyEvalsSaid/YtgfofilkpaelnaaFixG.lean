/- Contracts: multiplied, divided, scaled and the exported functions over them. Printed by wip/genG.py. -/
import Derived.Test.YtgfofilkpaelnaaFixF
import Derived.BigGuardPart
namespace Go.Proofs.Ytgfofilkpaelnaa
open Go.RowKit Mnc

theorem fix_all2_box (a b : Int) (w : World) :
    Calls Try.prog 190 #[.slice (some ⟨w.heap.size + 1 + 1, 0, none⟩) 2 2] (((w.alloc (.cells #[.int .i64 a] 3)).alloc (.cells #[.int .i64 b] 3)).alloc (.cells #[.int .i64 a, .int .i64 b] 3)) fun e w' => e = .returned (.int .i64 (chk2 a b)) ∧ ((w.alloc (.cells #[.int .i64 a] 3)).alloc (.cells #[.int .i64 b] 3)).alloc (.cells #[.int .i64 a, .int .i64 b] 3) = w' := by
  have h := fix_all2_new a b ((w.alloc (.cells #[.int .i64 a] 3)).alloc (.cells #[.int .i64 b] 3))
  rw [show ((w.alloc (.cells #[.int .i64 a] 3)).alloc (.cells #[.int .i64 b] 3)).heap.size = w.heap.size + 1 + 1 by simp] at h
  exact h

theorem box_a (w : World) (u v : Value) (o o' : TypeId) (C : Obj) : (((w.alloc (.cells #[u] o)).alloc (.cells #[v] o')).alloc C).cell? ⟨w.heap.size, 0, none⟩ = some u := by
  have h : Below (w.heap.size + 1) (w.alloc (.cells #[u] o)) (((w.alloc (.cells #[u] o)).alloc (.cells #[v] o')).alloc C) := ((Below.refl _ _).alloc (by simp) _).alloc (by simp) _
  rw [h.cell (by simp)]
  simp
theorem box_b (w : World) (u v : Value) (o o' : TypeId) (C : Obj) : (((w.alloc (.cells #[u] o)).alloc (.cells #[v] o')).alloc C).cell? ⟨w.heap.size + 1, 0, none⟩ = some v := by
  have h : Below (w.heap.size + 1 + 1) ((w.alloc (.cells #[u] o)).alloc (.cells #[v] o')) (((w.alloc (.cells #[u] o)).alloc (.cells #[v] o')).alloc C) := (Below.refl _ _).alloc (by simp) _
  rw [h.cell (by simp)]
  have e : w.heap.size + 1 = (w.alloc (.cells #[u] o)).heap.size := by simp
  rw [e]
  generalize w.alloc (.cells #[u] o) = W
  simp

set_option maxRecDepth 100000 in
set_option maxHeartbeats 1000000 in
theorem fix_multiplied (a b : Int) (up : Bool) (w : World) :
    Calls Try.prog 171 #[.int .i64 a, .int .i64 b, .bool up] w fun e w' => e = .returned (.tuple #[.int .i64 (mul up a b).1, .int .i64 (mul up a b).2]) ∧ Below w.heap.size w w' := by
  by_cases h : ok a ∧ ok b
  · obtain ⟨ha, hb⟩ := h
    have Hc := Lib.hid (chk2_ok ha hb)
    have Hr := Lib.hid (mul_ok up ha hb)
    have HS := Lib.hid (fun (W : World) (B0 B1 : Nat) l0 l1 c0 c1 => fix_signed_mul (decide (a < 0) != decide (b < 0)) up (.pointer (some ⟨B0, 0, none⟩)) (.pointer (some ⟨B1, 0, none⟩)) _ (quo_lt _ _ _) W (fix_mul1 a b ha hb _ W B0 B1 l0 l1 c0 c1))
    clear ha hb
    go_enter Try.func171, Try.ntmps171
    go_wp2_with (first | (go_at_call 190; refine (fix_all2_box _ _ _).mono ?_; rintro e w' ⟨rfl, rfl⟩; rw [Hc.out]) | (go_at_call 191; refine (HS.out _ _ _ (by simp; omega) (by simp) (box_a _ _ _ _ _ _) (box_b _ _ _ _ _ _)).mono ?_; rintro e w' ⟨rfl, hbel⟩))
    go_ret2
    exact ⟨ret2 (by rw [Hr.out]), below_step ((((Below.refl _ _).alloc (Nat.le_refl _) _).alloc (by simp) _).alloc (by simp; omega) _) hbel⟩
  · have Hc := Lib.hid (chk2_bad h)
    have Hr := Lib.hid (mul_bad up h)
    clear h
    go_enter Try.func171, Try.ntmps171
    go_wp2_with (go_at_call 190; refine (fix_all2_box _ _ _).mono ?_; rintro e w' ⟨rfl, rfl⟩; rw [Hc.out])
    go_ret2
    exact ⟨ret2 Hr.out, (((Below.refl _ _).alloc (Nat.le_refl _) _).alloc (by simp) _).alloc (by simp; omega) _⟩

set_option maxRecDepth 100000 in
set_option maxHeartbeats 1000000 in
theorem fix_divided (a b : Int) (up : Bool) (w : World) :
    Calls Try.prog 187 #[.int .i64 a, .int .i64 b, .bool up] w fun e w' => e = .returned (.tuple #[.int .i64 (dvd up a b).1, .int .i64 (dvd up a b).2]) ∧ Below w.heap.size w w' := by
  by_cases h : ok a ∧ ok b
  · obtain ⟨ha, hb⟩ := h
    have Hc := Lib.hid (chk2_ok ha hb)
    by_cases hz : b = 0
    · have Hr := Lib.hid (dvd_zero up ha hb hz)
      subst hz
      clear ha hb
      go_enter Try.func187, Try.ntmps187
      go_wp2_with (go_at_call 190; refine (fix_all2_box _ _ _).mono ?_; rintro e w' ⟨rfl, rfl⟩; rw [Hc.out])
      go_ret2
      exact ⟨ret2 Hr.out, (((Below.refl _ _).alloc (Nat.le_refl _) _).alloc (by simp) _).alloc (by simp; omega) _⟩
    · have Hr := Lib.hid (dvd_ok up ha hb hz)
      have hz : decide (b = 0) = false := by simp; omega
      have HS := Lib.hid (fun (W : World) (B0 B1 : Nat) l0 l1 c0 c1 => fix_signed_div (decide (a < 0) != decide (b < 0)) up (.pointer (some ⟨B0, 0, none⟩)) (.pointer (some ⟨B1, 0, none⟩)) _ (quo_lt _ _ _) W (fix_div1 a b ha hb _ W B0 B1 l0 l1 c0 c1))
      clear ha hb
      go_enter Try.func187, Try.ntmps187
      go_wp2_with (first | (go_at_call 190; refine (fix_all2_box _ _ _).mono ?_; rintro e w' ⟨rfl, rfl⟩; rw [Hc.out]) | (go_at_call 191; refine (HS.out _ _ _ (by simp; omega) (by simp) (box_a _ _ _ _ _ _) (box_b _ _ _ _ _ _)).mono ?_; rintro e w' ⟨rfl, hbel⟩))
      go_ret2
      exact ⟨ret2 (by rw [Hr.out]), below_step ((((Below.refl _ _).alloc (Nat.le_refl _) _).alloc (by simp) _).alloc (by simp; omega) _) hbel⟩
  · have Hc := Lib.hid (chk2_bad h)
    have Hr := Lib.hid (dvd_bad up h)
    clear h
    go_enter Try.func187, Try.ntmps187
    go_wp2_with (go_at_call 190; refine (fix_all2_box _ _ _).mono ?_; rintro e w' ⟨rfl, rfl⟩; rw [Hc.out])
    go_ret2
    exact ⟨ret2 Hr.out, (((Below.refl _ _).alloc (Nat.le_refl _) _).alloc (by simp) _).alloc (by simp; omega) _⟩

theorem fix_MulDown (a b : Int) (w : World) :
    Calls Try.prog 111 #[.int .i64 a, .int .i64 b] w fun e w' => e = .returned (.tuple #[.int .i64 (mul false a b).1, .int .i64 (mul false a b).2]) ∧ Below w.heap.size w w' := by
  have H := Lib.hid (fun W => fix_multiplied a b false W)
  go_enter Try.func111, Try.ntmps111
  go_wp2_with (go_at_call 171; refine (H.out _).mono ?_; rintro e w' ⟨rfl, hbel⟩)
  go_ret2
  exact ⟨rfl, hbel⟩

theorem fix_MulUp (a b : Int) (w : World) :
    Calls Try.prog 112 #[.int .i64 a, .int .i64 b] w fun e w' => e = .returned (.tuple #[.int .i64 (mul true a b).1, .int .i64 (mul true a b).2]) ∧ Below w.heap.size w w' := by
  have H := Lib.hid (fun W => fix_multiplied a b true W)
  go_enter Try.func112, Try.ntmps112
  go_wp2_with (go_at_call 171; refine (H.out _).mono ?_; rintro e w' ⟨rfl, hbel⟩)
  go_ret2
  exact ⟨rfl, hbel⟩

theorem fix_DivDown (a b : Int) (w : World) :
    Calls Try.prog 163 #[.int .i64 a, .int .i64 b] w fun e w' => e = .returned (.tuple #[.int .i64 (dvd false a b).1, .int .i64 (dvd false a b).2]) ∧ Below w.heap.size w w' := by
  have H := Lib.hid (fun W => fix_divided a b false W)
  go_enter Try.func163, Try.ntmps163
  go_wp2_with (go_at_call 187; refine (H.out _).mono ?_; rintro e w' ⟨rfl, hbel⟩)
  go_ret2
  exact ⟨rfl, hbel⟩

theorem fix_DivUp (a b : Int) (w : World) :
    Calls Try.prog 164 #[.int .i64 a, .int .i64 b] w fun e w' => e = .returned (.tuple #[.int .i64 (dvd true a b).1, .int .i64 (dvd true a b).2]) ∧ Below w.heap.size w w' := by
  have H := Lib.hid (fun W => fix_divided a b true W)
  go_enter Try.func164, Try.ntmps164
  go_wp2_with (go_at_call 187; refine (H.out _).mono ?_; rintro e w' ⟨rfl, hbel⟩)
  go_ret2
  exact ⟨rfl, hbel⟩

theorem box_c (w : World) (u v x : Value) (o o' o'' : TypeId) : (((w.alloc (.cells #[u] o)).alloc (.cells #[v] o')).alloc (.cells #[x] o'')).cell? ⟨w.heap.size + 1 + 1, 0, none⟩ = some x := by
  have e : w.heap.size + 1 + 1 = ((w.alloc (.cells #[u] o)).alloc (.cells #[v] o')).heap.size := by simp
  rw [e]
  generalize (w.alloc (.cells #[u] o)).alloc (.cells #[v] o') = W
  simp

set_option maxRecDepth 100000 in
set_option maxHeartbeats 1000000 in
theorem fix_scaled (a n d : Int) (up : Bool) (w : World) :
    Calls Try.prog 182 #[.int .i64 a, .int .i64 n, .int .i64 d, .bool up] w fun e w' => e = .returned (.tuple #[.int .i64 (scl up a n d).1, .int .i64 (scl up a n d).2]) ∧ Below w.heap.size w w' := by
  by_cases ha : ok a
  · have Hc := Lib.hid (chk_ok ha)
    by_cases h1 : n < -4611686018427387904
    · have Hr := Lib.hid (scl_bad up (a := a) (n := n) (d := d) (by unfold sclOk; omega))
      clear ha
      have b1 : decide (n < -4611686018427387904) = true := by simp; omega
      clear h1
      go_enter Try.func182, Try.ntmps182
      go_wp2_with (go_at_call 196; refine (fix_Check _ _).mono ?_; rintro e w' ⟨rfl, rfl⟩; rw [Hc.out])
      go_ret2
      exact ⟨ret2 Hr.out, (((Below.refl _ _).alloc (Nat.le_refl _) _).alloc (by simp) _).alloc (by simp; omega) _⟩
    · have b1 : decide (n < -4611686018427387904) = false := by simp; omega
      by_cases h2 : 4611686018427387904 < n
      · have Hr := Lib.hid (scl_bad up (a := a) (n := n) (d := d) (by unfold sclOk; omega))
        have b2 : decide (4611686018427387904 < n) = true := by simp; omega
        clear ha h1 h2
        go_enter Try.func182, Try.ntmps182
        go_wp2_with (go_at_call 196; refine (fix_Check _ _).mono ?_; rintro e w' ⟨rfl, rfl⟩; rw [Hc.out])
        go_ret2
        exact ⟨ret2 Hr.out, (((Below.refl _ _).alloc (Nat.le_refl _) _).alloc (by simp) _).alloc (by simp; omega) _⟩
      · have b2 : decide (4611686018427387904 < n) = false := by simp; omega
        by_cases h3 : d < 1
        · have Hr := Lib.hid (scl_bad up (a := a) (n := n) (d := d) (by unfold sclOk; omega))
          have b3 : decide (d < 1) = true := by simp; omega
          clear ha h1 h2 h3
          go_enter Try.func182, Try.ntmps182
          go_wp2_with (go_at_call 196; refine (fix_Check _ _).mono ?_; rintro e w' ⟨rfl, rfl⟩; rw [Hc.out])
          go_ret2
          exact ⟨ret2 Hr.out, (((Below.refl _ _).alloc (Nat.le_refl _) _).alloc (by simp) _).alloc (by simp; omega) _⟩
        · have b3 : decide (d < 1) = false := by simp; omega
          by_cases h4 : 4611686018427387904 < d
          · have Hr := Lib.hid (scl_bad up (a := a) (n := n) (d := d) (by unfold sclOk; omega))
            have b4 : decide (4611686018427387904 < d) = true := by simp; omega
            clear ha h1 h2 h3 h4
            go_enter Try.func182, Try.ntmps182
            go_wp2_with (go_at_call 196; refine (fix_Check _ _).mono ?_; rintro e w' ⟨rfl, rfl⟩; rw [Hc.out])
            go_ret2
            exact ⟨ret2 Hr.out, (((Below.refl _ _).alloc (Nat.le_refl _) _).alloc (by simp) _).alloc (by simp; omega) _⟩
          · have b4 : decide (4611686018427387904 < d) = false := by simp; omega
            obtain ⟨D, rfl⟩ : ∃ D : Nat, d = D := ⟨d.toNat, by omega⟩
            have Hr := Lib.hid (scl_ok up (a := a) (n := n) (d := (D : Int)) (by unfold sclOk; exact ⟨ha, by omega, by omega, by omega, by omega⟩))
            rw [Int.toNat_natCast] at Hr
            have HS := Lib.hid (fun (W : World) (B0 B1 B2 : Nat) l0 l1 l2 c0 c1 c2 => fix_signed_scl (decide (a < 0) != decide (n < 0)) up (.pointer (some ⟨B0, 0, none⟩)) (.pointer (some ⟨B1, 0, none⟩)) (.pointer (some ⟨B2, 0, none⟩)) _ (quo_lt _ _ _) W (fix_scl1 a n D ha (by omega) (by omega) _ W B0 B1 B2 l0 l1 l2 c0 c1 c2))
            clear ha h1 h2 h3 h4
            go_enter Try.func182, Try.ntmps182
            go_wp2_with (first | (go_at_call 196; refine (fix_Check _ _).mono ?_; rintro e w' ⟨rfl, rfl⟩; rw [Hc.out]) | (go_at_call 191; refine (HS.out _ _ _ _ (by simp; omega) (by simp) (by simp) (box_a _ _ _ _ _ _) (box_b _ _ _ _ _ _) (box_c _ _ _ _ _ _ _)).mono ?_; rintro e w' ⟨rfl, hbel⟩))
            go_ret2
            exact ⟨ret2 (by rw [Hr.out]), below_step ((((Below.refl _ _).alloc (Nat.le_refl _) _).alloc (by simp) _).alloc (by simp; omega) _) hbel⟩
  · have Hc := Lib.hid (chk_bad ha)
    have Hr := Lib.hid (scl_bad up (a := a) (n := n) (d := d) (by unfold sclOk; exact fun h => ha h.1))
    clear ha
    go_enter Try.func182, Try.ntmps182
    go_wp2_with (go_at_call 196; refine (fix_Check _ _).mono ?_; rintro e w' ⟨rfl, rfl⟩; rw [Hc.out])
    go_ret2
    exact ⟨ret2 Hr.out, (((Below.refl _ _).alloc (Nat.le_refl _) _).alloc (by simp) _).alloc (by simp; omega) _⟩

theorem fix_ScaleDown (a n d : Int) (w : World) :
    Calls Try.prog 155 #[.int .i64 a, .int .i64 n, .int .i64 d] w fun e w' => e = .returned (.tuple #[.int .i64 (scl false a n d).1, .int .i64 (scl false a n d).2]) ∧ Below w.heap.size w w' := by
  have H := Lib.hid (fun W => fix_scaled a n d false W)
  go_enter Try.func155, Try.ntmps155
  go_wp2_with (go_at_call 182; refine (H.out _).mono ?_; rintro e w' ⟨rfl, hbel⟩)
  go_ret2
  exact ⟨rfl, hbel⟩

theorem fix_ScaleUp (a n d : Int) (w : World) :
    Calls Try.prog 156 #[.int .i64 a, .int .i64 n, .int .i64 d] w fun e w' => e = .returned (.tuple #[.int .i64 (scl true a n d).1, .int .i64 (scl true a n d).2]) ∧ Below w.heap.size w w' := by
  have H := Lib.hid (fun W => fix_scaled a n d true W)
  go_enter Try.func156, Try.ntmps156
  go_wp2_with (go_at_call 182; refine (H.out _).mono ?_; rintro e w' ⟨rfl, hbel⟩)
  go_ret2
  exact ⟨rfl, hbel⟩

end Go.Proofs.Ytgfofilkpaelnaa
