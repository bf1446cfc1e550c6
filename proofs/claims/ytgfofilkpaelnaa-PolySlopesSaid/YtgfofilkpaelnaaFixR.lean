/- Contracts: wide.atMost, fix.root and its closure, SqrtDown, SqrtUp. -/
import Derived.Test.YtgfofilkpaelnaaFixG
import Derived.Test.YtgfofilkpaelnaaFixLaw
namespace Go.Proofs.Ytgfofilkpaelnaa
open Go.RowKit Mnc

set_option maxRecDepth 100000 in
set_option maxHeartbeats 1000000 in
theorem fix_atMost0 (a b c d : Int) (w : World) :
    Calls Try.prog 206 #[.agg #[.int .u64 a, .int .u64 b], .agg #[.int .u64 c, .int .u64 d]] w fun e w' => e = .returned (.bool (decide (a < c ∨ a = c ∧ b ≤ d))) ∧ Below w.heap.size w w' := by
  by_cases h1 : a < c
  · rw [show decide (a < c ∨ a = c ∧ b ≤ d) = true by simp; omega]
    · go_enter Try.func206, Try.ntmps206
      go_wp2
      go_ret
      exact ⟨rfl, ((Below.refl _ _).alloc (Nat.le_refl _) _).alloc (by simp) _⟩
  · by_cases h2 : a = c
    · subst h2
      by_cases h3 : b ≤ d
      · rw [show decide (a < a ∨ a = a ∧ b ≤ d) = true by simp; omega]
        go_enter Try.func206, Try.ntmps206
        go_wp2
        go_ret
        exact ⟨rfl, ((Below.refl _ _).alloc (Nat.le_refl _) _).alloc (by simp) _⟩
      · rw [show decide (a < a ∨ a = a ∧ b ≤ d) = false by simp; omega]
        go_enter Try.func206, Try.ntmps206
        go_wp2
        go_ret
        exact ⟨rfl, ((Below.refl _ _).alloc (Nat.le_refl _) _).alloc (by simp) _⟩
    · rw [show decide (a < c ∨ a = c ∧ b ≤ d) = false by simp; omega]
      go_enter Try.func206, Try.ntmps206
      go_wp2
      go_ret
      exact ⟨rfl, ((Below.refl _ _).alloc (Nat.le_refl _) _).alloc (by simp) _⟩

theorem fix_atMost (n m : Nat) (w : World) :
    Calls Try.prog 206 #[.agg #[.int .u64 ((n / 18446744073709551616 : Nat) : Int), .int .u64 ((n % 18446744073709551616 : Nat) : Int)], .agg #[.int .u64 ((m / 18446744073709551616 : Nat) : Int), .int .u64 ((m % 18446744073709551616 : Nat) : Int)]] w fun e w' => e = .returned (.bool (decide (n ≤ m))) ∧ Below w.heap.size w w' := by
  have h := fix_atMost0 (n / 18446744073709551616 : Nat) (n % 18446744073709551616 : Nat) (m / 18446744073709551616 : Nat) (m % 18446744073709551616 : Nat) w
  rw [show decide (((n / 18446744073709551616 : Nat) : Int) < (m / 18446744073709551616 : Nat) ∨ ((n / 18446744073709551616 : Nat) : Int) = (m / 18446744073709551616 : Nat) ∧ ((n % 18446744073709551616 : Nat) : Int) ≤ (m % 18446744073709551616 : Nat)) = decide (n ≤ m) by apply decide_eq_decide.mpr; omega] at h
  exact h

theorem sq_bits {n k R : Nat} (hk : k < 43) (h : SqAt n k R) : bits .or .u64 (R : Int) (IntKind.u64.wrap (2 ^ (42 - k))) = ((R + 2 ^ (42 - k) : Nat) : Int) := by
  have hl := sqAt_lt hk h
  have e : IntKind.u64.wrap (2 ^ (42 - k)) = ((2 ^ (42 - k) : Nat) : Int) := by
    have h2 : ((2 : Int) ^ (42 - k)) = ((2 ^ (42 - k) : Nat) : Int) := by simp
    rw [h2]
    exact M64.wrapN _ (Nat.lt_of_le_of_lt (Nat.le_add_left _ _) hl)
  rw [e, ← sqAt_or hk h]
  exact bits_or_u64_nat R (2 ^ (42 - k)) (Nat.lt_of_le_of_lt (Nat.le_add_right _ _) hl) (Nat.lt_of_le_of_lt (Nat.le_add_left _ _) hl)

theorem below_stepB {w W W' : World} {B : Nat} (h : Below B w W) (hB : B ≤ W.heap.size) (k : Below W.heap.size W W') : Below B w W' := h.trans (k.mono hB)

set_option maxRecDepth 100000 in
set_option maxHeartbeats 4000000 in
theorem fix_rt1 (n : Nat) (hn : n < 2 ^ 86) (away : Bool) (w : World) (B0 : Nat) (l0 : B0 < w.heap.size) (c0 : w.cell? ⟨B0, 0, none⟩ = some (.int .u64 ((n / 18446744073709551616 : Nat) : Int))) (c1 : w.cell? ⟨B0, 1, none⟩ = some (.int .u64 ((n % 18446744073709551616 : Nat) : Int))) :
    Calls Try.prog 205 #[.bool away, .pointer (some ⟨B0, 0, none⟩)] w fun e w' => e = .returned (.tuple #[.int .u64 (rtOf away n : Nat), .bool true]) ∧ Below w.heap.size w w' := by
  obtain ⟨nh, hnh⟩ : ∃ nh, nh = n / 18446744073709551616 := ⟨_, rfl⟩
  obtain ⟨nl, hnl⟩ : ∃ nl, nl = n % 18446744073709551616 := ⟨_, rfl⟩
  rw [← hnh] at c0
  rw [← hnl] at c1
  have Hnh := Lib.hid hnh
  have Hnl := Lib.hid hnl
  have Hn := Lib.hid hn
  clear hnh hnl hn
  obtain ⟨RR, hRR⟩ : ∃ RR, RR = rtOf away n := ⟨_, rfl⟩
  rw [← hRR]
  have HRR := Lib.hid hRR
  clear hRR
  go_enter Try.func205, Try.ntmps205
  go_wp2_with fail
  go_loopw [5, 8] (fun r i wr => ∃ k R : Nat, k ≤ 43 ∧ i = .int .i64 k ∧ r = .int .u64 R ∧ Hid (SqAt n k R) ∧ Below w.heap.size w wr) (fun _ i _ => 43 - (intOf i).toNat)
  case atStart => exact ⟨0, 0, by omega, rfl, rfl, Lib.hid (sqAt_start Hn.out), Below.refl _ _⟩
  case round =>
    obtain ⟨k, R, hk, rfl, rfl, HS, hbw⟩ := hrel
    rcases Nat.lt_or_ge k 43 with hk' | hk'
    · have hb0 : decide ((k : Int) < 43) = true := by simp; omega
      obtain ⟨X, hX⟩ : ∃ X, X = R + 2 ^ (42 - k) := ⟨_, rfl⟩
      have HX := Lib.hid hX
      have HB := Lib.hid (sq_bits hk' HS.out)
      rw [← hX] at HB
      clear hX
      have l0' : B0 < wr.heap.size := Nat.lt_of_lt_of_le l0 hbw.size
      have c0' := (hbw.cell (p := ⟨B0, 0, none⟩) l0).trans c0
      have c1' := (hbw.cell (p := ⟨B0, 1, none⟩) l0).trans c1
      have HP := Lib.hid (fun W => fix_product X X (by rw [HX.out]; exact sqAt_lt hk' HS.out) (by rw [HX.out]; exact sqAt_lt hk' HS.out) W)
      have HA := Lib.hid (fun W => fix_atMost (X * X) n W)
      rw [← Hnh.out, ← Hnl.out] at HA
      have HN1 : Hid (∀ h : X * X ≤ n, SqAt n (k + 1) X) := Lib.hid (fun h => by have e := HX.out; rw [e] at h ⊢; exact sqAt_take hk' HS.out h)
      have HN2 : Hid (∀ h : ¬ X * X ≤ n, SqAt n (k + 1) R) := Lib.hid (fun h => by have e := HX.out; rw [e] at h; exact sqAt_leave hk' HS.out h)
      obtain ⟨Y, hY⟩ : ∃ Y, Y = X * X := ⟨_, rfl⟩
      rw [← hY] at HP HA HN1 HN2
      clear hY
      obtain ⟨yh, hyh⟩ : ∃ yh, yh = Y / 18446744073709551616 := ⟨_, rfl⟩
      obtain ⟨yl, hyl⟩ : ∃ yl, yl = Y % 18446744073709551616 := ⟨_, rfl⟩
      rw [← hyh, ← hyl] at HP HA
      clear hyh hyl
      by_cases hle : Y ≤ n
      · have HN := Lib.hid (HN1.out hle)
        rw [decide_eq_true hle] at HA
        clear hle
        go_upto_region 6 with (fail)
        rw [HB.out]
        go_region_held3 (fun w' => w'.cell? ⟨B0, 0, none⟩ = some (.int .u64 (nh : Int)) ∧ w'.cell? ⟨B0, 1, none⟩ = some (.int .u64 (nl : Int)) ∧ Below wr.heap.size wr w')
          (first
            | exact keep2 l0' l0' c0' c1' (Below.refl _ _).drew
            | (go_split_ands; exact keep2 l0' l0' c0' c1' (by assumption))
            | (go_split_ands; exact keep2 l0' l0' c0' c1' (below_step (by assumption) hbel)))
          (first
            | (go_at_call 194; refine (HP.out _).mono ?_; rintro e w' ⟨rfl, hbel⟩)
            | (go_at_call 206; refine (HA.out _).mono ?_; rintro e w' ⟨rfl, hbel⟩))
        go_wp2
        go_roundw
        case rel => exact ⟨k + 1, X, by omega, by go_num, rfl, HN, below_step hbw (by go_split_ands; assumption)⟩
        case measure => simp [intOf]; omega
      · have HN := Lib.hid (HN2.out hle)
        rw [decide_eq_false hle] at HA
        clear hle
        go_upto_region 6 with (fail)
        rw [HB.out]
        go_region_held3 (fun w' => w'.cell? ⟨B0, 0, none⟩ = some (.int .u64 (nh : Int)) ∧ w'.cell? ⟨B0, 1, none⟩ = some (.int .u64 (nl : Int)) ∧ Below wr.heap.size wr w')
          (first
            | exact keep2 l0' l0' c0' c1' (Below.refl _ _).drew
            | (go_split_ands; exact keep2 l0' l0' c0' c1' (by assumption))
            | (go_split_ands; exact keep2 l0' l0' c0' c1' (below_step (by assumption) hbel)))
          (first
            | (go_at_call 194; refine (HP.out _).mono ?_; rintro e w' ⟨rfl, hbel⟩)
            | (go_at_call 206; refine (HA.out _).mono ?_; rintro e w' ⟨rfl, hbel⟩))
        go_wp2
        go_roundw
        case rel => exact ⟨k + 1, R, by omega, by go_num, rfl, HN, below_step hbw (by go_split_ands; assumption)⟩
        case measure => simp [intOf]; omega
    · obtain rfl : k = 43 := by omega
      have HI := Lib.hid (sqAt_end HS.out)
      have l0' : B0 < wr.heap.size := Nat.lt_of_lt_of_le l0 hbw.size
      have c0' := (hbw.cell (p := ⟨B0, 0, none⟩) l0).trans c0
      have c1' := (hbw.cell (p := ⟨B0, 1, none⟩) l0).trans c1
      cases away
      · have HE : Hid (RR = R) := Lib.hid (by rw [HRR.out, rtOf, if_neg (by simp), HI.out])
        go_upto_region 9 with (fail)
        go_quiet (fail)
        go_wp2
        go_ret2
        exact ⟨by rw [HE.out]; rfl, below_step hbw (below_drewN (Below.refl _ _) _)⟩
      · have HP := Lib.hid (fun W => fix_product R R (by have := HS.out.2.2.2; simp at this; omega) (by have := HS.out.2.2.2; simp at this; omega) W)
        have HD : Hid (R * R = n ∨ ¬ R * R = n) := Lib.hid (Nat.decEq _ _).em
        have HE1 : Hid (R * R = n → RR = R) := Lib.hid (fun h => by rw [HRR.out, rtOf, HI.out, if_neg (by simp [h])])
        have HE2 : Hid (¬ R * R = n → RR = R + 1) := Lib.hid (fun h => by rw [HRR.out, rtOf, HI.out, if_pos ⟨rfl, h⟩])
        have HR : Hid (R < 18446744073709551615) := Lib.hid (by have := HS.out.2.2.2; simp at this; omega)
        obtain ⟨Y, hY⟩ : ∃ Y, Y = R * R := ⟨_, rfl⟩
        rw [← hY] at HP HE1 HE2 HD
        clear hY
        obtain ⟨yh, hyh⟩ : ∃ yh, yh = Y / 18446744073709551616 := ⟨_, rfl⟩
        obtain ⟨yl, hyl⟩ : ∃ yl, yl = Y % 18446744073709551616 := ⟨_, rfl⟩
        rw [← hyh, ← hyl] at HP
        by_cases e1 : nh = yh
        · by_cases e2 : nl = yl
          · have HE := Lib.hid (HE1.out (by have := Hnh.out; have := Hnl.out; omega))
            subst e1 e2
            clear hyh hyl
            go_upto_region 9 with (fail)
            go_region_held3 (fun w' => w'.cell? ⟨B0, 0, none⟩ = some (.int .u64 (nh : Int)) ∧ w'.cell? ⟨B0, 1, none⟩ = some (.int .u64 (nl : Int)) ∧ Below wr.heap.size wr w')
              (first
                | exact keep2 l0' l0' c0' c1' (Below.refl _ _).drew
                | (go_split_ands; exact keep2 l0' l0' c0' c1' (by assumption))
                | (go_split_ands; exact keep2 l0' l0' c0' c1' (below_step (by assumption) hbel)))
              (first
                | (go_at_call 194; refine (HP.out _).mono ?_; rintro e w' ⟨rfl, hbel⟩))
            go_wp2
            go_ret2
            exact ⟨by rw [HE.out]; rfl, below_step hbw (by go_split_ands; assumption)⟩
          · have HE := Lib.hid (HE2.out (by have := Hnh.out; have := Hnl.out; rintro rfl; omega))
            have e3 : ¬ (yl : Int) = (nl : Int) := by omega
            have hw1 : IntKind.u64.wrap ((R : Int) + 1) = ((R + 1 : Nat) : Int) := M64.wrapN (R + 1) (by have := HR.out; omega)
            have HW := Lib.hid hw1
            subst e1
            clear hyh hyl hw1
            go_upto_region 9 with (fail)
            go_region_held3 (fun w' => w'.cell? ⟨B0, 0, none⟩ = some (.int .u64 (nh : Int)) ∧ w'.cell? ⟨B0, 1, none⟩ = some (.int .u64 (nl : Int)) ∧ Below wr.heap.size wr w')
              (first
                | exact keep2 l0' l0' c0' c1' (Below.refl _ _).drew
                | (go_split_ands; exact keep2 l0' l0' c0' c1' (by assumption))
                | (go_split_ands; exact keep2 l0' l0' c0' c1' (below_step (by assumption) hbel)))
              (first
                | (go_at_call 194; refine (HP.out _).mono ?_; rintro e w' ⟨rfl, hbel⟩))
            go_wp2
            go_ret2
            exact ⟨by rw [HE.out, ← HW.out]; rfl, below_step hbw (by go_split_ands; assumption)⟩
        · have HE := Lib.hid (HE2.out (by have := Hnh.out; have := Hnl.out; rintro rfl; omega))
          have e3 : ¬ (yh : Int) = (nh : Int) := by omega
          have hw1 : IntKind.u64.wrap ((R : Int) + 1) = ((R + 1 : Nat) : Int) := M64.wrapN (R + 1) (by have := HR.out; omega)
          have HW := Lib.hid hw1
          clear hyh hyl hw1
          go_upto_region 9 with (fail)
          go_region_held3 (fun w' => w'.cell? ⟨B0, 0, none⟩ = some (.int .u64 (nh : Int)) ∧ w'.cell? ⟨B0, 1, none⟩ = some (.int .u64 (nl : Int)) ∧ Below wr.heap.size wr w')
            (first
              | exact keep2 l0' l0' c0' c1' (Below.refl _ _).drew
              | (go_split_ands; exact keep2 l0' l0' c0' c1' (by assumption))
              | (go_split_ands; exact keep2 l0' l0' c0' c1' (below_step (by assumption) hbel)))
            (first
              | (go_at_call 194; refine (HP.out _).mono ?_; rintro e w' ⟨rfl, hbel⟩))
          go_wp2
          go_ret2
          exact ⟨by rw [HE.out, ← HW.out]; rfl, below_step hbw (by go_split_ands; assumption)⟩

set_option maxRecDepth 100000 in
set_option maxHeartbeats 1000000 in
theorem fix_root (a : Int) (up : Bool) (w : World) :
    Calls Try.prog 188 #[.int .i64 a, .bool up] w fun e w' => e = .returned (.tuple #[.int .i64 (rt up a).1, .int .i64 (rt up a).2]) ∧ Below w.heap.size w w' := by
  by_cases ha : ok a
  · have Hc := Lib.hid (chk_ok ha)
    by_cases h0 : a < 0
    · have Hr := Lib.hid (rt_bad up (a := a) (by omega))
      clear ha
      go_enter Try.func188, Try.ntmps188
      go_wp2_with (go_at_call 196; refine (fix_Check _ _).mono ?_; rintro e w' ⟨rfl, rfl⟩; rw [Hc.out])
      go_ret2
      exact ⟨ret2 Hr.out, Below.refl _ _⟩
    · obtain ⟨A, rfl⟩ : ∃ A : Nat, a = A := ⟨a.toNat, by omega⟩
      have Hr := Lib.hid (rt_ok up ha (by omega))
      rw [Int.toNat_natCast] at Hr
      have hA : A ≤ 4503599627370496 := by have := ha.2; omega
      have HP := Lib.hid (fun W => fix_product_one A (by omega) W)
      have hw : IntKind.u64.wrap (A : Int) = (A : Int) := M64.wrapN A (by omega)
      have hb : decide ((A : Int) < 0) = false := by simp
      obtain ⟨n, hn⟩ : ∃ n, n = A * 4294967296 := ⟨_, rfl⟩
      rw [← hn] at HP Hr
      have h86 : n < 2 ^ 86 := by
        have : (2 : Nat) ^ 86 = 77371252455336267181195264 := by decide
        omega
      have HL := Lib.hid (sgn_near false (q := rtOf up n) (rtOf_le up (by omega)))
      have HQ : rtOf up n < 18446744073709551616 := by
        have := rtOf_le up (n := n) (r := 4503599627370496) (by omega)
        omega
      have HS : Hid (∀ (W : World) (B0 : Nat), B0 < W.heap.size → W.cell? ⟨B0, 0, none⟩ = some (.int .u64 ((n / 18446744073709551616 : Nat) : Int)) → W.cell? ⟨B0, 1, none⟩ = some (.int .u64 ((n % 18446744073709551616 : Nat) : Int)) →
          Calls Try.prog 191 #[.bool false, .bool up, .func (.func 205) #[] #[.pointer (some ⟨B0, 0, none⟩)]] W fun e w' => e = .returned (.tuple #[.int .i64 (sgn false (rtOf up n, true)).1, .int .i64 (sgn false (rtOf up n, true)).2]) ∧ Below W.heap.size W w') :=
        Lib.hid (fun W B0 l0 c0 c1 => fix_signed_rt false up (.pointer (some ⟨B0, 0, none⟩)) (rtOf up n, true) HQ W (by have h := fix_rt1 n h86 up W B0 l0 c0 c1; rw [← Bool.bne_false (b := up)] at h; simpa using h))
      clear HQ
      obtain ⟨nh, hnh⟩ : ∃ nh, nh = n / 18446744073709551616 := ⟨_, rfl⟩
      obtain ⟨nl, hnl⟩ : ∃ nl, nl = n % 18446744073709551616 := ⟨_, rfl⟩
      rw [← hnh, ← hnl] at HP
      rw [← hnh, ← hnl] at HS
      rw [HL.out] at HS
      clear ha h0 hA hn h86 hnh hnl
      go_enter Try.func188, Try.ntmps188
      go_wp2_with (first | (go_at_call 196; refine (fix_Check _ _).mono ?_; rintro e w' ⟨rfl, rfl⟩; rw [Hc.out]) | (go_at_call 194; refine (HP.out _).mono ?_; rintro e w' ⟨rfl, hbel⟩) | (go_at_call 191; refine (HS.out _ _ (by simp) (by simp) (by simp)).mono ?_; rintro e w' ⟨rfl, hbel2⟩))
      go_ret2
      refine ⟨ret2 (by rw [Hr.out]), below_step ?_ hbel2⟩
      exact hbel.alloc hbel.size _
  · have Hc := Lib.hid (chk_bad ha)
    have Hr := Lib.hid (rt_bad up (a := a) (fun h => ha h.1))
    clear ha
    go_enter Try.func188, Try.ntmps188
    go_wp2_with (go_at_call 196; refine (fix_Check _ _).mono ?_; rintro e w' ⟨rfl, rfl⟩; rw [Hc.out])
    go_ret2
    exact ⟨ret2 Hr.out, Below.refl _ _⟩

theorem fix_SqrtDown (a : Int) (w : World) :
    Calls Try.prog 166 #[.int .i64 a] w fun e w' => e = .returned (.tuple #[.int .i64 (rt false a).1, .int .i64 (rt false a).2]) ∧ Below w.heap.size w w' := by
  have H := Lib.hid (fun W => fix_root a false W)
  go_enter Try.func166, Try.ntmps166
  go_wp2_with (go_at_call 188; refine (H.out _).mono ?_; rintro e w' ⟨rfl, hbel⟩)
  go_ret2
  exact ⟨rfl, hbel⟩

theorem fix_SqrtUp (a : Int) (w : World) :
    Calls Try.prog 167 #[.int .i64 a] w fun e w' => e = .returned (.tuple #[.int .i64 (rt true a).1, .int .i64 (rt true a).2]) ∧ Below w.heap.size w w' := by
  have H := Lib.hid (fun W => fix_root a true W)
  go_enter Try.func167, Try.ntmps167
  go_wp2_with (go_at_call 188; refine (H.out _).mono ?_; rintro e w' ⟨rfl, hbel⟩)
  go_ret2
  exact ⟨rfl, hbel⟩

end Go.Proofs.Ytgfofilkpaelnaa
