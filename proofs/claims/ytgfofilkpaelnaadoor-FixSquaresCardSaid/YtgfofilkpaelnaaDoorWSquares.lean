/- The walk of monoclelaw01.FixSquares. -/
import Derived.Test.YtgfofilkpaelnaaDoorLawB
import Derived.Test.YtgfofilkpaelnaaDoorSpanMath
namespace Go.Proofs.YtgfofilkpaelnaaDoor.fixSquares
open Go.RowKit Mnc

/-- A root that was rounded down, and its squares. -/
theorem root_low {a : Int} (ha : ok a) (h0 : 0 ≤ a) : ∃ r : Nat, rt false a = ((r : Int), 0) ∧ r ≤ 4398046511104 ∧ r * r ≤ a.toNat * 4294967296 ∧ a.toNat * 4294967296 < (r + 1) * (r + 1) := by
  obtain ⟨g1, g2⟩ := isq_spec (a.toNat * 4294967296)
  refine ⟨isq (a.toNat * 4294967296), ?_, ?_, g1, g2⟩
  · rw [rt_ok false ha h0, rtOf, if_neg (by simp)]
  · apply isq_le
    unfold ok at ha
    omega

theorem sq_small {r : Nat} (hr : r ≤ 4398046511105) : r * r < 39614081257132168796771975168 := by
  have := Nat.mul_le_mul hr hr
  omega

theorem mul_low {a : Int} {r : Nat} (ha : ok a) (h0 : 0 ≤ a) (hr : r ≤ 4398046511104) (h : r * r ≤ a.toNat * 4294967296) : ∃ v, mul false (r : Int) (r : Int) = (v, 0) ∧ v ≤ a := by
  have hok : ok (r : Int) := by unfold ok; omega
  rw [mul_fit false hok hok (by simpa using sq_small (by omega))]
  have e : rnd false ((r : Int) * (r : Int)) 4294967296 = ((r * r / 4294967296 : Nat) : Int) := by
    rw [← Int.natCast_mul]; exact fl_nat (r * r) 4294967296
  rw [e]
  have hle : r * r / 4294967296 ≤ a.toNat := by
    rw [Nat.div_le_iff_le_mul_add_pred (by omega)]; omega
  rw [fit_ok (by unfold ok at *; omega)]
  exact ⟨_, rfl, by omega⟩

theorem rnd_up_nat (n d : Nat) (hd : 0 < d) : rnd true (n : Int) (d : Int) = ((rsz true n d : Nat) : Int) := by
  have h := rnd_size false true n d hd
  rw [if_neg (by decide), if_neg (by decide)] at h
  exact h
theorem rsz_lo (n d : Nat) (hd : 0 < d) : n ≤ rsz true n d * d := by
  have h1 := Nat.div_add_mod' n d
  have h2 := Nat.mod_lt n hd
  unfold rsz
  split
  · rw [Nat.add_mul]; omega
  · rename_i h
    have : n % d = 0 := by simpa using h
    omega
theorem rsz_hi (n d : Nat) : rsz true n d * d ≤ n + d := by
  have h1 := Nat.div_add_mod' n d
  unfold rsz
  split
  · rw [Nat.add_mul]; omega
  · omega

theorem mul_up_nat {x y : Nat} (hx : ok (x : Int)) (hy : ok (y : Int)) (h : x * y < 39614081257132168796771975168) : mul true (x : Int) (y : Int) = fit ((rsz true (x * y) 4294967296 : Nat) : Int) := by
  rw [mul_fit true hx hy (by rw [Int.natAbs_natCast, Int.natAbs_natCast]; exact h), ← Int.natCast_mul]
  exact congrArg fit (rnd_up_nat (x * y) 4294967296 (by omega))

theorem mul_up_far {x y a : Nat} (hx : ok (x : Int)) (hy : ok (y : Int)) (h : x * y < 39614081257132168796771975168) (ha : a * 4294967296 ≤ x * y) : (∃ v, mul true (x : Int) (y : Int) = (v, 0) ∧ (a : Int) ≤ v ∧ (a * 4294967296 < x * y → (a : Int) < v)) ∨ mul true (x : Int) (y : Int) = (0, 6) := by
  rw [mul_up_nat hx hy h]
  have hl := rsz_lo (x * y) 4294967296 (by omega)
  generalize x * y = z at *
  generalize rsz true z 4294967296 = q at *
  by_cases hk : ok (q : Int)
  · left
    rw [fit_ok hk]
    exact ⟨_, rfl, by omega, by omega⟩
  · right
    exact fit_bad hk

theorem mul_high {a : Int} {r : Nat} (h0 : 0 ≤ a) (hr : r ≤ 4398046511105) (h : a.toNat * 4294967296 < r * r) : (∃ v, mul true (r : Int) (r : Int) = (v, 0) ∧ a < v) ∨ mul true (r : Int) (r : Int) = (0, 6) := by
  have hok : ok (r : Int) := by unfold ok; omega
  rcases mul_up_far hok hok (sq_small hr) (Nat.le_of_lt h) with ⟨v, e, _, k⟩ | e
  · exact .inl ⟨v, e, by have := k h; omega⟩
  · exact .inr e

theorem div_low {a b p : Int} (ha : ok a) (h0 : 0 ≤ a) (hb : ok b) (h1 : 1 ≤ b) (hp : dvd false a b = (p, 0)) : ∃ v, mul false p b = (v, 0) ∧ v ≤ a := by
  rw [dvd_fit false ha hb (by omega)] at hp
  obtain ⟨A, rfl⟩ : ∃ A : Nat, a = A := ⟨a.toNat, by omega⟩
  obtain ⟨B, rfl⟩ : ∃ B : Nat, b = B := ⟨b.toNat, by omega⟩
  have e : dv false (A : Int) (B : Int) = ((A * 4294967296 / B : Nat) : Int) := by
    unfold dv
    rw [if_neg (by omega)]
    exact fl_nat (A * 4294967296) B
  rw [e] at hp
  by_cases hk : ok ((A * 4294967296 / B : Nat) : Int)
  · rw [fit_ok hk] at hp
    simp only [Prod.mk.injEq, and_true] at hp
    subst hp
    have hq : A * 4294967296 / B * B ≤ A * 4294967296 := Nat.div_mul_le_self _ _
    unfold ok at ha
    rw [mul_fit false hk hb (by simp only [Int.natAbs_natCast]; omega)]
    have e2 : rnd false (((A * 4294967296 / B : Nat) : Int) * (B : Int)) 4294967296 = ((A * 4294967296 / B * B / 4294967296 : Nat) : Int) := by
      rw [← Int.natCast_mul]; exact fl_nat _ 4294967296
    rw [e2]
    generalize A * 4294967296 / B * B = z at *
    rw [fit_ok (by unfold ok; omega)]
    exact ⟨_, rfl, by omega⟩
  · rw [fit_bad hk] at hp
    simp at hp

theorem div_high {a b q : Int} (ha : ok a) (h0 : 0 ≤ a) (hb : ok b) (h1 : 1 ≤ b) (hq : dvd true a b = (q, 0)) : (∃ v, mul true q b = (v, 0) ∧ a ≤ v) ∨ mul true q b = (0, 6) := by
  rw [dvd_fit true ha hb (by omega)] at hq
  obtain ⟨A, rfl⟩ : ∃ A : Nat, a = A := ⟨a.toNat, by omega⟩
  obtain ⟨B, rfl⟩ : ∃ B : Nat, b = B := ⟨b.toNat, by omega⟩
  have e : dv true (A : Int) (B : Int) = ((rsz true (A * 4294967296) B : Nat) : Int) := by
    unfold dv
    rw [if_neg (by omega), Int.natAbs_natCast, ← rnd_up_nat _ _ (by omega), Int.natCast_mul]
    rfl
  rw [e] at hq
  have hlo := rsz_lo (A * 4294967296) B (by omega)
  have hhi := rsz_hi (A * 4294967296) B
  generalize rsz true (A * 4294967296) B = Q at *
  by_cases hk : ok (Q : Int)
  · rw [fit_ok hk, Prod.mk.injEq] at hq
    obtain rfl := hq.1
    unfold ok at ha
    rcases mul_up_far (a := A) hk hb (by unfold ok at hb; omega) hlo with ⟨v, e, k, _⟩ | e
    · exact .inl ⟨v, e, k⟩
    · exact .inr e
  · rw [fit_bad hk, Prod.mk.injEq] at hq
    exact absurd hq.2 (by decide)

set_option maxRecDepth 100000 in
set_option maxHeartbeats 4000000 in
theorem walk (a b : Int) (w : World) (hP : Pows w) :
    Calls Tryd.prog 7 #[.int .i64 a, .int .i64 b] w fun e w' => e = .returned (.bool true) ∧ Below w.heap.size w w' := by
  have HP := Lib.hid hP
  clear hP
  have HA := Lib.hid (show ok (max (nearOf a false) 0) ∧ 0 ≤ max (nearOf a false) 0 by have := near_ok a; unfold ok at *; omega)
  have HB := Lib.hid (show ok (max (nearOf b false) 1) ∧ 1 ≤ max (nearOf b false) 1 by have := near_ok b; unfold ok at *; omega)
  go_enter Tryd.func7, Tryd.ntmps7
  go_wp2_with fail
  refine (law1_works _ HP.out).mono ?_; rintro e w1 ⟨rfl, hW⟩
  go_wp2_with fail
  refine (law1_near _ _ _).mono ?_; rintro e w2 ⟨rfl, rfl⟩
  go_wp2_with fail
  refine (law1_near _ _ _).mono ?_; rintro e w2 ⟨rfl, rfl⟩
  go_wp2_with fail
  generalize max (nearOf a false) 0 = A at *
  generalize max (nearOf b false) 1 = B at *
  obtain ⟨r, er, hr, hlo, hhi⟩ := root_low HA.out.1 HA.out.2
  have ER := Lib.hid er
  obtain ⟨v, ev, hv⟩ := mul_low HA.out.1 HA.out.2 hr hlo
  have EV := Lib.hid ev
  have HU := Lib.hid (mul_high HA.out.2 (show r + 1 ≤ 4398046511105 by omega) hhi)
  rw [show (((r + 1 : Nat) : Int)) = (r : Int) + 1 by omega] at HU
  obtain ⟨⟨p, pe⟩, hp⟩ : ∃ x, x = dvd false A B := ⟨_, rfl⟩
  obtain ⟨⟨q, qe⟩, hq⟩ : ∃ x, x = dvd true A B := ⟨_, rfl⟩
  have ED := Lib.hid hp.symm
  have EU := Lib.hid hq.symm
  have hr1 : (r : Int) ≤ 4398046511104 := by omega
  have hr0 : 0 ≤ (r : Int) := by omega
  clear er ev hlo hhi hp hq hr
  generalize (r : Int) = R at *
  refine (fix_SqrtDown _ _).mono ?_; rintro e wn ⟨rfl, hb⟩; rw [ER.out]
  have hW := below_step hW hb
  clear hb
  go_wp2_with fail
  refine (fix_MulDown _ _ _).mono ?_; rintro e wn ⟨rfl, hb⟩; rw [EV.out]
  have hW := below_step hW hb
  clear hb
  have hvb : decide (A < v) = false := by simp; omega
  have hvb2 : ¬ A < v := by omega
  rcases HU.out with ⟨u, eu, hu⟩ | eu
  · have EU1 := Lib.hid eu
    have hub : decide (u ≤ A) = false := by simp; omega
    have hub2 : ¬ u ≤ A := by omega
    clear eu HU
    go_wp2_with fail
    refine (fix_MulUp _ _ _).mono ?_; rintro e wn ⟨rfl, hb⟩; rw [EU1.out]
    have hW := below_step hW hb
    clear hb
    by_cases hpe : pe = 0
    · subst hpe
      by_cases hqe : qe = 0
      · subst hqe
        obtain ⟨v2, ev2, hv2⟩ := div_low HA.out.1 HA.out.2 HB.out.1 HB.out.2 ED.out
        have EV2 := Lib.hid ev2
        clear ev2
        rcases div_high HA.out.1 HA.out.2 HB.out.1 HB.out.2 EU.out with ⟨u2, eu2, hu2⟩ | eu2
        · have EU2 := Lib.hid eu2
          clear eu2
          go_wp2_with fail
          refine (fix_DivDown A B _).mono ?_; rintro e wn ⟨rfl, hb⟩; rw [ED.out]
          have hW := below_step hW hb
          clear hb
          go_wp2_with fail
          refine (fix_DivUp A B _).mono ?_; rintro e wn ⟨rfl, hb⟩; rw [EU.out]
          have hW := below_step hW hb
          clear hb
          go_wp2_with fail
          refine (fix_MulDown _ _ _).mono ?_; rintro e wn ⟨rfl, hb⟩; rw [EV2.out]
          have hW := below_step hW hb
          clear hb
          go_wp2_with fail
          refine (fix_MulUp _ _ _).mono ?_; rintro e wn ⟨rfl, hb⟩; rw [EU2.out]
          have hW := below_step hW hb
          clear hb
          go_wp2_with fail
          go_ret
          exact ⟨rfl, hW⟩
        · have EU2 := Lib.hid eu2
          clear eu2
          go_wp2_with fail
          refine (fix_DivDown A B _).mono ?_; rintro e wn ⟨rfl, hb⟩; rw [ED.out]
          have hW := below_step hW hb
          clear hb
          go_wp2_with fail
          refine (fix_DivUp A B _).mono ?_; rintro e wn ⟨rfl, hb⟩; rw [EU.out]
          have hW := below_step hW hb
          clear hb
          go_wp2_with fail
          refine (fix_MulDown _ _ _).mono ?_; rintro e wn ⟨rfl, hb⟩; rw [EV2.out]
          have hW := below_step hW hb
          clear hb
          go_wp2_with fail
          refine (fix_MulUp _ _ _).mono ?_; rintro e wn ⟨rfl, hb⟩; rw [EU2.out]
          have hW := below_step hW hb
          clear hb
          go_wp2_with fail
          go_ret
          exact ⟨rfl, hW⟩
      · have hqe2 : (qe == 0) = false := by simp [hqe]
        have hqe3 : (qe != 0) = true := by simp [hqe]
        clear hqe
        go_wp2_with fail
        refine (fix_DivDown A B _).mono ?_; rintro e wn ⟨rfl, hb⟩; rw [ED.out]
        have hW := below_step hW hb
        clear hb
        go_wp2_with fail
        refine (fix_DivUp A B _).mono ?_; rintro e wn ⟨rfl, hb⟩; rw [EU.out]
        have hW := below_step hW hb
        clear hb
        go_wp2_with fail
        go_ret
        exact ⟨rfl, hW⟩
    · have hpe2 : (pe == 0) = false := by simp [hpe]
      have hpe3 : (pe != 0) = true := by simp [hpe]
      clear hpe
      go_wp2_with fail
      refine (fix_DivDown A B _).mono ?_; rintro e wn ⟨rfl, hb⟩; rw [ED.out]
      have hW := below_step hW hb
      clear hb
      go_wp2_with fail
      refine (fix_DivUp A B _).mono ?_; rintro e wn ⟨rfl, hb⟩; rw [EU.out]
      have hW := below_step hW hb
      clear hb
      go_wp2_with fail
      go_ret
      exact ⟨rfl, hW⟩
  · have EU1 := Lib.hid eu
    clear eu HU
    go_wp2_with fail
    refine (fix_MulUp _ _ _).mono ?_; rintro e wn ⟨rfl, hb⟩; rw [EU1.out]
    have hW := below_step hW hb
    clear hb
    by_cases hpe : pe = 0
    · subst hpe
      by_cases hqe : qe = 0
      · subst hqe
        obtain ⟨v2, ev2, hv2⟩ := div_low HA.out.1 HA.out.2 HB.out.1 HB.out.2 ED.out
        have EV2 := Lib.hid ev2
        clear ev2
        rcases div_high HA.out.1 HA.out.2 HB.out.1 HB.out.2 EU.out with ⟨u2, eu2, hu2⟩ | eu2
        · have EU2 := Lib.hid eu2
          clear eu2
          go_wp2_with fail
          refine (fix_DivDown A B _).mono ?_; rintro e wn ⟨rfl, hb⟩; rw [ED.out]
          have hW := below_step hW hb
          clear hb
          go_wp2_with fail
          refine (fix_DivUp A B _).mono ?_; rintro e wn ⟨rfl, hb⟩; rw [EU.out]
          have hW := below_step hW hb
          clear hb
          go_wp2_with fail
          refine (fix_MulDown _ _ _).mono ?_; rintro e wn ⟨rfl, hb⟩; rw [EV2.out]
          have hW := below_step hW hb
          clear hb
          go_wp2_with fail
          refine (fix_MulUp _ _ _).mono ?_; rintro e wn ⟨rfl, hb⟩; rw [EU2.out]
          have hW := below_step hW hb
          clear hb
          go_wp2_with fail
          go_ret
          exact ⟨rfl, hW⟩
        · have EU2 := Lib.hid eu2
          clear eu2
          go_wp2_with fail
          refine (fix_DivDown A B _).mono ?_; rintro e wn ⟨rfl, hb⟩; rw [ED.out]
          have hW := below_step hW hb
          clear hb
          go_wp2_with fail
          refine (fix_DivUp A B _).mono ?_; rintro e wn ⟨rfl, hb⟩; rw [EU.out]
          have hW := below_step hW hb
          clear hb
          go_wp2_with fail
          refine (fix_MulDown _ _ _).mono ?_; rintro e wn ⟨rfl, hb⟩; rw [EV2.out]
          have hW := below_step hW hb
          clear hb
          go_wp2_with fail
          refine (fix_MulUp _ _ _).mono ?_; rintro e wn ⟨rfl, hb⟩; rw [EU2.out]
          have hW := below_step hW hb
          clear hb
          go_wp2_with fail
          go_ret
          exact ⟨rfl, hW⟩
      · have hqe2 : (qe == 0) = false := by simp [hqe]
        have hqe3 : (qe != 0) = true := by simp [hqe]
        clear hqe
        go_wp2_with fail
        refine (fix_DivDown A B _).mono ?_; rintro e wn ⟨rfl, hb⟩; rw [ED.out]
        have hW := below_step hW hb
        clear hb
        go_wp2_with fail
        refine (fix_DivUp A B _).mono ?_; rintro e wn ⟨rfl, hb⟩; rw [EU.out]
        have hW := below_step hW hb
        clear hb
        go_wp2_with fail
        go_ret
        exact ⟨rfl, hW⟩
    · have hpe2 : (pe == 0) = false := by simp [hpe]
      have hpe3 : (pe != 0) = true := by simp [hpe]
      clear hpe
      go_wp2_with fail
      refine (fix_DivDown A B _).mono ?_; rintro e wn ⟨rfl, hb⟩; rw [ED.out]
      have hW := below_step hW hb
      clear hb
      go_wp2_with fail
      refine (fix_DivUp A B _).mono ?_; rintro e wn ⟨rfl, hb⟩; rw [EU.out]
      have hW := below_step hW hb
      clear hb
      go_wp2_with fail
      go_ret
      exact ⟨rfl, hW⟩
end Go.Proofs.YtgfofilkpaelnaaDoor.fixSquares
