/- Contracts of package span: power. -/
import Derived.Test.YtmnccbhlllnlbaaGreatPowC
namespace Mnc
open Go
/-- What power makes of high's answer. -/
theorem pwr_hi {v : Int} {n : Nat} {l : List Nat} {sh q : Nat} {r : Bool} (h : HiOk l sh q r true) (hl : dval l = v.natAbs ^ n) (hs : sh = 32 * (n - 1)) (hq : q ≤ 4503599627370496) :
    pwr v n = if (decide (v < 0) && decide (n % 2 = 1)) = true then (-(if r = true then (q : Int) + 1 else q), -(q : Int), 0) else ((q : Int), if r = true then (q : Int) + 1 else q, 0) := by
  obtain ⟨h1, h2⟩ := h.good rfl
  have e : pDen n = 2 ^ sh := by rw [hs]; rfl
  rw [hl, ← e] at h1 h2
  rw [pwr_ok (by omega), pwr_rnd, pwr_rnd]
  have r0 : rsz false (v.natAbs ^ n) (pDen n) = q := by unfold rsz; simp [h1]
  have r1 : rsz true (v.natAbs ^ n) (pDen n) = if r = true then q + 1 else q := by
    unfold rsz
    rw [← h1]
    cases r
    · have : ¬ v.natAbs ^ n % pDen n ≠ 0 := fun hh => by have := h2.2 hh; simp at this
      simp [this]
    · have : v.natAbs ^ n % pDen n ≠ 0 := h2.1 rfl
      simp [this]
  cases hneg : (decide (v < 0) && decide (n % 2 = 1))
  · simp only [Bool.bne_false, r0, r1, Bool.false_eq_true, if_false]
    cases r <;> simp
  · simp only [Bool.bne_true, Bool.not_false, Bool.not_true, r0, r1, if_true]
    cases r <;> simp
theorem pwr_hi_bad {v : Int} {n : Nat} {l : List Nat} {sh q : Nat} {r f : Bool} (h : HiOk l sh q r f) (hl : dval l = v.natAbs ^ n) (hs : sh = 32 * (n - 1)) (hq : f = false ∨ 4503599627370496 < q) : pwr v n = (0, 0, 6) := by
  have e : pDen n = 2 ^ sh := by rw [hs]; rfl
  apply pwr_bad
  rw [e, ← hl]
  cases f with
  | false => have := h.bad rfl; omega
  | true =>
    have := (h.good rfl).1
    rcases hq with hq | hq
    · simp at hq
    · omega
end Mnc
namespace Go.Proofs.YtmnccbhlllnlbaaGreat
open Go.RowKit Mnc
theorem dig_high (l : List Nat) (n : Nat) (b cap : Nat) (w : World) (h : DgAt w b cap l) (hl : l.length ≤ 100) (hn : n ≤ 16) (h1 : 1 ≤ n) :
    Calls Tryz.prog 115 #[.slice (some ⟨b, 0, none⟩) l.length cap, .int .i64 (32 * ((n : Int) - 1))] w fun e w' => HiEnd l (32 * (n - 1)) e ∧ Below w.heap.size w w' := by
  rcases Nat.mod_two_eq_zero_or_one (n - 1) with hm | hm
  · have := dig_high0 l (32 * ((n : Int) - 1)) ((n - 1) / 2) b cap w h hl (by omega) (by rw [Int.tdiv_eq_ediv_of_nonneg (by omega)]; omega) (by rw [Int.tmod_eq_emod_of_nonneg (by omega)]; omega)
    rw [show 64 * ((n - 1) / 2) = 32 * (n - 1) by omega] at this
    exact this
  · have := dig_high32 l (32 * ((n : Int) - 1)) ((n - 1) / 2) b cap w h hl (by omega) (by rw [Int.tdiv_eq_ediv_of_nonneg (by omega)]; omega) (by rw [Int.tmod_eq_emod_of_nonneg (by omega)]; omega)
    rw [show 64 * ((n - 1) / 2) + 32 = 32 * (n - 1) by omega] at this
    exact this

theorem DgB.low {n₀ n₁ : Nat} {W : World} {g cap : Nat} {L : List Nat} (h : DgB n₁ W g cap L) (k : n₀ ≤ n₁) : DgB n₀ W g cap L where
  own := by
    refine ⟨h.own.1, ?_⟩
    rcases h.own.2 with h' | ⟨g', cap', cur, h1, h2, hr⟩
    · exact .inl h'
    · exact .inr ⟨g', cap', cur, h1, Nat.le_trans k h2, hr⟩
/-- The digits of a power under way. -/
structure PwAt (w W : World) (m k g c : Nat) (L : List Nat) : Prop where
  len : L.length = k + 1
  ok : dok L
  val : dval L = m ^ k
  own : DgB w.heap.size W g c L
  bel : Below w.heap.size w W
theorem PwAt.start (w : World) (m : Nat) : PwAt w (w.alloc (.cells #[.int .u64 1] 98)) m 0 w.heap.size 1 [1] :=
  ⟨rfl, fun d hd => by simp at hd; omega, rfl, ⟨World.ownsRow_lit w #[.int .u64 1] 1 (Nat.le_refl _) (by decide) rfl⟩, below_alloc (Below.refl _ _) _⟩
theorem PwAt.next {w W W' : World} {m k g c g' c' : Nat} {L L' : List Nat} (h : PwAt w W m k g c L) (h1 : L'.length = L.length + 1) (h2 : dok L') (h3 : dval L' = dval L * m) (h4 : DgB W.heap.size W' g' c' L') (h5 : Below W.heap.size W W') : PwAt w W' m (k + 1) g' c' L' :=
  ⟨by rw [h1, h.len], h2, by rw [h3, h.val, Nat.pow_succ], h4.low h.bel.size, below_step h.bel h5⟩

set_option maxRecDepth 100000 in
set_option maxHeartbeats 2000000 in
theorem span_power (v : Int) (n : Nat) (hv : ok v) (h1 : 1 ≤ n) (hn : n ≤ 16) (w : World) :
    Calls Tryz.prog 102 #[.int .i64 v, .int .i64 (n : Int)] w fun e w' => e = .returned (.tuple #[.int .i64 (pwr v n).1, .int .i64 (pwr v n).2.1, .int .i64 (pwr v n).2.2]) ∧ Below w.heap.size w w' := by
  obtain ⟨m, hm⟩ : ∃ m, m = v.natAbs := ⟨_, rfl⟩
  have hm1 : max v (-v) = (m : Int) := by omega
  obtain ⟨hv1, hv2⟩ := hv
  have hm2 : m ≤ 4503599627370496 := by omega
  have HM := Lib.hid hm
  clear hm
  have HP := Lib.hid (PwAt.start w m)
  have HE := Lib.hid (fun (l : List Nat) (sh q : Nat) (r : Bool) h hl hs hq => @pwr_hi v n l sh q r h hl hs hq)
  have HB := Lib.hid (fun (l : List Nat) (sh q : Nat) (r f : Bool) h hl hs hq => @pwr_hi_bad v n l sh q r f h hl hs hq)
  rw [← HM.out] at HE HB
  obtain ⟨P, hP⟩ : ∃ P, P = pwr v n := ⟨_, rfl⟩
  rw [← hP] at HE HB ⊢
  clear hP
  go_enter Tryz.func102, Tryz.ntmps102
  go_upto_region 4 with (fail)
  go_loopw [8, 19] (fun dv i wr => ∃ k g c : Nat, k ≤ n ∧ i = .int .i64 k ∧ dv = .slice (some ⟨g, 0, none⟩) (k + 1) c ∧ ∃ L : List Nat, Hid (PwAt w wr m k g c L)) (fun _ i _ => n - (intOf i).toNat)
  case atStart => exact ⟨0, _, _, by omega, rfl, rfl, [1], HP⟩
  case round =>
    clear HP
    obtain ⟨k, g, c, hk, rfl, rfl, L, HI⟩ := hrel
    rcases Nat.lt_or_ge k n with hk' | hk'
    · have HT := Lib.hid (fun W hD => dig_times L m g c W hD (by rw [HI.out.len]; omega) (by omega))
      rw [HI.out.len] at HT
      go_wp2_with fail
      refine (HT.out _ (HI.out.own.dg HI.out.ok)).mono ?_
      rintro e w2 ⟨g2, c2, L2, rfl, h1, h2, h3, h4, h5⟩
      have HI2 := Lib.hid (HI.out.next (by rw [h1, HI.out.len]) h2 h3 h4 h5)
      clear h1 h2 h3 h4 h5
      go_wp2_with fail
      go_roundw
      case rel => exact ⟨k + 1, g2, c2, by omega, by go_num, rfl, L2, HI2⟩
      case measure => simp [intOf]; omega
    · obtain rfl : k = n := by omega
      have HT := Lib.hid (fun W hD => dig_high L k g c W hD (by rw [HI.out.len]; omega) hn h1)
      rw [HI.out.len] at HT
      go_wp2_with fail
      refine (HT.out _ (HI.out.own.dg HI.out.ok)).mono ?_
      rintro e w2 ⟨⟨q, r, f, rfl, hH⟩, hbel⟩
      have HBW := Lib.hid (below_step HI.out.bel hbel)
      have HH := Lib.hid hH
      clear hbel hH
      cases f with
      | false =>
        have HPP := Lib.hid (HB.out _ _ _ _ _ HH.out HI.out.val rfl (.inl rfl))
        go_wp2_with fail
        exact bodyPost_ret (v := .tuple #[.int .i64 0, .int .i64 0, .int .i64 6]) (by simp [results, Tryz.results102, go_sem]) rfl ⟨by rw [HPP.out], HBW.out⟩
      | true =>
        by_cases hq : q ≤ 4503599627370496
        · have HPP := Lib.hid (HE.out _ _ _ _ HH.out HI.out.val rfl hq)
          have d1 : decide ((4503599627370496 : Int) < (q : Int)) = false := by simp; omega
          by_cases hv0 : v < 0
          · have d2 : decide (v < 0) = true := by simp; omega
            by_cases ho : k % 2 = 1
            · have d3 : ((k : Int) % 2 == 1) = true := by simp; omega
              have d4 : decide (k % 2 = 1) = true := by simp [ho]
              clear hv0 ho
              cases r with
              | true =>
                go_wp2_with fail
                exact bodyPost_ret (v := .tuple #[.int .i64 (-((q : Int) + 1)), .int .i64 (-(q : Int)), .int .i64 0]) (by simp [results, Tryz.results102, go_sem]) rfl ⟨by rw [HPP.out]; simp [d2, d4], HBW.out⟩
              | false =>
                go_wp2_with fail
                exact bodyPost_ret (v := .tuple #[.int .i64 (-(q : Int)), .int .i64 (-(q : Int)), .int .i64 0]) (by simp [results, Tryz.results102, go_sem]) rfl ⟨by rw [HPP.out]; simp [d2, d4], HBW.out⟩
            · have d3 : ((k : Int) % 2 == 1) = false := by simp; omega
              have d4 : decide (k % 2 = 1) = false := by simp [ho]
              clear hv0 ho
              cases r with
              | true =>
                go_wp2_with fail
                exact bodyPost_ret (v := .tuple #[.int .i64 (q : Int), .int .i64 ((q : Int) + 1), .int .i64 0]) (by simp [results, Tryz.results102, go_sem]) rfl ⟨by rw [HPP.out]; simp [d2, d4], HBW.out⟩
              | false =>
                go_wp2_with fail
                exact bodyPost_ret (v := .tuple #[.int .i64 (q : Int), .int .i64 (q : Int), .int .i64 0]) (by simp [results, Tryz.results102, go_sem]) rfl ⟨by rw [HPP.out]; simp [d2, d4], HBW.out⟩
          · have d2 : decide (v < 0) = false := by simp; omega
            clear hv0
            cases r with
            | true =>
              go_wp2_with fail
              exact bodyPost_ret (v := .tuple #[.int .i64 (q : Int), .int .i64 ((q : Int) + 1), .int .i64 0]) (by simp [results, Tryz.results102, go_sem]) rfl ⟨by rw [HPP.out]; simp [d2], HBW.out⟩
            | false =>
              go_wp2_with fail
              exact bodyPost_ret (v := .tuple #[.int .i64 (q : Int), .int .i64 (q : Int), .int .i64 0]) (by simp [results, Tryz.results102, go_sem]) rfl ⟨by rw [HPP.out]; simp [d2], HBW.out⟩
        · have HPP := Lib.hid (HB.out _ _ _ _ _ HH.out HI.out.val rfl (.inr (by omega)))
          have d1 : decide ((4503599627370496 : Int) < (q : Int)) = true := by simp; omega
          go_wp2_with fail
          exact bodyPost_ret (v := .tuple #[.int .i64 0, .int .i64 0, .int .i64 6]) (by simp [results, Tryz.results102, go_sem]) rfl ⟨by rw [HPP.out], HBW.out⟩
end Go.Proofs.YtmnccbhlllnlbaaGreat
