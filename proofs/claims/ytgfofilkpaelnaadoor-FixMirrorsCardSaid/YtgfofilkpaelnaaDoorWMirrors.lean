/- The walk of monoclelaw01.FixMirrors. -/
import Derived.Test.YtgfofilkpaelnaaDoorLawB
import Derived.Test.YtgfofilkpaelnaaDoorSpanMath
namespace Go.Proofs.YtgfofilkpaelnaaDoor.fixMirrors
open Go.RowKit Mnc

theorem opp (q f : Int) (w : World) (hq : ok q) :
    Calls Tryd.prog 38 #[.int .i64 (-q), .int .i64 f, .int .i64 q, .int .i64 f] w fun e w' => e = .returned (.bool true) ∧ w = w' := by
  unfold ok at hq
  go_enter Tryd.func38, Tryd.ntmps38
  go_wp2
  go_ret
  exact ⟨rfl, rfl⟩

theorem near_div {neg : Bool} {n d : Nat} (h : (sgn neg (quo n d false)).2 = 0) : n / d ≤ 4503599627370496 := by
  unfold quo at h
  split at h
  · rw [sgn_false] at h; cases h
  · rw [if_neg (by simp)] at h
    by_cases hq : n / d ≤ 4503599627370496
    · exact hq
    · rw [sgn_far neg (by omega)] at h; cases h

theorem fit_le {x y : Int} (h : x ≤ y) (hx : (fit x).2 = 0) (hy : (fit y).2 = 0) : (fit x).1 ≤ (fit y).1 := by
  by_cases kx : ok x
  · by_cases ky : ok y
    · rw [fit_ok kx, fit_ok ky]; exact h
    · rw [fit_bad ky] at hy; cases hy
  · rw [fit_bad kx] at hx; cases hx

theorem pair_le (neg : Bool) (n d : Nat) (hd : 0 < d) (h0 : (sgn neg (quo n d (false != neg))).2 = 0) (h1 : (sgn neg (quo n d (true != neg))).2 = 0) :
    (sgn neg (quo n d (false != neg))).1 ≤ (sgn neg (quo n d (true != neg))).1 := by
  have hn : n / d ≤ 4503599627370496 := by
    cases neg
    · exact near_div h0
    · exact near_div h1
  have hw : n / d ≠ 18446744073709551615 ∨ n % d = 0 := Or.inl (by omega)
  rw [sgn_quo neg false n d hd hw] at *
  rw [sgn_quo neg true n d hd hw] at *
  exact fit_le (rnd_le (by omega)) h0 h1

theorem dec_le (a : Int) {k : Nat} (hk : k < 13) : (dec a k).1 ≤ (dec a k).2.1 := by
  rw [dec_in a hk]
  split
  · rename_i h0
    split
    · rename_i h1
      exact pair_le _ _ _ (Nat.pow_pos (by omega)) h0 h1
    · exact Int.le_refl _
  · exact Int.le_refl _

theorem dec_ok (a d : Int) : ok (dec a d).1 ∧ ok (dec a d).2.1 := by
  unfold dec
  split
  · split
    · split
      · exact ⟨decOf_bd _ _ _, decOf_bd _ _ _⟩
      · exact ⟨ok_zero, ok_zero⟩
    · exact ⟨ok_zero, ok_zero⟩
  · exact ⟨ok_zero, ok_zero⟩

theorem place_of (D : Int) : ∃ k : Nat, k < 13 ∧ wrap64 ((IntKind.u64.wrap D).tmod 13) = (k : Int) := by
  have h0 : 0 ≤ IntKind.u64.wrap D := by rw [IntKind.wrap_u64]; omega
  generalize IntKind.u64.wrap D = x at *
  rw [Int.tmod_eq_emod_of_nonneg h0]
  refine ⟨(x % 13).toNat, by omega, ?_⟩
  unfold wrap64
  omega

/-- A struct of two integers in a box of its own. -/
structure Box2 (w W : World) (x y : Int) : Prop where
  bel : Below w.heap.size w W
  blk : W.heap[w.heap.size]? = some (.cells #[.int .i64 x, .int .i64 y] 37 (0, 0))
theorem Box2.start (w : World) (x y : Int) : Box2 w (w.alloc (.cells #[.int .i64 x, .int .i64 y] 37)) x y :=
  ⟨(Below.refl _ _).alloc (Nat.le_refl _) _, heap_alloc_new w _⟩
theorem Box2.on {w W W' : World} {x y : Int} (h : Box2 w W x y) (hb : Below W.heap.size W W') : Box2 w W' x y :=
  ⟨below_step h.bel hb, (hb.block _ (lt_of_block h.blk)).trans h.blk⟩
theorem Box2.set0 {w W : World} {x y : Int} (h : Box2 w W x y) (z : Int) : Box2 w (W.setCell ⟨w.heap.size, 0, none⟩ (.int .i64 z)) z y :=
  ⟨h.bel.setCell (Nat.le_refl _) _, by rw [heap_setCell_same _ _ _ _ _ _ h.blk]; rfl⟩

set_option maxRecDepth 100000 in
set_option maxHeartbeats 4000000 in
theorem walk (a b N D : Int) (hN : -9223372036854775808 ≤ N ∧ N ≤ 9223372036854775807) (w : World) (hP : Pows w) :
    Calls Tryd.prog 6 #[.int .i64 a, .int .i64 b, .agg #[.int .i64 N, .int .i64 D]] w fun e w' => e = .returned (.bool true) ∧ Below w.heap.size w w' := by
  have HP := Lib.hid hP
  have HM : Hid (-4611686018427387904 ≤ N / 2 ∧ N / 2 ≤ 4611686018427387903) := Lib.hid (by omega)
  clear hP hN
  have HA := Lib.hid (near_ok a)
  have HB := Lib.hid (near_ok b)
  go_enter Tryd.func6, Tryd.ntmps6
  go_wp2_with fail
  have hX := Box2.start w N D
  generalize w.alloc (.cells #[.int .i64 N, .int .i64 D] 37) = w0 at *
  refine (law1_works _ (HP.out.below hX.bel)).mono ?_
  rintro e w1 ⟨rfl, hb⟩
  have hX := hX.on hb
  clear hb
  go_wp2_with fail
  refine (law1_near _ _ _).mono ?_; rintro e w2 ⟨rfl, rfl⟩
  go_wp2_with fail
  refine (law1_near _ _ _).mono ?_; rintro e w2 ⟨rfl, rfl⟩
  generalize nearOf a false = A at *
  generalize nearOf b false = B at *
  have hA1 := HA.out.1
  have hA2 := HA.out.2
  have hB1 := HB.out.1
  have hB2 := HB.out.2
  go_wp2_with fail
  refine (fix_MulDown _ _ _).mono ?_; rintro e w2 ⟨rfl, hb⟩; rw [mul_mirror]
  have hX := hX.on hb
  clear hb
  go_wp2_with fail
  refine (fix_MulUp _ _ _).mono ?_; rintro e w3 ⟨rfl, hb⟩
  have hX := hX.on hb
  clear hb
  have hq := mul_bd true A B
  generalize mul true A B = p at *
  go_wp2_with fail
  refine (opp _ _ _ hq).mono ?_; rintro e w4 ⟨rfl, rfl⟩
  clear hq
  go_wp2_with fail
  refine (fix_DivDown _ _ _).mono ?_; rintro e w4 ⟨rfl, hb⟩; rw [dvd_mirror]
  have hX := hX.on hb
  clear hb
  go_wp2_with fail
  refine (fix_DivUp _ _ _).mono ?_; rintro e w5 ⟨rfl, hb⟩
  have hX := hX.on hb
  clear hb
  have hq := dvd_bd true A B
  generalize dvd true A B = p at *
  go_wp2_with fail
  refine (opp _ _ _ hq).mono ?_; rintro e w6 ⟨rfl, rfl⟩
  clear hq
  have c0 := cell_two0 hX.blk
  have c1 := cell_two1 hX.blk
  have f0 := free_two (i := 0) hX.blk
  have l0 := lt_of_block hX.blk
  go_upto_region 13 with (fail)
  have hX := hX.set0 (N / 2)
  clear c0 c1 f0 l0
  generalize N / 2 = M at *
  generalize w5.setCell ⟨w.heap.size, 0, none⟩ (.int .i64 M) = w6 at *
  have hM1 := HM.out.1
  have hM2 := HM.out.2
  have c0 := cell_two0 hX.blk
  have c1 := cell_two1 hX.blk
  go_wp2_with fail
  refine (fix_ScaleDown _ _ _ _).mono ?_; rintro e w7 ⟨rfl, hb⟩; rw [scl_mirror]
  have hX := hX.on hb
  clear hb c0 c1
  have c0 := cell_two0 hX.blk
  have c1 := cell_two1 hX.blk
  go_wp2_with fail
  refine (fix_ScaleUp _ _ _ _).mono ?_; rintro e w8 ⟨rfl, hb⟩
  have hX := hX.on hb
  clear hb c0 c1
  have hq := scl_bd true A M D
  generalize scl true A M D = p at *
  go_wp2_with fail
  refine (opp _ _ _ hq).mono ?_; rintro e w9 ⟨rfl, rfl⟩
  clear hq
  have c0 := cell_two0 hX.blk
  have c1 := cell_two1 hX.blk
  go_wp2_with fail
  obtain ⟨k, hk, ek⟩ := place_of D
  rw [ek]
  have HK := Lib.hid hk
  clear ek hk
  refine (fix_FromDec M k (by omega) _ (HP.out.below hX.bel)).mono ?_
  rintro e w9 ⟨rfl, hb⟩
  have hX := hX.on hb
  clear hb c0 c1
  have c0 := cell_two0 hX.blk
  have c1 := cell_two1 hX.blk
  go_wp2_with fail
  refine (fix_FromDec (-M) k (by omega) _ (HP.out.below hX.bel)).mono ?_
  rintro e w10 ⟨rfl, hb⟩
  have hX := hX.on hb
  clear hb c0 c1
  rw [(dec_mirror M HK.out).1, (dec_mirror M HK.out).2.1, (dec_mirror M HK.out).2.2]
  have hle := dec_le M HK.out
  obtain ⟨⟨o1, o2⟩, o3, o4⟩ := dec_ok M k
  generalize dec M k = p at *
  have n1 : - -p.1 = p.1 := by omega
  have n2 : - -p.2.1 = p.2.1 := by omega
  go_wp2_with fail
  go_ret
  exact ⟨rfl, hX.bel⟩
end Go.Proofs.YtgfofilkpaelnaaDoor.fixMirrors
