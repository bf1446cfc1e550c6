/- Plain laws of vectors: right angles, squares, unit vectors, sums. No program here. -/
import Derived.Test.YtmnccbhlllnlbaaVecLaw
namespace Mnc
open Go

/-- An interval contains the number p/q. -/
def has (s : Int × Int) (p q : Int) : Prop := s.1 * q ≤ p ∧ p ≤ s.2 * q
theorem has_one {s : Int × Int} (h : okS s) : has s s.1 1 := ⟨by omega, by have := h.2.1; omega⟩
theorem fl_mul_le (x : Int) : fl x * 4294967296 ≤ x := by rw [fl_def]; omega
theorem le_cl_mul (x : Int) : x ≤ cl x * 4294967296 := by rw [cl_def]; omega
theorem sT_out {lo hi : Int} (h : (sT lo hi).2 = 0) : (sT lo hi).1 = (lo, hi) := by
  unfold sT at h ⊢
  split <;> simp_all
theorem sMul_out {a b : Int × Int} (ha : okS a) (hb : okS b) (h : (sMul a b).2 = 0) : (sMul a b).1 = (min4 (fl (a.1 * b.1)) (fl (a.1 * b.2)) (fl (a.2 * b.1)) (fl (a.2 * b.2)), max4 (cl (a.1 * b.1)) (cl (a.1 * b.2)) (cl (a.2 * b.1)) (cl (a.2 * b.2))) := by
  have e : sMul a b = _ := on2_ok ha hb
  rw [e] at h ⊢
  exact sT_out h
theorem has_mul {a b : Int × Int} {p q p' q' : Int} (ha : okS a) (hb : okS b) (h : (sMul a b).2 = 0) (hq : 0 < q) (hq' : 0 < q') (h1 : has a p q) (h2 : has b p' q') : has (sMul a b).1 (p * p') (q * q' * 4294967296) := by
  rw [sMul_out ha hb h]
  have hqq : 0 < q * q' := Int.mul_pos hq hq'
  have hQ : 0 ≤ q * q' * 4294967296 := by omega
  constructor
  · obtain ⟨u, v, hu, hv, hl⟩ := mul_lo (a := (a.1 * q, a.2 * q)) (b := (b.1 * q', b.2 * q')) h1 h2
    have key : ∀ x y : Int, (x = a.1 ∨ x = a.2) → (y = b.1 ∨ y = b.2) → u = x * q → v = y * q' → min4 (fl (a.1 * b.1)) (fl (a.1 * b.2)) (fl (a.2 * b.1)) (fl (a.2 * b.2)) * (q * q' * 4294967296) ≤ p * p' := by
      intro x y hx hy eu ev
      have e1 : min4 (fl (a.1 * b.1)) (fl (a.1 * b.2)) (fl (a.2 * b.1)) (fl (a.2 * b.2)) ≤ fl (x * y) := by
        unfold min4
        rcases hx with rfl | rfl <;> rcases hy with rfl | rfl <;> omega
      have e2 := Int.mul_le_mul_of_nonneg_right e1 hQ
      have e3 := Int.mul_le_mul_of_nonneg_right (fl_mul_le (x * y)) (Int.le_of_lt hqq)
      have e4 : fl (x * y) * (q * q' * 4294967296) = fl (x * y) * 4294967296 * (q * q') := by
        rw [Int.mul_assoc (fl (x * y)), Int.mul_comm 4294967296]
      have e5 : x * y * (q * q') = u * v := by
        rw [eu, ev, Int.mul_assoc, Int.mul_assoc, Int.mul_left_comm y q q']
      omega
    rcases hu with hu | hu <;> rcases hv with hv | hv
    · exact key _ _ (.inl rfl) (.inl rfl) hu hv
    · exact key _ _ (.inl rfl) (.inr rfl) hu hv
    · exact key _ _ (.inr rfl) (.inl rfl) hu hv
    · exact key _ _ (.inr rfl) (.inr rfl) hu hv
  · obtain ⟨u, v, hu, hv, hl⟩ := mul_hi (a := (a.1 * q, a.2 * q)) (b := (b.1 * q', b.2 * q')) h1 h2
    have key : ∀ x y : Int, (x = a.1 ∨ x = a.2) → (y = b.1 ∨ y = b.2) → u = x * q → v = y * q' → p * p' ≤ max4 (cl (a.1 * b.1)) (cl (a.1 * b.2)) (cl (a.2 * b.1)) (cl (a.2 * b.2)) * (q * q' * 4294967296) := by
      intro x y hx hy eu ev
      have e1 : cl (x * y) ≤ max4 (cl (a.1 * b.1)) (cl (a.1 * b.2)) (cl (a.2 * b.1)) (cl (a.2 * b.2)) := by
        unfold max4
        rcases hx with rfl | rfl <;> rcases hy with rfl | rfl <;> omega
      have e2 := Int.mul_le_mul_of_nonneg_right e1 hQ
      have e3 := Int.mul_le_mul_of_nonneg_right (le_cl_mul (x * y)) (Int.le_of_lt hqq)
      have e4 : cl (x * y) * (q * q' * 4294967296) = cl (x * y) * 4294967296 * (q * q') := by
        rw [Int.mul_assoc (cl (x * y)), Int.mul_comm 4294967296]
      have e5 : x * y * (q * q') = u * v := by
        rw [eu, ev, Int.mul_assoc, Int.mul_assoc, Int.mul_left_comm y q q']
      omega
    rcases hu with hu | hu <;> rcases hv with hv | hv
    · exact key _ _ (.inl rfl) (.inl rfl) hu hv
    · exact key _ _ (.inl rfl) (.inr rfl) hu hv
    · exact key _ _ (.inr rfl) (.inl rfl) hu hv
    · exact key _ _ (.inr rfl) (.inr rfl) hu hv
theorem sAdd_out {a b : Int × Int} (ha : okS a) (hb : okS b) (h : (sAdd a b).2 = 0) : (sAdd a b).1 = (a.1 + b.1, a.2 + b.2) := by
  have e : sAdd a b = _ := on2_ok ha hb
  rw [e] at h ⊢
  exact sT_out h
theorem sSub_out {a b : Int × Int} (ha : okS a) (hb : okS b) (h : (sSub a b).2 = 0) : (sSub a b).1 = (a.1 - b.2, a.2 - b.1) := by
  have e : sSub a b = _ := on2_ok ha hb
  rw [e] at h ⊢
  exact sT_out h
theorem has_add {a b : Int × Int} {p p' q : Int} (ha : okS a) (hb : okS b) (h : (sAdd a b).2 = 0) (h1 : has a p q) (h2 : has b p' q) : has (sAdd a b).1 (p + p') q := by
  rw [sAdd_out ha hb h]
  unfold has at *
  simp only [Int.add_mul]
  omega
theorem has_sub {a b : Int × Int} {p p' q : Int} (ha : okS a) (hb : okS b) (h : (sSub a b).2 = 0) (h1 : has a p q) (h2 : has b p' q) : has (sSub a b).1 (p - p') q := by
  rw [sSub_out ha hb h]
  unfold has at *
  simp only [Int.sub_mul]
  omega
theorem has_sum {e q p0 p1 p2 : Int} {p : V3} (hp : okV p) (h : sumE e p = 0) (h0 : has p.1 p0 q) (h1 : has p.2.1 p1 q) (h2 : has p.2.2 p2 q) : has (sum3 p) (p0 + p1 + p2) q := by
  unfold sumE at h
  rw [fst2_nil, fst2_nil] at h
  exact has_add (sAdd_okS _ _) hp.2.2 h.2 (has_add hp.1 hp.2.1 h.1.2 h0 h1) h2
theorem cross_sum (a b c x y z : Int) : a * (b * z - c * y) + b * (c * x - a * z) + c * (a * y - b * x) = 0 := by
  simp only [Int.mul_sub]
  have e1 : b * (c * x) = c * (b * x) := Int.mul_left_comm _ _ _
  have e2 : a * (b * z) = b * (a * z) := Int.mul_left_comm _ _ _
  have e3 : a * (c * y) = c * (a * y) := Int.mul_left_comm _ _ _
  omega
/-- A vector is at a right angle with its cross product. -/
theorem cross_right {a b : V3} (ha : okV a) (hb : okV b) (h : (vCross a b).2 = 0) (k : (vDot a (vCross a b).1).2 = 0) : (vDot a (vCross a b).1).1.1 ≤ 0 ∧ 0 ≤ (vDot a (vCross a b).1).1.2 := by
  have h' : err3 sSub (err3 sMul (err3 sMul (vNote (vNote 0 a) b) (turnV a) (turnV (turnV b))) (turnV (turnV a)) (turnV b)) (crP a b) (crQ a b) = 0 := toldV_nil.1 h
  have hc : (vCross a b).1 = each3 sSub (crP a b) (crQ a b) := by
    unfold vCross
    rw [toldV_of h']
  rw [hc] at k ⊢
  rw [err3_nil, err3_nil, err3_nil] at h'
  obtain ⟨⟨⟨-, p1, p2, p3⟩, q1, q2, q3⟩, s1, s2, s3⟩ := h'
  have k' : dotE (vNote (vNote 0 a) (each3 sSub (crP a b) (crQ a b))) a (each3 sSub (crP a b) (crQ a b)) = 0 := toldS_nil.1 k
  have hd : (vDot a (each3 sSub (crP a b) (crQ a b))).1 = dotS a (each3 sSub (crP a b) (crQ a b)) := by
    unfold vDot
    rw [toldS_of k']
  rw [hd]
  have k2 := k'
  unfold dotE sumE at k2
  rw [fst2_nil, fst2_nil, err3_nil] at k2
  obtain ⟨⟨⟨-, t1, t2, t3⟩, -⟩, -⟩ := k2
  have a1 := has_one ha.1
  have a2 := has_one ha.2.1
  have a3 := has_one ha.2.2
  have b1 := has_one hb.1
  have b2 := has_one hb.2.1
  have b3 := has_one hb.2.2
  have one : (0 : Int) < 1 := by decide
  have P1 : has (crP a b).1 _ _ := has_mul ha.2.1 hb.2.2 p1 one one a2 b3
  have P2 : has (crP a b).2.1 _ _ := has_mul ha.2.2 hb.1 p2 one one a3 b1
  have P3 : has (crP a b).2.2 _ _ := has_mul ha.1 hb.2.1 p3 one one a1 b2
  have Q1 : has (crQ a b).1 _ _ := has_mul ha.2.2 hb.2.1 q1 one one a3 b2
  have Q2 : has (crQ a b).2.1 _ _ := has_mul ha.1 hb.2.2 q2 one one a1 b3
  have Q3 : has (crQ a b).2.2 _ _ := has_mul ha.2.1 hb.1 q3 one one a2 b1
  have okP : okV (crP a b) := each3_okV sMul_okS _ _
  have okQ : okV (crQ a b) := each3_okV sMul_okS _ _
  have okC : okV (each3 sSub (crP a b) (crQ a b)) := each3_okV sSub_okS _ _
  have S1 := has_sub okP.1 okQ.1 s1 P1 Q1
  have S2 := has_sub okP.2.1 okQ.2.1 s2 P2 Q2
  have S3 := has_sub okP.2.2 okQ.2.2 s3 P3 Q3
  have big : (0 : Int) < 1 * 1 * 4294967296 := by decide
  have T1 := has_mul ha.1 okC.1 t1 one big a1 S1
  have T2 := has_mul ha.2.1 okC.2.1 t2 one big a2 S2
  have T3 := has_mul ha.2.2 okC.2.2 t3 one big a3 S3
  have Z := has_sum (p := each3 sMul a (each3 sSub (crP a b) (crQ a b))) (each3_okV sMul_okS _ _) k' T1 T2 T3
  rw [cross_sum] at Z
  unfold has at Z
  unfold dotS
  omega
theorem sq_le {x y : Int} (h0 : 0 ≤ x) (h : x ≤ y) : x * x ≤ y * y := Int.mul_le_mul h h h0 (Int.le_trans h0 h)
theorem le_of_sq {x y : Int} (h0 : 0 ≤ y) (h : x * x ≤ y * y) : x ≤ y := by
  rcases Int.lt_or_le y x with g | g
  · have e : y * y < x * x := Int.lt_of_le_of_lt (Int.mul_le_mul_of_nonneg_left (Int.le_of_lt g) h0) (Int.mul_lt_mul_of_pos_right g (Int.lt_of_le_of_lt h0 g))
    omega
  · exact g
theorem mul_sq (x q : Int) : x * x * (q * q) = (x * q) * (x * q) := by
  rw [Int.mul_assoc, Int.mul_assoc, Int.mul_left_comm x q q]
/-- The square of an interval contains the squares of its numbers. -/
theorem sq_has {a : Int × Int} {p q : Int} (ha : okS a) (h : (sPow a 2).2 = 0) (hq : 0 < q) (h1 : has a p q) : (sPow a 2).1.1 * 4294967296 * (q * q) ≤ p * p ∧ p * p ≤ (sPow a 2).1.2 * 4294967296 * (q * q) ∧ 0 ≤ (sPow a 2).1.1 := by
  rw [sPow_two ha, sAbs_val ha] at h ⊢
  rw [sT_out h]
  simp only at h ⊢
  have hqq : 0 < q * q := Int.mul_pos hq hq
  obtain ⟨l1, l2⟩ := h1
  have e0 := ha.2.1
  generalize hlo : max (max a.1 (-a.2)) 0 = lo at *
  generalize hhi : max a.2 (-a.1) = hi at *
  have ab : 0 ≤ lo * q ∧ lo * q ≤ max p (-p) ∧ max p (-p) ≤ hi * q := by
    have z : ∀ x y : Int, x ≤ y → x * q ≤ y * q := fun x y h => Int.mul_le_mul_of_nonneg_right h (Int.le_of_lt hq)
    have n1 : -a.2 * q = -(a.2 * q) := Int.neg_mul _ _
    have n2 : -a.1 * q = -(a.1 * q) := Int.neg_mul _ _
    have z0 := z 0 lo (by omega)
    rw [Int.zero_mul] at z0
    have z1 := z a.2 hi (by omega)
    have z2 := z (-a.1) hi (by omega)
    refine ⟨z0, ?_, by omega⟩
    by_cases g : lo = 0
    · subst g
      omega
    · rcases (show lo = a.1 ∨ lo = -a.2 by omega) with g | g
      · rw [g]; omega
      · rw [g]; omega
  have pp : p * p = max p (-p) * max p (-p) := by
    by_cases g : 0 ≤ p
    · rw [show max p (-p) = p by omega]
    · rw [show max p (-p) = -p by omega, Int.neg_mul_neg]
  refine ⟨?_, ?_, ?_⟩
  · have := Int.mul_le_mul_of_nonneg_right (fl_mul_le (lo * lo)) (Int.le_of_lt hqq)
    rw [mul_sq] at this
    have := sq_le ab.1 ab.2.1
    omega
  · have := Int.mul_le_mul_of_nonneg_right (le_cl_mul (hi * hi)) (Int.le_of_lt hqq)
    rw [mul_sq] at this
    have := sq_le (x := max p (-p)) (by omega) ab.2.2
    omega
  · have : 0 ≤ lo * lo := Int.mul_nonneg (by omega) (by omega)
    rw [fl_def]
    omega
theorem sqrt_out {a : Int × Int} (ha : okS a) (h : (sSqrt a).2 = 0) : 0 ≤ a.1 ∧ 0 ≤ (sSqrt a).1.1 ∧ (sSqrt a).1.1 * (sSqrt a).1.1 ≤ a.1 * 4294967296 ∧ a.2 * 4294967296 ≤ (sSqrt a).1.2 * (sSqrt a).1.2 ∧ (sSqrt a).1.1 ≤ (sSqrt a).1.2 := by
  by_cases h0 : 0 ≤ a.1
  · rw [sSqrt_ok ha h0]
    have h1 := rtDown_le (a.1.toNat * 4294967296)
    have h2 := rtUp_ge (a.2.toNat * 4294967296)
    have e0 := ha.2.1
    have h3 := rtOf_pair (m := a.1.toNat * 4294967296) (n := a.2.toNat * 4294967296) (Nat.mul_le_mul_right _ (by omega))
    dsimp only
    refine ⟨h0, by omega, ?_, ?_, by omega⟩
    · have := Int.ofNat_le.2 h1
      rw [Int.natCast_mul, Int.natCast_mul, Int.toNat_of_nonneg h0] at this
      exact this
    · have := Int.ofNat_le.2 h2
      rw [Int.natCast_mul, Int.natCast_mul, Int.toNat_of_nonneg (by omega)] at this
      exact this
  · rw [sSqrt_neg ha h0] at h
    simp at h
theorem sum_out {e : Int} {p : V3} (hp : okV p) (h : sumE e p = 0) : sum3 p = (p.1.1 + p.2.1.1 + p.2.2.1, p.1.2 + p.2.1.2 + p.2.2.2) := by
  unfold sumE at h
  rw [fst2_nil, fst2_nil] at h
  unfold sum3
  rw [sAdd_out (sAdd_okS _ _) hp.2.2 h.2, sAdd_out hp.1 hp.2.1 h.1.2]
/-- The norm's interval, around the root of a sum of squares. -/
theorem norm_has {e p0 p1 p2 q : Int} {a : V3} (ha : okV a) (h : normE e a = 0) (hq : 0 < q) (h0 : has a.1 p0 q) (h1 : has a.2.1 p1 q) (h2 : has a.2.2 p2 q) :
    0 ≤ (normS a).1 ∧ (normS a).1 ≤ (normS a).2 ∧ (normS a).1 * (normS a).1 * (q * q) ≤ p0 * p0 + p1 * p1 + p2 * p2 ∧ p0 * p0 + p1 * p1 + p2 * p2 ≤ (normS a).2 * (normS a).2 * (q * q) := by
  unfold normE at h
  rw [fst2_nil] at h
  obtain ⟨hs, hr⟩ := h
  have hs2 := hs
  unfold sumE at hs2
  rw [fst2_nil, fst2_nil, err3_nil] at hs2
  obtain ⟨⟨⟨-, x0, x1, x2⟩, -⟩, -⟩ := hs2
  obtain ⟨l0, u0, z0⟩ := sq_has ha.1 x0 hq h0
  obtain ⟨l1, u1, z1⟩ := sq_has ha.2.1 x1 hq h1
  obtain ⟨l2, u2, z2⟩ := sq_has ha.2.2 x2 hq h2
  have hv : each3 sqrF a a = ((sPow a.1 2).1, (sPow a.2.1 2).1, (sPow a.2.2 2).1) := rfl
  have ho := sum_out (each3_okV nrw_sqr.okr a a) hs
  obtain ⟨r0, r1, r2, r3, r4⟩ := sqrt_out (sum3_okS _) hr
  have hqq : 0 < q * q := Int.mul_pos hq hq
  unfold normS
  rw [ho, hv] at *
  simp only at *
  refine ⟨r1, r4, ?_, ?_⟩
  · have := Int.mul_le_mul_of_nonneg_right r2 (Int.le_of_lt hqq)
    simp only [Int.add_mul] at this
    omega
  · have := Int.mul_le_mul_of_nonneg_right r3 (Int.le_of_lt hqq)
    simp only [Int.add_mul] at this
    omega
theorem vNorm_out {a : V3} (h : (vNorm a).2 = 0) : normE (vNote 0 a) a = 0 ∧ (vNorm a).1 = normS a := by
  have e : normE (vNote 0 a) a = 0 := toldS_nil.1 h
  refine ⟨e, ?_⟩
  unfold vNorm
  rw [toldS_of e]
theorem cauchy (a b c x y z : Int) : (a * x + b * y + c * z) * (a * x + b * y + c * z) ≤ (a * a + b * b + c * c) * (x * x + y * y + z * z) := by
  have sq : ∀ t : Int, 0 ≤ t * t := fun t => by
    rcases Int.le_total 0 t with g | g
    · exact Int.mul_nonneg g g
    · exact Int.mul_nonneg_of_nonpos_of_nonpos g g
  have s1 := sq (a * y - b * x)
  have s2 := sq (a * z - c * x)
  have s3 := sq (b * z - c * y)
  have r : ∀ p q s t : Int, (p * q) * (s * t) = (p * s) * (q * t) := fun p q s t => by
    rw [Int.mul_assoc, Int.mul_assoc, Int.mul_left_comm q s t]
  have r' : ∀ p q s t : Int, (p * q) * (s * t) = (p * t) * (s * q) := fun p q s t => by
    rw [Int.mul_comm s t, r, Int.mul_comm q s]
  simp only [Int.sub_mul, Int.mul_sub, Int.add_mul, Int.mul_add] at *
  have e1 := r a y a y
  have e2 := r' a y b x
  have e3 := r' b x a y
  have e4 := r b x b x
  have e5 := r a z a z
  have e6 := r' a z c x
  have e7 := r' c x a z
  have e8 := r c x c x
  have e9 := r b z b z
  have e10 := r' b z c y
  have e11 := r' c y b z
  have e12 := r c y c y
  have f1 := r a x a x
  have f2 := r b y b y
  have f3 := r c z c z
  omega
/-- The norm of a sum is not greater than the sum of the norms. -/
theorem norm_sum {a b : V3} (ha : okV a) (hb : okV b) (h1 : (vNorm a).2 = 0) (h2 : (vNorm b).2 = 0) (h3 : (vAdd a b).2 = 0) (h4 : (vNorm (vAdd a b).1).2 = 0) : (vNorm (vAdd a b).1).1.1 ≤ (vNorm a).1.2 + (vNorm b).1.2 := by
  obtain ⟨n1, e1⟩ := vNorm_out h1
  obtain ⟨n2, e2⟩ := vNorm_out h2
  obtain ⟨n4, e4⟩ := vNorm_out h4
  have h3' := h3
  unfold vAdd vOp at h3'
  rw [toldV_nil] at h3'
  have hs : (vAdd a b).1 = each3 sAdd a b := by
    unfold vAdd vOp
    rw [toldV_of h3']
  rw [err3_nil] at h3'
  obtain ⟨-, y0, y1, y2⟩ := h3'
  rw [e1, e2, e4]
  rw [hs] at n4 ⊢
  have one : (0 : Int) < 1 := by decide
  obtain ⟨A0, A1, -, A2⟩ := norm_has ha n1 one (has_one ha.1) (has_one ha.2.1) (has_one ha.2.2)
  obtain ⟨B0, B1, -, B2⟩ := norm_has hb n2 one (has_one hb.1) (has_one hb.2.1) (has_one hb.2.2)
  obtain ⟨C0, -, C2, -⟩ := norm_has (each3_okV sAdd_okS a b) n4 one (has_add ha.1 hb.1 y0 (has_one ha.1) (has_one hb.1)) (has_add ha.2.1 hb.2.1 y1 (has_one ha.2.1) (has_one hb.2.1)) (has_add ha.2.2 hb.2.2 y2 (has_one ha.2.2) (has_one hb.2.2))
  generalize (normS (each3 sAdd a b)).1 = l at *
  generalize (normS a).2 = m at *
  generalize (normS b).2 = n at *
  generalize a.1.1 = p0 at *
  generalize a.2.1.1 = p1 at *
  generalize a.2.2.1 = p2 at *
  generalize b.1.1 = q0 at *
  generalize b.2.1.1 = q1 at *
  generalize b.2.2.1 = q2 at *
  have hm : 0 ≤ m := Int.le_trans A0 A1
  have hn : 0 ≤ n := Int.le_trans B0 B1
  rw [Int.mul_one, Int.mul_one] at A2 B2 C2
  have c := cauchy p0 p1 p2 q0 q1 q2
  have c2 : (p0 * p0 + p1 * p1 + p2 * p2) * (q0 * q0 + q1 * q1 + q2 * q2) ≤ (m * m) * (n * n) := by
    have sq : ∀ t : Int, 0 ≤ t * t := fun t => by
      rcases Int.le_total 0 t with g | g
      · exact Int.mul_nonneg g g
      · exact Int.mul_nonneg_of_nonpos_of_nonpos g g
    exact Int.mul_le_mul A2 B2 (by have := sq q0; have := sq q1; have := sq q2; omega) (sq m)
  have c3 : p0 * q0 + p1 * q1 + p2 * q2 ≤ m * n := le_of_sq (Int.mul_nonneg hm hn) (by rw [← mul_sq]; exact Int.le_trans c c2)
  refine le_of_sq (by omega) ?_
  have x1 := Int.mul_comm p0 q0
  have x2 := Int.mul_comm p1 q1
  have x3 := Int.mul_comm p2 q2
  have x4 := Int.mul_comm m n
  simp only [Int.add_mul, Int.mul_add] at *
  omega
/-- The square of the norm and the dot product with itself have a number in common. -/
theorem norm_meet {a : V3} (ha : okV a) (h1 : (vNorm a).2 = 0) (h2 : (vDot a a).2 = 0) (h3 : (sPow (vNorm a).1 2).2 = 0) : (sMeet (sPow (vNorm a).1 2).1 (vDot a a).1).2 = 0 := by
  obtain ⟨n1, e1⟩ := vNorm_out h1
  rw [e1] at h3 ⊢
  have d1 : dotE (vNote (vNote 0 a) a) a a = 0 := toldS_nil.1 h2
  have d2 : (vDot a a).1 = dotS a a := by unfold vDot; rw [toldS_of d1]
  rw [d2]
  have d3 := d1
  unfold dotE sumE at d3
  rw [fst2_nil, fst2_nil, err3_nil] at d3
  obtain ⟨⟨⟨-, y0, y1, y2⟩, -⟩, -⟩ := d3
  obtain ⟨x0, i0⟩ := sSqr_in ha.1 y0
  obtain ⟨x1, i1⟩ := sSqr_in ha.2.1 y1
  obtain ⟨x2, i2⟩ := sSqr_in ha.2.2 y2
  obtain ⟨-, i3⟩ := sum_in (p := each3 sMul a a) (p' := each3 sqrF a a) (e' := 0) (each3_okV sMul_okS _ _) (each3_okV nrw_sqr.okr _ _) ⟨i0, i1, i2⟩ (fun _ => rfl) d1
  have n2 := n1
  unfold normE at n2
  rw [fst2_nil] at n2
  obtain ⟨r0, r1, r2, r3, r4⟩ := sqrt_out (sum3_okS _) n2.2
  have okn := normS_okS a
  have hn : normS a = (sSqrt (sum3 (each3 sqrF a a))).1 := rfl
  have okm := sPow2_okS (normS a)
  have okd : okS (dotS a a) := sum3_okS _
  have hsq : (sPow (normS a) 2).1.1 ≤ (sum3 (each3 sqrF a a)).1 ∧ (sum3 (each3 sqrF a a)).2 ≤ (sPow (normS a) 2).1.2 := by
    rw [sPow_two okn, sAbs_val okn] at h3 ⊢
    rw [sT_out h3]
    rw [← hn] at r1 r2 r3 r4
    simp only
    rw [show max (max (normS a).1 (-(normS a).2)) 0 = (normS a).1 by omega, show max (normS a).2 (-(normS a).1) = (normS a).2 by omega, fl_def, cl_def]
    omega
  have okT := sum3_okS (each3 sqrF a a)
  have e : sMeet (sPow (normS a) 2).1 (dotS a a) = _ := on2_ok okm okd
  have ht := okT.2.1
  have i3' : (dotS a a).1 ≤ (sum3 (each3 sqrF a a)).1 ∧ (sum3 (each3 sqrF a a)).2 ≤ (dotS a a).2 := i3
  rw [e, if_pos (by omega)]
theorem div_has {a n : Int × Int} {y : Int} (ha : okS a) (hn : okS n) (h : (sDiv a n).2 = 0) (h0 : 0 < n.1) (hy : n.1 ≤ y ∧ y ≤ n.2) : has (sDiv a n).1 (a.1 * 4294967296) y := by
  have e : sDiv a n = _ := on2_ok ha hn
  have hz : ¬ (n.1 ≤ 0 ∧ 0 ≤ n.2) := by omega
  rw [e] at h ⊢
  rw [if_neg hz] at h ⊢
  rw [sT_out h]
  have c1 := (dv_corner false (a := a) (b := n) (x := a.1) (y := y) hz hy ⟨Int.le_refl _, ha.2.1⟩).1
  have c2 := (dv_corner true (a := a) (b := n) (x := a.1) (y := y) hz hy ⟨Int.le_refl _, ha.2.1⟩).2
  have hy0 : 0 < y := by omega
  rw [dv_pos _ _ hy0] at c1 c2
  have q1 : rnd false (a.1 * 4294967296) y * y ≤ a.1 * 4294967296 := Int.ediv_mul_le _ (by omega)
  have q2 : a.1 * 4294967296 ≤ rnd true (a.1 * 4294967296) y * y := by
    have : (-(a.1 * 4294967296)) / y * y ≤ -(a.1 * 4294967296) := Int.ediv_mul_le _ (by omega)
    have e2 : rnd true (a.1 * 4294967296) y * y = -((-(a.1 * 4294967296)) / y * y) := by
      show -((-(a.1 * 4294967296)) / y) * y = _
      rw [Int.neg_mul]
    omega
  constructor
  · exact Int.le_trans (Int.mul_le_mul_of_nonneg_right c1 (by omega)) q1
  · exact Int.le_trans q2 (Int.mul_le_mul_of_nonneg_right c2 (by omega))
theorem sDiv_zero {a n : Int × Int} (ha : okS a) (hn : okS n) (h : (sDiv a n).2 = 0) : ¬ (n.1 ≤ 0 ∧ 0 ≤ n.2) := by
  intro g
  have e : sDiv a n = _ := on2_ok ha hn
  rw [e, if_pos g] at h
  simp at h
/-- The norm of the unit vector contains 1. -/
theorem unit_one {a : V3} (ha : okV a) (h : (vUnit a).2 = 0) (k : (vNorm (vUnit a).1).2 = 0) : (vNorm (vUnit a).1).1.1 ≤ 4294967296 ∧ 4294967296 ≤ (vNorm (vUnit a).1).1.2 := by
  have h1 : err3 sDiv (normE (vNote 0 a) a) a (alikeV (normS a)) = 0 := toldV_nil.1 h
  have hu : (vUnit a).1 = each3 sDiv a (alikeV (normS a)) := by unfold vUnit; rw [toldV_of h1]
  rw [err3_nil] at h1
  obtain ⟨n1, d0, d1, d2⟩ := h1
  obtain ⟨n4, e4⟩ := vNorm_out k
  rw [e4]
  rw [hu] at n4 ⊢
  have one : (0 : Int) < 1 := by decide
  obtain ⟨A0, A1, A2, A3⟩ := norm_has ha n1 one (has_one ha.1) (has_one ha.2.1) (has_one ha.2.2)
  have okn := normS_okS a
  have hz := sDiv_zero ha.1 okn d0
  have n0 : 0 < (normS a).1 := by omega
  have okU := each3_okV sDiv_okS a (alikeV (normS a))
  obtain ⟨-, -, L, -⟩ := norm_has okU n4 (show 0 < (normS a).2 by omega) (div_has ha.1 okn d0 n0 ⟨A1, Int.le_refl _⟩) (div_has ha.2.1 okn d1 n0 ⟨A1, Int.le_refl _⟩) (div_has ha.2.2 okn d2 n0 ⟨A1, Int.le_refl _⟩)
  obtain ⟨U0, U1, -, U⟩ := norm_has okU n4 n0 (div_has ha.1 okn d0 n0 ⟨Int.le_refl _, A1⟩) (div_has ha.2.1 okn d1 n0 ⟨Int.le_refl _, A1⟩) (div_has ha.2.2 okn d2 n0 ⟨Int.le_refl _, A1⟩)
  generalize (normS (each3 sDiv a (alikeV (normS a)))).1 = l at *
  generalize (normS (each3 sDiv a (alikeV (normS a)))).2 = u at *
  generalize (normS a).1 = m at *
  generalize (normS a).2 = n at *
  generalize a.1.1 = p0 at *
  generalize a.2.1.1 = p1 at *
  generalize a.2.2.1 = p2 at *
  rw [Int.mul_one, Int.mul_one] at A2 A3
  have s : ∀ x : Int, x * 4294967296 * (x * 4294967296) = x * x * 18446744073709551616 := fun x => by
    rw [← mul_sq]
    rfl
  rw [s, s, s] at L U
  rw [mul_sq] at L U
  have s2 : ∀ x : Int, (4294967296 * x) * (4294967296 * x) = x * x * 18446744073709551616 := fun x => by rw [Int.mul_comm 4294967296, s]
  constructor
  · have : l * n ≤ 4294967296 * n := le_of_sq (by omega) (by rw [s2]; omega)
    exact Int.le_of_mul_le_mul_right this (by omega)
  · have : 4294967296 * m ≤ u * m := le_of_sq (Int.mul_nonneg (by omega) (by omega)) (by rw [s2]; omega)
    exact Int.le_of_mul_le_mul_right this n0
theorem vNorm_okS (a : V3) : okS (vNorm a).1 := by
  unfold vNorm toldS
  split
  · exact normS_okS a
  · exact okS_zero
end Mnc
