/- Plain: the mean value theorem of PolyMeans, by a quadrature with positive weights that is exact for the degrees that occur. No program here. -/
import Derived.Test.YtgfofilkpaelnaaPl
namespace Mnc
open Go

/-- The value of a polynomial, times N to the number of its coefficients. -/
def hv (N X : Int) : List Int → Int
  | [] => 0
  | c :: r => hv N X r * X + c * N ^ (r.length + 1)

theorem cont_mul {D E h x : Int} {v s : Int × Int} (hD : 0 < D) (hE : 0 < E) (hv : okS v) (hs : okS s) (h1 : v.1 * D ≤ h ∧ h ≤ v.2 * D) (h2 : s.1 * E ≤ x ∧ x ≤ s.2 * E) (h0 : (sMul v s).2 = 0) :
    (sMul v s).1.1 * (D * (E * 4294967296)) ≤ h * x ∧ h * x ≤ (sMul v s).1.2 * (D * (E * 4294967296)) := by
  have hDE : 0 ≤ D * E := Int.le_of_lt (Int.mul_pos hD hE)
  rw [sMul, on2_ok hv hs] at h0 ⊢
  generalize hm : min4 (fl (v.1 * s.1)) (fl (v.1 * s.2)) (fl (v.2 * s.1)) (fl (v.2 * s.2)) = m at *
  generalize hM : max4 (cl (v.1 * s.1)) (cl (v.1 * s.2)) (cl (v.2 * s.1)) (cl (v.2 * s.2)) = M at *
  by_cases k : -4503599627370496 ≤ m ∧ M ≤ 4503599627370496
  · rw [sT_ok k.1 k.2]
    constructor
    · obtain ⟨p, q, hp, hq, hle⟩ := mul_lo (a := (v.1 * D, v.2 * D)) (b := (s.1 * E, s.2 * E)) h1 h2
      obtain ⟨u, hu, rfl⟩ : ∃ u, (u = v.1 ∨ u = v.2) ∧ p = u * D := by
        rcases hp with rfl | rfl
        · exact ⟨v.1, .inl rfl, rfl⟩
        · exact ⟨v.2, .inr rfl, rfl⟩
      obtain ⟨z, hz, rfl⟩ : ∃ z, (z = s.1 ∨ z = s.2) ∧ q = z * E := by
        rcases hq with rfl | rfl
        · exact ⟨s.1, .inl rfl, rfl⟩
        · exact ⟨s.2, .inr rfl, rfl⟩
      have h3 : m ≤ fl (u * z) := by
        rw [← hm]
        unfold min4
        rcases hu with rfl | rfl <;> rcases hz with rfl | rfl <;> omega
      have h4 : m * 4294967296 ≤ u * z := by
        rw [fl_def] at h3
        omega
      have h5 := Int.mul_le_mul_of_nonneg_right h4 hDE
      have e1 : m * (D * (E * 4294967296)) = m * 4294967296 * (D * E) := by ac_rfl
      have e2 : u * D * (z * E) = u * z * (D * E) := by ac_rfl
      show m * (D * (E * 4294967296)) ≤ h * x
      rw [e1]
      rw [e2] at hle
      omega
    · obtain ⟨p, q, hp, hq, hle⟩ := mul_hi (a := (v.1 * D, v.2 * D)) (b := (s.1 * E, s.2 * E)) h1 h2
      obtain ⟨u, hu, rfl⟩ : ∃ u, (u = v.1 ∨ u = v.2) ∧ p = u * D := by
        rcases hp with rfl | rfl
        · exact ⟨v.1, .inl rfl, rfl⟩
        · exact ⟨v.2, .inr rfl, rfl⟩
      obtain ⟨z, hz, rfl⟩ : ∃ z, (z = s.1 ∨ z = s.2) ∧ q = z * E := by
        rcases hq with rfl | rfl
        · exact ⟨s.1, .inl rfl, rfl⟩
        · exact ⟨s.2, .inr rfl, rfl⟩
      have h3 : cl (u * z) ≤ M := by
        rw [← hM]
        unfold max4
        rcases hu with rfl | rfl <;> rcases hz with rfl | rfl <;> omega
      have h4 : u * z ≤ M * 4294967296 := by
        rw [cl_def] at h3
        omega
      have h5 := Int.mul_le_mul_of_nonneg_right h4 hDE
      have e1 : M * (D * (E * 4294967296)) = M * 4294967296 * (D * E) := by ac_rfl
      have e2 : u * D * (z * E) = u * z * (D * E) := by ac_rfl
      show h * x ≤ M * (D * (E * 4294967296))
      rw [e1]
      rw [e2] at hle
      omega
  · rw [sT_bad k] at h0
    exact absurd h0 (by decide)

def pt (a : Int) : Int × Int := (a, a)
def nN : Int := 25769803776
theorem nN_pos (k : Nat) : 0 < nN ^ k := Int.pow_pos (by decide)

theorem cont_acc {s : Int × Int} (hs : okS s) {X : Int} (hX : s.1 * 6 ≤ X ∧ X ≤ s.2 * 6) : ∀ l : List Int, (∀ c ∈ l, ok c) → (pAcc s (l.map pt)).2 = 0 →
    (pAcc s (l.map pt)).1.1 * nN ^ l.length ≤ hv nN X l ∧ hv nN X l ≤ (pAcc s (l.map pt)).1.2 * nN ^ l.length
  | [], _, _ => by simp [pAcc, hv]
  | c :: r, hl, h0 => by
    have hc : ok c := hl c (by simp)
    have hc' : okS (pt c) := ⟨hc.1, Int.le_refl _, hc.2⟩
    have e : pAcc s ((c :: r).map pt) = if (pAcc s (r.map pt)).2 = 0 then pStep s (pAcc s (r.map pt)).1 (pt c) else pAcc s (r.map pt) := rfl
    rw [e] at h0 ⊢
    by_cases hz : (pAcc s (r.map pt)).2 = 0
    · rw [if_pos hz] at h0 ⊢
      have ih := cont_acc hs hX r (fun x hx => hl x (by simp [hx])) hz
      have hv' := pAcc_okS s (r.map pt)
      generalize (pAcc s (r.map pt)).1 = v at *
      unfold pStep at h0 ⊢
      by_cases hm : (sMul v s).2 = 0
      · rw [if_pos hm] at h0 ⊢
        have hk := cont_mul (nN_pos r.length) (show (0 : Int) < 6 by decide) hv' hs ih hX hm
        have hmo := sMul_okS v s
        generalize (sMul v s).1 = m at *
        rw [sAdd, on2_ok hmo hc'] at h0 ⊢
        by_cases k : -4503599627370496 ≤ m.1 + (pt c).1 ∧ m.2 + (pt c).2 ≤ 4503599627370496
        · rw [sT_ok k.1 k.2]
          have e1 : nN ^ r.length * (6 * 4294967296) = nN ^ (r.length + 1) := by rw [Int.pow_succ]; rfl
          rw [e1] at hk
          show (m.1 + c) * nN ^ (r.length + 1) ≤ hv nN X r * X + c * nN ^ (r.length + 1) ∧ hv nN X r * X + c * nN ^ (r.length + 1) ≤ (m.2 + c) * nN ^ (r.length + 1)
          rw [Int.add_mul, Int.add_mul]
          omega
        · rw [sT_bad k] at h0
          exact absurd h0 (by decide)
      · rw [if_neg hm] at h0
        exact absurd h0 hm
    · rw [if_neg hz] at h0
      exact absurd h0 hz

/-- The coefficients of the derivative. -/
def dl : List Int → List Int
  | [] => []
  | _ :: r => r.mapIdx fun k c => c * ((k : Int) + 1)

/-- The quadrature. -/
def qd (f : Int → Int) (s h : Int) : Int := 41 * f (6 * s) + 216 * f (6 * s + h) + 27 * f (6 * s + 2 * h) + 272 * f (6 * s + 3 * h) + 27 * f (6 * s + 4 * h) + 216 * f (6 * s + 5 * h) + 41 * f (6 * s + 6 * h)

theorem quad (N s h : Int) (l : List Int) (h8 : l.length ≤ 8) : 840 * (hv N (6 * (s + h)) l - hv N (6 * s) l) = 6 * h * qd (fun X => hv N X (dl l)) s h := by
  match l, h8 with
  | [], _ => simp [hv, dl, qd]
  | [a], _ => simp [hv, dl, qd]
  | [a, b], _ => simp [hv, dl, qd]; grind
  | [a, b, c], _ => simp [hv, dl, qd]; grind
  | [a, b, c, d], _ => simp [hv, dl, qd]; grind
  | [a, b, c, d, e], _ => simp [hv, dl, qd]; grind
  | [a, b, c, d, e, f], _ => simp [hv, dl, qd]; grind
  | [a, b, c, d, e, f, g], _ => simp [hv, dl, qd]; grind
  | [a, b, c, d, e, f, g, i], _ => simp [hv, dl, qd]; grind
  | _ :: _ :: _ :: _ :: _ :: _ :: _ :: _ :: _ :: _, h => simp at h
end Mnc
namespace Mnc
open Go

theorem dl_len (c : Int) (r : List Int) : (dl (c :: r)).length = r.length := by simp [dl]
theorem dl_pts (c : Int) (r : List Int) (hr : ∀ x ∈ r, -137438953472 ≤ x ∧ x ≤ 137438953472) (h8 : r.length ≤ 8) : (pScA (r.map pt) 0 []).2 = 0 ∧ (pScA (r.map pt) 0 []).1 = (dl (c :: r)).map pt := by
  obtain ⟨g1, g2⟩ := pScA_small (r.map pt) 0 [] (by simp; omega) (fun x hx => by
    obtain ⟨y, hy, rfl⟩ := List.mem_map.1 hx
    have := hr y hy
    exact ⟨⟨by simp [pt]; omega, Int.le_refl _, by simp [pt]; omega⟩, this.1, this.2⟩)
  refine ⟨g1, ?_⟩
  rw [g2, List.nil_append]
  refine List.ext_getElem? (fun k => ?_)
  simp only [dl, List.getElem?_map, List.getElem?_mapIdx, Option.map_map, Nat.add_zero]
  cases r[k]? <;> rfl
theorem dl_ok (c : Int) (r : List Int) (hr : ∀ x ∈ r, -137438953472 ≤ x ∧ x ≤ 137438953472) (h8 : r.length ≤ 8) : ∀ x ∈ dl (c :: r), ok x := by
  intro x hx
  obtain ⟨k, hk⟩ := List.mem_iff_getElem?.1 hx
  simp only [dl, List.getElem?_mapIdx] at hk
  cases hy : r[k]? with
  | none => simp [hy] at hk
  | some y =>
    rw [hy] at hk
    simp only [Option.map_some, Option.some.injEq] at hk
    subst hk
    have hkl := (List.getElem?_eq_some_iff.1 hy).1
    obtain ⟨y4, y5⟩ := hr y (List.mem_of_getElem? hy)
    have hn : 0 ≤ (k : Int) + 1 ∧ (k : Int) + 1 ≤ 8 := by omega
    generalize (k : Int) + 1 = n at hn
    have a2 := Int.mul_le_mul_of_nonneg_right y4 hn.1
    have a3 := Int.mul_le_mul_of_nonneg_right y5 hn.1
    unfold ok
    omega

theorem qd_le {f : Int → Int} {s h lo hi D : Int} (hf : ∀ i : Int, 0 ≤ i → i ≤ 6 → lo * D ≤ f (6 * s + i * h) ∧ f (6 * s + i * h) ≤ hi * D) : 840 * (lo * D) ≤ qd f s h ∧ qd f s h ≤ 840 * (hi * D) := by
  have h0 := hf 0 (by omega) (by omega)
  have h1 := hf 1 (by omega) (by omega)
  have h2 := hf 2 (by omega) (by omega)
  have h3 := hf 3 (by omega) (by omega)
  have h4 := hf 4 (by omega) (by omega)
  have h5 := hf 5 (by omega) (by omega)
  have h6 := hf 6 (by omega) (by omega)
  rw [Int.zero_mul, Int.add_zero] at h0
  rw [Int.one_mul] at h1
  unfold qd
  omega

theorem point_in {s t : Int} (i : Int) (h0 : 0 ≤ i) (h6 : i ≤ 6) : min s t * 6 ≤ 6 * s + i * (t - s) ∧ 6 * s + i * (t - s) ≤ max s t * 6 := by
  obtain rfl | rfl | rfl | rfl | rfl | rfl | rfl : i = 0 ∨ i = 1 ∨ i = 2 ∨ i = 3 ∨ i = 4 ∨ i = 5 ∨ i = 6 := by omega
  all_goals omega

/-- The mean value theorem, for the rounded values. -/
theorem mean {l : List Int} {s t : Int} (h8 : l.length ≤ 8) (hl : ∀ x ∈ l, -137438953472 ≤ x ∧ x ≤ 137438953472) (hs : -68719476736 ≤ s ∧ s ≤ 68719476736) (ht : -68719476736 ≤ t ∧ t ≤ 68719476736)
    (he : (pEval (l.map pt) (s, s)).2 = 0) (hf : (pEval (l.map pt) (t, t)).2 = 0) (hg : (pSlope (l.map pt) (min s t, max s t)).2 = 0)
    (hr : (sSub (pEval (l.map pt) (t, t)).1 (pEval (l.map pt) (s, s)).1).2 = 0) (hm : (sMul (pSlope (l.map pt) (min s t, max s t)).1 (sSub (t, t) (s, s)).1).2 = 0) :
    (sMeet (sSub (pEval (l.map pt) (t, t)).1 (pEval (l.map pt) (s, s)).1).1 (sMul (pSlope (l.map pt) (min s t, max s t)).1 (sSub (t, t) (s, s)).1).1).2 = 0 := by
  have oks : okS (s, s) := ⟨by simp; omega, Int.le_refl _, by simp; omega⟩
  have okt : okS (t, t) := ⟨by simp; omega, Int.le_refl _, by simp; omega⟩
  have okm : okS (min s t, max s t) := ⟨by simp; omega, by simp; omega, by simp; omega⟩
  have okl : ∀ c ∈ l.map pt, okS c := fun c hc => by
    obtain ⟨y, hy, rfl⟩ := List.mem_map.1 hc
    have := hl y hy
    exact ⟨by simp [pt]; omega, Int.le_refl _, by simp [pt]; omega⟩
  have okl' : ∀ c ∈ l, ok c := fun c hc => by
    have := hl c hc
    unfold ok
    omega
  have c1 : ∀ x, okS x → pChk (l.map pt) x = 0 := fun x hx => pChk_ok (by simp; omega) okl hx
  have ew : sSub (t, t) (s, s) = ((t - s, t - s), 0) := by
    rw [sSub, on2_ok okt oks]
    exact sT_ok (by simp; omega) (by simp; omega)
  have wayok : okS (t - s, t - s) := ⟨by simp; omega, Int.le_refl _, by simp; omega⟩
  rw [ew] at hm ⊢
  rcases l with _ | ⟨c, r⟩
  · have e0 : ∀ x, okS x → pEval (List.map pt []) x = ((0, 0), 0) := fun x hx => by
      rw [pEval_ok (c1 x hx)]
      rfl
    have e1 : pSlope (List.map pt []) (min s t, max s t) = ((0, 0), 0) := by
      unfold pSlope
      rw [if_pos (c1 _ okm)]
      rfl
    rw [e0 _ oks, e0 _ okt, e1, zero_sMul wayok]
    decide
  rw [pEval_ok (c1 _ oks)] at he hr ⊢
  rw [pEval_ok (c1 _ okt)] at hf hr ⊢
  unfold pVal at he hf hr ⊢
  have V := cont_acc oks (X := 6 * s) ⟨by simp; omega, by simp; omega⟩ (c :: r) okl' he
  have W := cont_acc okt (X := 6 * t) ⟨by simp; omega, by simp; omega⟩ (c :: r) okl' hf
  have vok := pAcc_okS (s, s) ((c :: r).map pt)
  have wok := pAcc_okS (t, t) ((c :: r).map pt)
  generalize (pAcc (s, s) ((c :: r).map pt)).1 = v at *
  generalize (pAcc (t, t) ((c :: r).map pt)).1 = w at *
  -- the slope's values
  have hr' : ∀ x ∈ r, -137438953472 ≤ x ∧ x ≤ 137438953472 := fun x hx => hl x (by simp [hx])
  have h8' := h8
  simp only [List.length_cons] at h8'
  obtain ⟨g1, g2⟩ := dl_pts c r hr' (by omega)
  have e : pSlope ((c :: r).map pt) (min s t, max s t) = pAcc (min s t, max s t) ((dl (c :: r)).map pt) := by
    unfold pSlope
    rw [if_pos (c1 _ okm), List.map_cons, if_neg (by simp), List.tail_cons, if_pos g1, g2]
    rfl
  rw [e] at hg hm ⊢
  have dok := pAcc_okS (min s t, max s t) ((dl (c :: r)).map pt)
  obtain ⟨Q1, Q2⟩ := qd_le (f := fun X => hv nN X (dl (c :: r))) (s := s) (h := t - s) (lo := (pAcc (min s t, max s t) ((dl (c :: r)).map pt)).1.1) (hi := (pAcc (min s t, max s t) ((dl (c :: r)).map pt)).1.2) (D := nN ^ r.length) (fun i h0 h6 => by
    have := cont_acc okm (X := 6 * s + i * (t - s)) (point_in i h0 h6) (dl (c :: r)) (dl_ok c r hr' (by omega)) hg
    rw [dl_len] at this
    exact this)
  generalize (pAcc (min s t, max s t) ((dl (c :: r)).map pt)).1 = d at *
  have I := quad nN s (t - s) (c :: r) h8
  rw [show s + (t - s) = t by omega] at I
  generalize qd (fun X => hv nN X (dl (c :: r))) s (t - s) = F at *
  generalize hv nN (6 * t) (c :: r) = P at *
  generalize hv nN (6 * s) (c :: r) = O at *
  have hD := nN_pos r.length
  have N := nN_pos (c :: r).length
  have Q5 : nN ^ (c :: r).length = nN ^ r.length * nN := by rw [List.length_cons, Int.pow_succ]
  generalize nN ^ (c :: r).length = T at *
  generalize nN ^ r.length = D at *
  -- the product with the way
  have M := cont_mul (D := 840 * D) (E := 1) (h := F) (x := t - s) (v := d) (s := (t - s, t - s)) (by omega) (by decide) dok wayok
    ⟨by rw [← Int.mul_assoc, Int.mul_comm d.1 840, Int.mul_assoc]; exact Q1, by rw [← Int.mul_assoc, Int.mul_comm d.2 840, Int.mul_assoc]; exact Q2⟩ ⟨by simp, by simp⟩ hm
  have mok := sMul_okS d (t - s, t - s)
  simp only at M mok ⊢
  generalize (sMul d (t - s, t - s)).1 = m at *
  -- the difference of the values
  have rok : (sSub w v).1 = (w.1 - v.2, w.2 - v.1) := by
    rw [sSub, on2_ok wok vok] at hr ⊢
    by_cases k : -4503599627370496 ≤ w.1 - v.2 ∧ w.2 - v.1 ≤ 4503599627370496
    · rw [sT_ok k.1 k.2]
    · rw [sT_bad k] at hr
      exact absurd hr (by decide)
  have rokS := sSub_okS w v
  rw [rok] at rokS ⊢
  have hnN : nN = 25769803776 := rfl
  rw [hnN] at Q5
  have e1 : m.1 * (840 * D * (1 * 4294967296)) * 6 = 840 * (m.1 * T) := by rw [Q5]; grind
  have e2 : m.2 * (840 * D * (1 * 4294967296)) * 6 = 840 * (m.2 * T) := by rw [Q5]; grind
  have e3 : 6 * (t - s) * F = F * (t - s) * 6 := by grind
  have k1 : m.1 * T ≤ P - O := by omega
  have k2 : P - O ≤ m.2 * T := by omega
  have k3 : (w.1 - v.2) * T ≤ P - O := by rw [Int.sub_mul]; omega
  have k4 : P - O ≤ (w.2 - v.1) * T := by rw [Int.sub_mul]; omega
  have j1 : w.1 - v.2 ≤ m.2 := Int.le_of_mul_le_mul_right (Int.le_trans k3 k2) N
  have j2 : m.1 ≤ w.2 - v.1 := Int.le_of_mul_le_mul_right (Int.le_trans k1 k4) N
  rw [sMeet, on2_ok rokS mok]
  unfold okS at rokS mok
  simp only at rokS
  rw [if_pos (by simp only; omega)]
end Mnc
