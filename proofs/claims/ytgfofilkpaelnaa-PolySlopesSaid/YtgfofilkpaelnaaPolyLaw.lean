/- Plain: polynomials within polynomials; what Eval and Slope answer at 0, and with one coefficient 0 more. No program here. -/
import Derived.Test.YtgfofilkpaelnaaSpanLaw
import Derived.Test.YtgfofilkpaelnaaSpanPlainB
import Derived.Test.YtgfofilkpaelnaaPolyPlain
import Derived.Test.YtgfofilkpaelnaaPolyPlainB
namespace Mnc
open Go

theorem okS_zero : okS (0, 0) := by unfold okS; omega
theorem sT_okS {lo hi : Int} (h : lo ≤ hi) : okS (sT lo hi).1 := by
  by_cases k : -4503599627370496 ≤ lo ∧ hi ≤ 4503599627370496
  · rw [sT_ok k.1 k.2]
    exact ⟨k.1, h, k.2⟩
  · rw [sT_bad k]
    exact okS_zero
theorem on2_okS {f : Int × Int → Int × Int → (Int × Int) × Int} (h : ∀ a b, okS a → okS b → okS (f a b).1) (a b : Int × Int) : okS (on2 f a b).1 := by
  by_cases k : okS a ∧ okS b
  · rw [on2_ok k.1 k.2]
    exact h a b k.1 k.2
  · rw [on2_bad k]
    exact okS_zero
theorem sMul_okS (a b : Int × Int) : okS (sMul a b).1 := on2_okS (fun a b _ _ => sT_okS (by
  have h1 := fl_le_cl (a.1 * b.1)
  unfold min4 max4
  omega)) a b
theorem sAdd_okS (a b : Int × Int) : okS (sAdd a b).1 := on2_okS (fun a b ha hb => sT_okS (by
  unfold okS at ha hb
  omega)) a b
theorem sSub_okS (a b : Int × Int) : okS (sSub a b).1 := on2_okS (fun a b ha hb => sT_okS (by
  unfold okS at ha hb
  omega)) a b
theorem pStep_okS (s v c : Int × Int) : okS (pStep s v c).1 := by
  unfold pStep
  split
  · exact sAdd_okS _ _
  · exact sMul_okS _ _
theorem pAcc_okS (s : Int × Int) : ∀ l, okS (pAcc s l).1
  | [] => okS_zero
  | c :: r => by
    unfold pAcc
    split
    · exact pStep_okS _ _ _
    · exact pAcc_okS s r

/-- A list of intervals within those of another list. -/
inductive AllIn : List (Int × Int) → List (Int × Int) → Prop
  | nil : AllIn [] []
  | cons {a b : Int × Int} {l m : List (Int × Int)} (ha : okS a) (hb : okS b) (h : sIn a b) (t : AllIn l m) : AllIn (a :: l) (b :: m)

theorem pStep_narrow {s v c s' v' c' : Int × Int} (hs : okS s) (hv : okS v) (hc : okS c) (hs' : okS s') (hv' : okS v') (hc' : okS c') (h1 : sIn s' s) (h2 : sIn v' v) (h3 : sIn c' c) : rIn (pStep s' v' c') (pStep s v c) := by
  intro h0
  have hm := sMul_narrow hv hs hv' hs' h2 h1
  unfold pStep at h0
  split at h0
  · rename_i hz
    obtain ⟨g1, g2⟩ := hm hz
    have := sAdd_narrow (sMul_okS v s) hc (sMul_okS v' s') hc' g2 h3 h0
    unfold pStep
    rw [if_pos g1, if_pos hz]
    exact this
  · rename_i hz
    exact absurd h0 hz

theorem pAcc_narrow {s s' : Int × Int} (hs : okS s) (hs' : okS s') (h : sIn s' s) {l' l : List (Int × Int)} (hl : AllIn l' l) : rIn (pAcc s' l') (pAcc s l) := by
  induction hl with
  | nil => exact fun _ => ⟨rfl, by unfold sIn; exact ⟨Int.le_refl _, Int.le_refl _⟩⟩
  | @cons a b l m ha hb hab _ ih =>
    intro h0
    have e : pAcc s (b :: m) = if (pAcc s m).2 = 0 then pStep s (pAcc s m).1 b else pAcc s m := rfl
    have e' : pAcc s' (a :: l) = if (pAcc s' l).2 = 0 then pStep s' (pAcc s' l).1 a else pAcc s' l := rfl
    rw [e] at h0 ⊢
    split at h0
    · rename_i hz
      obtain ⟨g1, g2⟩ := ih hz
      rw [e', if_pos g1, if_pos hz]
      exact pStep_narrow hs (pAcc_okS s m) hb hs' (pAcc_okS s' l) ha h g2 hab h0
    · rename_i hz
      exact absurd h0 hz

theorem AllIn.okL {l' l : List (Int × Int)} (h : AllIn l' l) : ∀ c ∈ l', okS c := by
  induction h with
  | nil => intro c hc; simp at hc
  | cons ha hb _ _ ih =>
    intro c hc
    rcases List.mem_cons.1 hc with rfl | hc
    · exact ha
    · exact ih c hc
theorem AllIn.okR {l' l : List (Int × Int)} (h : AllIn l' l) : ∀ c ∈ l, okS c := by
  induction h with
  | nil => intro c hc; simp at hc
  | cons ha hb _ _ ih =>
    intro c hc
    rcases List.mem_cons.1 hc with rfl | hc
    · exact hb
    · exact ih c hc
theorem AllIn.len {l' l : List (Int × Int)} (h : AllIn l' l) : l'.length = l.length := by
  induction h with
  | nil => rfl
  | cons _ _ _ _ ih => simp [ih]

theorem scl_one (up : Bool) {a n : Int} (ha : ok a) (hn : 0 ≤ n ∧ n ≤ 1000) : scl up a n 1 = fit (a * n) := by
  rw [scl_ok up ⟨ha, by omega, by omega, by omega, by omega⟩, show (1 : Int).toNat = 1 from rfl, sgn_quo _ _ _ _ (by omega) (Or.inr (Nat.mod_one _)), sign_mul]
  congr 1
  cases up <;> simp [rnd]
theorem sScl_one {c : Int × Int} {n : Int} (hc : okS c) (hn : 0 ≤ n ∧ n ≤ 1000) : sScl c n 1 = sT (c.1 * n) (c.2 * n) := by
  have hle : c.1 * n ≤ c.2 * n := Int.mul_le_mul_of_nonneg_right hc.2.1 hn.1
  unfold sScl sclC
  rw [if_pos hc, if_neg (by omega), scl_one false hc.lo hn, scl_one true hc.hi hn]
  generalize c.1 * n = x at *
  generalize c.2 * n = y at *
  by_cases h1 : ok x
  · rw [fit_ok h1]
    by_cases h2 : ok y
    · rw [fit_ok h2, if_pos ⟨rfl, rfl⟩, sT_ok h1.1 h2.2]
    · rw [fit_bad h2, if_neg (by simp), sT_bad (by unfold ok at h1 h2; omega)]
      rfl
  · rw [fit_bad h1, if_neg (by simp)]
    by_cases h2 : ok y
    · rw [fit_ok h2, sT_bad (by unfold ok at h1 h2; omega)]
      rfl
    · rw [fit_bad h2, sT_bad (by unfold ok at h1 h2; omega)]
      rfl
theorem sScl_narrow {c c' : Int × Int} {n : Int} (hc : okS c) (hc' : okS c') (hn : 0 ≤ n ∧ n ≤ 1000) (h : sIn c' c) : rIn (sScl c' n 1) (sScl c n 1) := by
  rw [sScl_one hc hn, sScl_one hc' hn]
  exact rIn_sT (Int.mul_le_mul_of_nonneg_right h.1 hn.1) (Int.mul_le_mul_of_nonneg_right h.2 hn.1)
theorem sScl_okS {c : Int × Int} {n : Int} (hc : okS c) (hn : 0 ≤ n ∧ n ≤ 1000) : okS (sScl c n 1).1 := by
  rw [sScl_one hc hn]
  exact sT_okS (Int.mul_le_mul_of_nonneg_right hc.2.1 hn.1)

theorem AllIn.snoc {l m : List (Int × Int)} {a b : Int × Int} (h : AllIn l m) (ha : okS a) (hb : okS b) (hab : sIn a b) : AllIn (l ++ [a]) (m ++ [b]) := by
  induction h with
  | nil => exact .cons ha hb hab .nil
  | cons h1 h2 h3 _ ih => exact .cons h1 h2 h3 ih

theorem pScA_narrow {l' l : List (Int × Int)} (hl : AllIn l' l) : ∀ (i : Nat) (acc' acc : List (Int × Int)), i + l.length ≤ 900 → AllIn acc' acc → (pScA l i acc).2 = 0 → (pScA l' i acc').2 = 0 ∧ AllIn (pScA l' i acc').1 (pScA l i acc).1 := by
  induction hl with
  | nil => exact fun i acc' acc _ ha _ => ⟨rfl, ha⟩
  | @cons a b l m ha hb hab _ ih =>
    intro i acc' acc hi hacc h0
    simp only [List.length_cons] at hi
    have hn : 0 ≤ (i : Int) + 1 ∧ (i : Int) + 1 ≤ 1000 := by omega
    by_cases hz : (sScl b ((i : Int) + 1) 1).2 = 0
    · obtain ⟨g1, g2⟩ := sScl_narrow hb ha hn hab hz
      rw [pScA_ok hz] at h0 ⊢
      rw [pScA_ok g1]
      exact ih (i + 1) _ _ (by omega) (hacc.snoc (sScl_okS ha hn) (sScl_okS hb hn) g2) h0
    · rw [pScA_bad hz] at h0
      exact absurd h0 hz

theorem pEval_narrow {s s' : Int × Int} (hs : okS s) (hs' : okS s') (h : sIn s' s) {l' l : List (Int × Int)} (hl : AllIn l' l) (h8 : l.length ≤ 8) : rIn (pEval l' s') (pEval l s) := by
  rw [pEval_ok (pChk_ok (by omega) hl.okR hs), pEval_ok (pChk_ok (by rw [hl.len]; omega) hl.okL hs')]
  exact pAcc_narrow hs hs' h hl
theorem pSlope_narrow {s s' : Int × Int} (hs : okS s) (hs' : okS s') (h : sIn s' s) {l' l : List (Int × Int)} (hl : AllIn l' l) (h8 : l.length ≤ 8) : rIn (pSlope l' s') (pSlope l s) := by
  have c1 := pChk_ok (l := l) (s := s) (by omega) hl.okR hs
  have c2 := pChk_ok (l := l') (s := s') (by rw [hl.len]; omega) hl.okL hs'
  unfold pSlope
  rw [if_pos c1, if_pos c2]
  cases hl with
  | nil => exact fun _ => ⟨rfl, by unfold sIn; exact ⟨Int.le_refl _, Int.le_refl _⟩⟩
  | @cons a b l m ha hb hab t =>
    rw [if_neg (show ¬ a :: l = [] by simp), if_neg (show ¬ b :: m = [] by simp), List.tail_cons, List.tail_cons]
    intro h0
    simp only [List.length_cons] at h8
    by_cases hz : (pScA m 0 []).2 = 0
    · rw [if_pos hz] at h0 ⊢
      obtain ⟨g1, g2⟩ := pScA_narrow t 0 [] [] (by omega) .nil hz
      rw [if_pos g1]
      exact pAcc_narrow hs hs' h g2 h0
    · rw [if_neg hz] at h0
      exact absurd h0 hz

theorem sMul_zero {v : Int × Int} (h : okS v) : sMul v (0, 0) = ((0, 0), 0) := by
  rw [sMul, on2_ok h okS_zero]
  simp only [Int.mul_zero]
  decide
theorem zero_sMul {v : Int × Int} (h : okS v) : sMul (0, 0) v = ((0, 0), 0) := by
  rw [sMul, on2_ok okS_zero h]
  simp only [Int.zero_mul]
  decide
theorem zero_sAdd {c : Int × Int} (h : okS c) : sAdd (0, 0) c = (c, 0) := by
  rw [sAdd, on2_ok okS_zero h]
  simp only [Int.zero_add]
  exact sT_ok h.1 h.2.2
theorem pStep_at0 {v c : Int × Int} (hv : okS v) (hc : okS c) : pStep (0, 0) v c = (c, 0) := by
  unfold pStep
  rw [sMul_zero hv, if_pos rfl]
  exact zero_sAdd hc
theorem pStep_of0 {s c : Int × Int} (hs : okS s) (hc : okS c) : pStep s (0, 0) c = (c, 0) := by
  unfold pStep
  rw [zero_sMul hs, if_pos rfl]
  exact zero_sAdd hc
theorem pAcc_at0 : ∀ {l : List (Int × Int)}, (∀ c ∈ l, okS c) → pAcc (0, 0) l = (l.headD (0, 0), 0)
  | [], _ => rfl
  | c :: r, h => by
    have ih := pAcc_at0 (l := r) (fun x hx => h x (by simp [hx]))
    unfold pAcc
    rw [ih, if_pos rfl, pStep_at0 (by
      cases r with
      | nil => exact okS_zero
      | cons y r => exact h y (by simp)) (h c (by simp))]
    rfl
theorem pEval_at0 {l : List (Int × Int)} (h8 : l.length ≤ 8) (h : ∀ c ∈ l, okS c) : pEval l (0, 0) = (l.headD (0, 0), 0) := by
  rw [pEval_ok (pChk_ok (by omega) h okS_zero)]
  exact pAcc_at0 h

/-- One coefficient 0 more at the end changes nothing. -/
theorem pAcc_more {s : Int × Int} (hs : okS s) : ∀ l : List (Int × Int), pAcc s (l ++ [(0, 0)]) = pAcc s l
  | [] => pStep_of0 hs okS_zero
  | c :: r => by
    show (if (pAcc s (r ++ [(0, 0)])).2 = 0 then pStep s (pAcc s (r ++ [(0, 0)])).1 c else pAcc s (r ++ [(0, 0)])) = _
    rw [pAcc_more hs r]
    rfl
theorem pEval_more {s : Int × Int} (hs : okS s) {l : List (Int × Int)} (h8 : l.length < 8) (h : ∀ c ∈ l, okS c) : pEval (l ++ [(0, 0)]) s = pEval l s := by
  rw [pEval_ok (pChk_ok (by omega) h hs), pEval_ok (pChk_ok (by simp; omega) (fun c hc => by
    rcases List.mem_append.1 hc with hc | hc
    · exact h c hc
    · simp at hc
      subst hc
      exact okS_zero) hs)]
  exact pAcc_more hs l

/-- Small coefficients: the derivative's are no error. -/
def sml (c : Int × Int) : Prop := okS c ∧ -137438953472 ≤ c.1 ∧ c.2 ≤ 137438953472
theorem pScA_small : ∀ (l : List (Int × Int)) (i : Nat) (acc : List (Int × Int)), i + l.length ≤ 900 → (∀ c ∈ l, sml c) → (pScA l i acc).2 = 0 ∧ (pScA l i acc).1 = acc ++ l.mapIdx (fun k c => (c.1 * ((k + i : Nat) + 1 : Int), c.2 * ((k + i : Nat) + 1 : Int)))
  | [], i, acc, _, _ => ⟨rfl, by simp [pScA]⟩
  | c :: r, i, acc, hi, h => by
    simp only [List.length_cons] at hi
    have hn : 0 ≤ (i : Int) + 1 ∧ (i : Int) + 1 ≤ 1000 := by omega
    obtain ⟨h1, h2, h3⟩ := h c (by simp)
    have e : sScl c ((i : Int) + 1) 1 = ((c.1 * ((i : Int) + 1), c.2 * ((i : Int) + 1)), 0) := by
      rw [sScl_one h1 hn]
      refine sT_ok ?_ ?_
      · have := Int.mul_le_mul_of_nonneg_right h2 hn.1
        omega
      · have := Int.mul_le_mul_of_nonneg_right h3 hn.1
        omega
    obtain ⟨g1, g2⟩ := pScA_small r (i + 1) (acc ++ [(c.1 * ((i : Int) + 1), c.2 * ((i : Int) + 1))]) (by omega) (fun x hx => h x (by simp [hx]))
    have hz : (sScl c ((i : Int) + 1) 1).2 = 0 := by rw [e]
    rw [pScA_ok hz, e]
    refine ⟨g1, ?_⟩
    rw [g2, List.append_assoc]
    congr 1
    simp only [List.mapIdx_cons, List.singleton_append, Nat.zero_add]
    congr 1
    refine List.ext_getElem? (fun k => ?_)
    simp only [List.getElem?_mapIdx]
    have e2 : k + (i + 1) = k + 1 + i := by omega
    rw [e2]
theorem pSlope_at0 {l : List (Int × Int)} (h8 : l.length ≤ 8) (h : ∀ c ∈ l, sml c) : pSlope l (0, 0) = (l.tail.headD (0, 0), 0) := by
  unfold pSlope
  rw [if_pos (pChk_ok (by omega) (fun c hc => (h c hc).1) okS_zero)]
  cases l with
  | nil => rfl
  | cons c r =>
    rw [if_neg (by simp), List.tail_cons]
    simp only [List.length_cons] at h8
    have hr : ∀ x ∈ r, sml x := fun x hx => h x (by simp [hx])
    obtain ⟨g1, g2⟩ := pScA_small r 0 [] (by omega) hr
    rw [if_pos g1, g2, List.nil_append]
    unfold pVal
    rw [pAcc_at0]
    · cases r with
      | nil => rfl
      | cons y r => simp [List.mapIdx_cons]
    · intro x hx
      obtain ⟨k, hk⟩ := List.mem_iff_getElem?.1 hx
      rw [List.getElem?_mapIdx] at hk
      cases hy : r[k]? with
      | none => simp [hy] at hk
      | some y =>
        rw [hy] at hk
        simp only [Option.map_some, Option.some.injEq] at hk
        subst hk
        have hkl := (List.getElem?_eq_some_iff.1 hy).1
        obtain ⟨⟨y1, y2, y3⟩, y4, y5⟩ := hr y (List.mem_of_getElem? hy)
        have hn : 0 ≤ ((k + 0 : Nat) : Int) + 1 ∧ ((k + 0 : Nat) : Int) + 1 ≤ 8 := by omega
        generalize ((k + 0 : Nat) : Int) + 1 = n at hn
        unfold okS
        have a1 := Int.mul_le_mul_of_nonneg_right y2 hn.1
        have a2 := Int.mul_le_mul_of_nonneg_right y4 hn.1
        have a3 := Int.mul_le_mul_of_nonneg_right y5 hn.1
        simp only
        omega
end Mnc
