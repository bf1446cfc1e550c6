/- Plain laws for TaylorOrder: what its walk asks of drafted models. No program here. -/
import Derived.Test.YthhkcfpljgdnhaaOrdLaw
import Derived.Test.YthhkcfpljgdnhaaTayX
import Derived.Test.YthhkcfpljgdnhaaTayEv
import Derived.Test.YthhkcfpljgdnhaaTayY
import Derived.Test.YthhkcfpljgdnhaaDrT
namespace Go.Proofs.Ythhkcfpljgdnhaa
open Go Mnc
theorem eval_in {a : List (Int × Int)} (ha : ∀ n, bd 2147483648 (tAt a n)) {u v : Int × Int} (hu : pt1 u) (hv : pt1 v) : ∀ (l : List (Nat × Nat)) (p : Nat) (t t' : Int × Int) (M : Int), (∀ x ∈ l, x.1 ≤ 5 ∧ x.2 ≤ 5) → bd M t → sIn t' t → okS t' → M + l.length * 2147483648 ≤ 4503599627370496 →
    ∃ s s', tSweepFrom a l p t = (s, 0) ∧ bd (M + l.length * 2147483648) s ∧ tEvalFrom a u v l p t' = (s', 0) ∧ sIn s' s ∧ okS s'
  | [], p, t, t', M, _, h, k, k', _ => ⟨t, t', rfl, h.up (by simp), rfl, k, k'⟩
  | (i, j) :: r, p, t, t', M, hx, h, k, k', hM => by
    have hl : (((i, j) :: r).length : Int) = r.length + 1 := by simp
    rw [hl] at hM ⊢
    obtain ⟨hi, hj⟩ := hx (i, j) (by simp)
    obtain ⟨u1, u2, u3⟩ := pow_in hu hi
    obtain ⟨v1, v2, v3⟩ := pow_in hv hj
    have hp := ha p
    have hpo := hp.ok (by omega)
    have w1 := mulP_bd hp (R1_bd i) (K := 2147483648) (by omega)
    have w := mulP_bd hp (reach_bd i j) (K := 2147483648) (by omega)
    have hR := fun i => (R1_bd i).ok (by omega)
    have n1 := sMul_narrow hpo (hR i) hpo u3 ⟨Int.le_refl _, Int.le_refl _⟩ u2
    rw [sMul_bd (K := 2147483648) hp (R1_bd i) (by omega) (by omega) (by omega) (by omega)] at n1
    obtain ⟨f1, f2⟩ := n1 rfl
    have fo : okS (evF a u p i) := sMul_okS _ _
    have n2 := sMul_narrow (w1.ok (by omega)) (hR j) fo v3 f2 v2
    rw [sMul_bd (K := 2147483648) w1 (R1_bd j) (by omega) (by omega) (by omega) (by omega), mulP_reach hp i j] at n2
    obtain ⟨g1, g2⟩ := n2 rfl
    have n3 := sAdd_narrow (h.ok (by omega)) (w.ok (by omega)) k' (sMul_okS _ _) k g2
    rw [sAdd_bd h w (by omega)] at n3
    obtain ⟨e1, e2⟩ := n3 rfl
    obtain ⟨s, s', q1, q2, q3, q4, q5⟩ := eval_in ha hu hv r (p + 1) _ _ _ (fun x h => hx x (by simp [h])) (pls_bd h w) e2 (sAdd_okS _ _) (by omega)
    refine ⟨s, s', ?_, q2.up (by omega), ?_, q4, q5⟩
    · rw [tSweepFrom, sMul_bd (K := 2147483648) hp (reach_bd i j) (by omega) (by omega) (by omega) (by omega), thenE_pair, sAdd_bd h w (by omega), thenE_pair, q1]
    · rw [tEvalFrom_ok u1 f1 v1 g1 e1, q3]
theorem pairs_le : ∀ x ∈ tPairs, x.1 ≤ 5 ∧ x.2 ≤ 5 := by decide
theorem eval_bound {a : List (Int × Int)} (ha : ∀ n, bd 2147483648 (tAt a n)) {u v : Int × Int} (hu : pt1 u) (hv : pt1 v) : ∃ s t, tEval a u v = (s, 0) ∧ tBound a = (t, 0) ∧ s.1 ≤ t.2 ∧ t.1 ≤ s.2 := by
  have h21 : ((tPairs.length : Nat) : Int) = 21 := rfl
  obtain ⟨t, s, q1, q2, q3, q4, q5⟩ := eval_in ha hu hv tPairs 0 (0, 0) (0, 0) 0 pairs_le (bd_zero (by omega)) ⟨Int.le_refl _, Int.le_refl _⟩ okS_zero (by rw [h21]; omega)
  rw [h21] at q2
  have ho := (ha 21).ok (by omega)
  have n := sAdd_narrow (q2.ok (by omega)) ho q5 ho q4 ⟨Int.le_refl _, Int.le_refl _⟩
  rw [sAdd_bd q2 (ha 21) (by omega)] at n
  obtain ⟨e1, e2⟩ := n rfl
  have e3 : okS (sAdd s (tAt a 21)).1 := sAdd_okS _ _
  refine ⟨(sAdd s (tAt a 21)).1, pls t (tAt a 21), ?_, ?_, ?_, ?_⟩
  · unfold tEval
    rw [q3, thenE_pair]
    exact Prod.ext rfl e1
  · unfold tBound
    rw [show tSweep a = (t, 0) from q1, thenE_pair, sAdd_bd q2 (ha 21) (by omega)]
  · have := e2.2
    have := e3.2.1
    simp only at *
    omega
  · have := e2.1
    have := e3.2.1
    simp only at *
    omega
theorem foldTerm_bd : ∀ (ts : List Tm) (m : List (Int × Int)), (∀ d ∈ ts, d.wf) → (∀ n, bd 2147483648 (tAt m n)) → ∀ n, bd 2147483648 (tAt (ts.foldl dTerm m) n)
  | [], m, _, h, n => h n
  | d :: ts, m, hd, h, n => by
    rw [List.foldl_cons]
    refine foldTerm_bd ts _ (fun x hx => hd x (by simp [hx])) (fun n => ?_) n
    unfold dTerm
    rw [tAt_set]
    split
    · obtain ⟨_, w2, w3⟩ := hd d (by simp)
      unfold bd
      simp only
      omega
    · exact h n
theorem dModel_bd {c r : Int} {ts : List Tm} (hc : -32768 ≤ c ∧ c ≤ 32767) (hr : 0 ≤ r ∧ r ≤ 65535) (hts : ∀ d ∈ ts, d.wf) : ∀ n, bd 2147483648 (tAt (dModel c ts r) n) := fun n => by
  unfold dModel
  rw [tAt_set]
  split
  · unfold bd
    simp only
    omega
  · refine foldTerm_bd _ _ (fun d hd => hts d (List.mem_of_mem_take hd)) (fun n => ?_) n
    rw [tAt_set]
    split
    · unfold bd
      simp only
      omega
    · rw [zeroM_at]
      exact bd_zero (by omega)
theorem mem_bd {a : List (Int × Int)} {M : Int} (h : ∀ n, bd M (tAt a n)) : ∀ s ∈ a, bd M s := fun s hs => by
  obtain ⟨n, hn⟩ := List.mem_iff_getElem?.1 hs
  have := h n
  unfold tAt at this
  rw [List.getD_eq_getElem?_getD, hn] at this
  exact this
theorem right_of {l : List (Int × Int)} (h : ∀ s ∈ l, okS s) : tRight l = ((), 0) := by
  unfold tRight
  rw [if_pos h]
/-- What TaylorOrder asks. -/
structure TOrdF (A B : List (Int × Int)) (u v : Int × Int) : Prop where
  lenA : A.length = 22
  lenB : B.length = 22
  okA : (tRight A).2 = 0
  ok1 : xConst (4294967296, 4294967296) = (oneM, 0)
  scl : xScale A (4294967296, 4294967296) = (A, 0)
  mul0 : (xMul A B).2 = 0
  mulc : xMul B A = xMul A B
  mul1 : xMul A oneM = (A, 0)
  add0 : (xAdd A B).2 = 0
  sub0 : (xSub (xAdd A B).1 B).2 = 0
  back : ∀ n, sIn (tAt A n) (tAt (xSub (xAdd A B).1 B).1 n)
  ev0 : (xEval A u v).2 = 0
  bo0 : (xBound A).2 = 0
  meet1 : (xEval A u v).1.1 ≤ (xBound A).1.2
  meet2 : (xBound A).1.1 ≤ (xEval A u v).1.2
  uO : okU u
  vO : okU v
theorem tOrdF {A B : List (Int × Int)} {u v : Int × Int} (hA : A.length = 22) (hB : B.length = 22) (ha : ∀ n, bd 2147483648 (tAt A n)) (hb : ∀ n, bd 2147483648 (tAt B n)) (hu : pt1 u) (hv : pt1 v) : TOrdF A B u v := by
  have oA : ∀ s ∈ A, okS s := fun s hs => (mem_bd ha s hs).ok (by omega)
  have oB : ∀ s ∈ B, okS s := fun s hs => (mem_bd hb s hs).ok (by omega)
  have o1 : ∀ s ∈ oneM, okS s := by decide
  have app : ∀ {l m : List (Int × Int)}, (∀ s ∈ l, okS s) → (∀ s ∈ m, okS s) → ∀ s ∈ l ++ m, okS s := fun h k s hs => (List.mem_append.1 hs).elim (h s) (k s)
  obtain ⟨p0, pc⟩ := product_comm ha hb
  have p1 := product_one hA ha
  obtain ⟨c, c1, c2, c3, c4⟩ := tEach_back (hA.trans hB.symm) (mem_bd ha) (mem_bd hb)
  obtain ⟨s, t, s1, t1, m1, m2⟩ := eval_bound ha hu hv
  have ad : xAdd A B = (List.zipWith pls A B, 0) := by
    unfold xAdd
    rw [right_of (app oA oB), thenE_pair, tEach_add (hA.trans hB.symm) (mem_bd ha) (mem_bd hb)]
    rfl
  have sb : xSub (xAdd A B).1 B = (c, 0) := by
    rw [ad]
    unfold xSub
    rw [right_of (app c3 oB), thenE_pair, c1]
    rfl
  have mu : xMul A B = (orZ zeroM (tProduct A B), (tProduct A B).2) := by
    unfold xMul
    rw [right_of (app oA oB), thenE_pair]
  have mu' : xMul B A = (orZ zeroM (tProduct A B), (tProduct A B).2) := by
    unfold xMul
    rw [right_of (app oB oA), thenE_pair, pc]
  have ev : xEval A u v = (s, 0) := by
    unfold xEval
    rw [s1]
    rfl
  have bo : xBound A = (t, 0) := by
    unfold xBound
    rw [right_of oA, thenE_pair, t1]
    rfl
  have oku : ∀ {x : Int × Int}, pt1 x → okU x := fun {x} h => by
    obtain ⟨h1, h2, h3⟩ := h
    unfold okU okS
    omega
  exact {
    lenA := hA
    lenB := hB
    okA := by rw [right_of oA]
    ok1 := by unfold xConst; rw [if_pos (by decide)]; rfl
    scl := by
      unfold xScale
      rw [right_of oA, thenE_pair]
      unfold tBy
      rw [tEach_one (Nat.le_refl _) oA]
      rfl
    mul0 := by rw [mu]; exact p0
    mulc := by rw [mu, mu']
    mul1 := by
      unfold xMul
      rw [right_of (app oA o1), thenE_pair, p1]
      rfl
    add0 := by rw [ad]
    sub0 := by rw [sb]
    back := fun n => by rw [sb]; exact c4 n
    ev0 := by rw [ev]
    bo0 := by rw [bo]
    meet1 := by rw [ev, bo]; exact m1
    meet2 := by rw [ev, bo]; exact m2
    uO := oku hu
    vO := oku hv }
end Go.Proofs.Ythhkcfpljgdnhaa
