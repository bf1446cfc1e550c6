/- Plain laws of vectors: narrowing, orders of arguments, negatives. No program here. -/
import Derived.Test.YtmnccbhlllnlbaaGreatVecPlain
import Derived.Test.YtmnccbhlllnlbaaGreatSpanLawB
import Derived.Test.YtmnccbhlllnlbaaGreatPl
namespace Mnc
open Go

theorem fst2_nil {a b : Int} : fst2 a b = 0 ↔ a = 0 ∧ b = 0 := by
  unfold fst2
  split
  · rename_i h; simp [h]
  · rename_i h; simp [h]
theorem sChk_nil {s : Int × Int} : sChk s = 0 ↔ okS s := by
  unfold sChk
  split <;> simp_all
theorem vNote_ok {a : V3} (h : okV a) : vNote 0 a = 0 := by
  unfold vNote
  rw [sChk_ok h.1, sChk_ok h.2.1, sChk_ok h.2.2]
  rfl
theorem vNote_nil {e : Int} {a : V3} : vNote e a = 0 ↔ e = 0 ∧ okV a := by
  unfold vNote okV
  rw [fst2_nil, fst2_nil, fst2_nil, sChk_nil, sChk_nil, sChk_nil]
  constructor
  · rintro ⟨⟨⟨h, a⟩, b⟩, c⟩; exact ⟨h, a, b, c⟩
  · rintro ⟨h, a, b, c⟩; exact ⟨⟨⟨h, a⟩, b⟩, c⟩
theorem err3_nil {f : Int × Int → Int × Int → (Int × Int) × Int} {e : Int} {a b : V3} : err3 f e a b = 0 ↔ e = 0 ∧ (f a.1 b.1).2 = 0 ∧ (f a.2.1 b.2.1).2 = 0 ∧ (f a.2.2 b.2.2).2 = 0 := by
  unfold err3
  rw [fst2_nil, fst2_nil, fst2_nil]
  constructor
  · rintro ⟨⟨⟨h, a⟩, b⟩, c⟩; exact ⟨h, a, b, c⟩
  · rintro ⟨h, a, b, c⟩; exact ⟨⟨⟨h, a⟩, b⟩, c⟩
theorem toldV_nil {r : V3} {e : Int} : (toldV r e).2 = 0 ↔ e = 0 := by
  unfold toldV
  split <;> simp_all
theorem toldV_of {r : V3} {e : Int} (h : e = 0) : toldV r e = (r, 0) := if_pos h
theorem toldS_nil {r : Int × Int} {e : Int} : (toldS r e).2 = 0 ↔ e = 0 := by
  unfold toldS
  split <;> simp_all
theorem toldS_of {r : Int × Int} {e : Int} (h : e = 0) : toldS r e = (r, 0) := if_pos h
/-- A vector within another one. -/
def vIn (a b : V3) : Prop := sIn a.1 b.1 ∧ sIn a.2.1 b.2.1 ∧ sIn a.2.2 b.2.2
instance (a b : V3) : Decidable (vIn a b) := by unfold vIn sIn; exact inferInstance
def rInV (r q : V3 × Int) : Prop := q.2 = 0 → r.2 = 0 ∧ vIn r.1 q.1
/-- An operation on intervals that keeps narrowness, and whose result is valid. -/
structure Nrw (f : Int × Int → Int × Int → (Int × Int) × Int) : Prop where
  nar : ∀ a b a' b', okS a → okS b → okS a' → okS b' → sIn a' a → sIn b' b → rIn (f a' b') (f a b)
  okr : ∀ a b, okS (f a b).1
theorem nrw_add : Nrw sAdd := ⟨fun _ _ _ _ a b c d => sAdd_narrow a b c d, sAdd_okS⟩
theorem nrw_sub : Nrw sSub := ⟨fun _ _ _ _ a b c d => sSub_narrow a b c d, sSub_okS⟩
theorem nrw_mul : Nrw sMul := ⟨fun _ _ _ _ a b c d => sMul_narrow a b c d, sMul_okS⟩
theorem sDiv_okS (a b : Int × Int) : okS (sDiv a b).1 := on2_okS (fun a b ha hb => by
  have g := sDiv_narrow ha hb ha hb ⟨Int.le_refl _, Int.le_refl _⟩ ⟨Int.le_refl _, Int.le_refl _⟩
  clear g
  by_cases hz : b.1 ≤ 0 ∧ 0 ≤ b.2
  · rw [if_pos hz]; exact okS_zero
  · rw [if_neg hz]
    exact sT_okS (by
      have e1 := dv_corner false (a := a) (b := b) (x := a.1) (y := b.1) hz ⟨Int.le_refl _, hb.2.1⟩ ⟨Int.le_refl _, ha.2.1⟩
      have e2 := dv_corner true (a := a) (b := b) (x := a.1) (y := b.1) hz ⟨Int.le_refl _, hb.2.1⟩ ⟨Int.le_refl _, ha.2.1⟩
      have e4 := hb.2.1
      have e3 : dv false a.1 b.1 ≤ dv true a.1 b.1 := rnd_le (by omega)
      omega)) a b
theorem nrw_div : Nrw sDiv := ⟨fun _ _ _ _ a b c d => sDiv_narrow a b c d, sDiv_okS⟩
theorem each3_okV {f : Int × Int → Int × Int → (Int × Int) × Int} (hf : ∀ a b, okS (f a b).1) (a b : V3) : okV (each3 f a b) := ⟨hf _ _, hf _ _, hf _ _⟩
theorem each3_in {f : Int × Int → Int × Int → (Int × Int) × Int} (hf : Nrw f) {e e' : Int} {a b a' b' : V3} (ha : okV a) (hb : okV b) (ha' : okV a') (hb' : okV b') (h : vIn a' a) (k : vIn b' b) (he : e = 0 → e' = 0) :
    err3 f e a b = 0 → err3 f e' a' b' = 0 ∧ vIn (each3 f a' b') (each3 f a b) := by
  rw [err3_nil, err3_nil]
  rintro ⟨h0, h1, h2, h3⟩
  obtain ⟨e1, i1⟩ := hf.nar _ _ _ _ ha.1 hb.1 ha'.1 hb'.1 h.1 k.1 h1
  obtain ⟨e2, i2⟩ := hf.nar _ _ _ _ ha.2.1 hb.2.1 ha'.2.1 hb'.2.1 h.2.1 k.2.1 h2
  obtain ⟨e3, i3⟩ := hf.nar _ _ _ _ ha.2.2 hb.2.2 ha'.2.2 hb'.2.2 h.2.2 k.2.2 h3
  exact ⟨⟨he h0, e1, e2, e3⟩, i1, i2, i3⟩
theorem vOp_narrow {f : Int × Int → Int × Int → (Int × Int) × Int} (hf : Nrw f) {a b a' b' : V3} (ha : okV a) (hb : okV b) (ha' : okV a') (hb' : okV b') (h : vIn a' a) (k : vIn b' b) : rInV (vOp f a' b') (vOp f a b) := by
  unfold rInV vOp
  rw [toldV_nil, toldV_nil]
  intro e
  obtain ⟨e1, i1⟩ := each3_in (e' := vNote (vNote 0 a') b') hf ha hb ha' hb' h k (fun _ => by rw [vNote_ok ha', vNote_ok hb']) e
  rw [toldV_of e, toldV_of e1]
  exact ⟨e1, i1⟩
theorem turn_ok {a : V3} (h : okV a) : okV (turnV a) := ⟨h.2.1, h.2.2, h.1⟩
theorem turn_in {a b : V3} (h : vIn a b) : vIn (turnV a) (turnV b) := ⟨h.2.1, h.2.2, h.1⟩
theorem vCross_narrow {a b a' b' : V3} (ha : okV a) (hb : okV b) (ha' : okV a') (hb' : okV b') (h : vIn a' a) (k : vIn b' b) : rInV (vCross a' b') (vCross a b) := by
  unfold rInV vCross
  rw [toldV_nil, toldV_nil]
  intro e
  have e0 := e
  rw [err3_nil] at e0
  have f0 := e0.1
  have g0 := f0
  rw [err3_nil] at g0
  obtain ⟨e1, i1⟩ := each3_in (e' := vNote (vNote 0 a') b') nrw_mul (turn_ok ha) (turn_ok (turn_ok hb)) (turn_ok ha') (turn_ok (turn_ok hb')) (turn_in h) (turn_in (turn_in k)) (fun _ => by rw [vNote_ok ha', vNote_ok hb']) g0.1
  obtain ⟨e2, i2⟩ := each3_in (e' := err3 sMul (vNote (vNote 0 a') b') (turnV a') (turnV (turnV b'))) nrw_mul (turn_ok (turn_ok ha)) (turn_ok hb) (turn_ok (turn_ok ha')) (turn_ok hb') (turn_in (turn_in h)) (turn_in k) (fun _ => e1) f0
  obtain ⟨e3, i3⟩ := each3_in (e' := err3 sMul (err3 sMul (vNote (vNote 0 a') b') (turnV a') (turnV (turnV b'))) (turnV (turnV a')) (turnV b')) nrw_sub (each3_okV sMul_okS _ _) (each3_okV sMul_okS _ _) (each3_okV sMul_okS _ _) (each3_okV sMul_okS _ _) i1 i2 (fun _ => e2) e
  have e4 : err3 sSub (err3 sMul (err3 sMul (vNote (vNote 0 a') b') (turnV a') (turnV (turnV b'))) (turnV (turnV a')) (turnV b')) (crP a' b') (crQ a' b') = 0 := e3
  rw [toldV_of e, toldV_of e4]
  exact ⟨e4, i3⟩
theorem sum_in {e e' : Int} {p p' : V3} (hp : okV p) (hp' : okV p') (h : vIn p' p) (he : e = 0 → e' = 0) : sumE e p = 0 → sumE e' p' = 0 ∧ sIn (sum3 p') (sum3 p) := by
  unfold sumE sum3
  rw [fst2_nil, fst2_nil, fst2_nil, fst2_nil]
  rintro ⟨⟨h0, h1⟩, h2⟩
  obtain ⟨e1, i1⟩ := sAdd_narrow hp.1 hp.2.1 hp'.1 hp'.2.1 h.1 h.2.1 h1
  obtain ⟨e2, i2⟩ := sAdd_narrow (sAdd_okS _ _) hp.2.2 (sAdd_okS _ _) hp'.2.2 i1 h.2.2 h2
  exact ⟨⟨⟨he h0, e1⟩, e2⟩, i2⟩
theorem sum3_okS (p : V3) : okS (sum3 p) := sAdd_okS _ _
theorem vDot_narrow {a b a' b' : V3} (ha : okV a) (hb : okV b) (ha' : okV a') (hb' : okV b') (h : vIn a' a) (k : vIn b' b) : rIn (vDot a' b') (vDot a b) := by
  unfold rIn vDot
  rw [toldS_nil, toldS_nil]
  intro e
  have e0 := e
  unfold dotE sumE at e0
  rw [fst2_nil, fst2_nil] at e0
  obtain ⟨e1, i1⟩ := each3_in (e' := vNote (vNote 0 a') b') nrw_mul ha hb ha' hb' h k (fun _ => by rw [vNote_ok ha', vNote_ok hb']) e0.1.1
  obtain ⟨e2, i2⟩ := sum_in (e' := err3 sMul (vNote (vNote 0 a') b') a' b') (each3_okV sMul_okS _ _) (each3_okV sMul_okS _ _) i1 (fun _ => e1) e
  have e3 : dotE (vNote (vNote 0 a') b') a' b' = 0 := e2
  rw [toldS_of e, toldS_of e3]
  exact ⟨e3, i2⟩
theorem sPow2_okS (a : Int × Int) : okS (sPow a 2).1 := by
  by_cases h : okS a
  · rw [sPow_two h, sAbs_val h]
    obtain ⟨h1, h2, h3⟩ := h
    refine sT_okS (Int.le_trans (fl_mono ?_) (fl_le_cl _))
    exact Int.mul_le_mul (by omega) (by omega) (by omega) (by omega)
  · unfold sPow
    rw [if_neg h]
    exact okS_zero
/-- The square as an operation of two arguments. -/
theorem nrw_sqr : Nrw sqrF := ⟨fun _ _ _ _ a _ c _ h _ => sPow_narrow a c h 2, fun a _ => sPow2_okS a⟩
theorem sSqrt_ok {a : Int × Int} (h : okS a) (h0 : 0 ≤ a.1) : sSqrt a = ((((rtOf false (a.1.toNat * 4294967296) : Nat) : Int), ((rtOf true (a.2.toNat * 4294967296) : Nat) : Int)), 0) := by
  have e : sSqrt a = _ := on1_ok h
  rw [e]
  try simp only
  rw [if_neg (by omega), rt_ok false h.lo h0, rt_ok true h.hi (by have := h.2.1; omega)]
theorem sSqrt_neg {a : Int × Int} (h : okS a) (h0 : ¬ 0 ≤ a.1) : sSqrt a = ((0, 0), 2) := by
  have e : sSqrt a = _ := on1_ok h
  rw [e]
  try simp only
  rw [if_pos (by omega)]
theorem isq_mono {m n : Nat} (h : m ≤ n) : isq m ≤ isq n := by
  have h1 := (isq_spec m).1
  have h2 := (isq_spec n).2
  rcases Nat.lt_or_ge (isq n) (isq m) with g | g
  · have := Nat.mul_le_mul (Nat.succ_le_of_lt g) (Nat.succ_le_of_lt g)
    simp only [Nat.succ_eq_add_one] at this
    omega
  · exact g
/-- The upper root's square is at least the number; what is at least is at least the upper root. -/
theorem rtUp_ge (n : Nat) : n ≤ rtOf true n * rtOf true n := by
  have h := isq_spec n
  unfold rtOf
  split
  · omega
  · rename_i g
    simp at g
    omega
theorem rtDown_le (n : Nat) : rtOf false n * rtOf false n ≤ n := by
  unfold rtOf
  simp only [Bool.false_eq_true, false_and, if_false]
  exact (isq_spec n).1
theorem rtOf_mono (up : Bool) {m n : Nat} (h : m ≤ n) : rtOf up m ≤ rtOf up n := by
  cases up with
  | false =>
    unfold rtOf
    simp only [Bool.false_eq_true, false_and, if_false]
    exact isq_mono h
  | true => exact rtOf_le true (Nat.le_trans h (rtUp_ge n))
theorem rtOf_pair {m n : Nat} (h : m ≤ n) : rtOf false m ≤ rtOf true n := by
  have h1 := rtDown_le m
  have h2 := rtUp_ge n
  rcases Nat.lt_or_ge (rtOf true n) (rtOf false m) with g | g
  · have := Nat.mul_lt_mul'' g g
    omega
  · exact g
theorem sSqrt_okS (a : Int × Int) : okS (sSqrt a).1 := by
  by_cases h : okS a
  · by_cases h0 : 0 ≤ a.1
    · rw [sSqrt_ok h h0]
      obtain ⟨h1, h2, h3⟩ := h
      have e1 := rtOf_pair (m := a.1.toNat * 4294967296) (n := a.2.toNat * 4294967296) (Nat.mul_le_mul_right _ (by omega))
      have e2 := rtOf_le true (n := a.2.toNat * 4294967296) (r := 4503599627370496) (by omega)
      unfold okS
      try simp only
      omega
    · rw [sSqrt_neg h h0]; exact okS_zero
  · have e : sSqrt a = _ := on1_bad h
    rw [e]; exact okS_zero
theorem sSqrt_narrow {a a' : Int × Int} (ha : okS a) (ha' : okS a') (h : sIn a' a) : rIn (sSqrt a') (sSqrt a) := by
  by_cases h0 : 0 ≤ a.1
  · have h1 := h.1
    have h2 := h.2
    rw [sSqrt_ok ha h0, sSqrt_ok ha' (by omega)]
    refine rIn_zero ?_ ?_
    · exact Int.ofNat_le.2 (rtOf_mono false (Nat.mul_le_mul_right _ (by omega)))
    · exact Int.ofNat_le.2 (rtOf_mono true (Nat.mul_le_mul_right _ (by omega)))
  · rw [sSqrt_neg ha h0]
    intro e
    simp at e
theorem norm_in {e e' : Int} {a a' : V3} (ha : okV a) (ha' : okV a') (h : vIn a' a) (he : e = 0 → e' = 0) : normE e a = 0 → normE e' a' = 0 ∧ sIn (normS a') (normS a) := by
  unfold normE normS
  rw [fst2_nil, fst2_nil]
  rintro ⟨h1, h2⟩
  have h3 := h1
  unfold sumE at h3
  rw [fst2_nil, fst2_nil] at h3
  obtain ⟨e1, i1⟩ := each3_in (e' := e') nrw_sqr ha ha ha' ha' h h he h3.1.1
  obtain ⟨e2, i2⟩ := sum_in (e' := err3 sqrF e' a' a') (each3_okV nrw_sqr.okr _ _) (each3_okV nrw_sqr.okr _ _) i1 (fun _ => e1) h1
  obtain ⟨e3, i3⟩ := sSqrt_narrow (sum3_okS _) (sum3_okS _) i2 h2
  exact ⟨⟨e2, e3⟩, i3⟩
theorem vNorm_narrow {a a' : V3} (ha : okV a) (ha' : okV a') (h : vIn a' a) : rIn (vNorm a') (vNorm a) := by
  unfold rIn vNorm
  rw [toldS_nil, toldS_nil]
  intro e
  obtain ⟨e1, i1⟩ := norm_in (e' := vNote 0 a') ha ha' h (fun _ => vNote_ok ha') e
  rw [toldS_of e, toldS_of e1]
  exact ⟨e1, i1⟩
theorem normS_okS (a : V3) : okS (normS a) := sSqrt_okS _
theorem vUnit_narrow {a a' : V3} (ha : okV a) (ha' : okV a') (h : vIn a' a) : rInV (vUnit a') (vUnit a) := by
  unfold rInV vUnit
  rw [toldV_nil, toldV_nil]
  intro e
  have e0 := e
  rw [err3_nil] at e0
  obtain ⟨e1, i1⟩ := norm_in (e' := vNote 0 a') ha ha' h (fun _ => vNote_ok ha') e0.1
  obtain ⟨e2, i2⟩ := each3_in (e' := normE (vNote 0 a') a') nrw_div ha (b := alikeV (normS a)) ⟨normS_okS _, normS_okS _, normS_okS _⟩ ha' (b' := alikeV (normS a')) ⟨normS_okS _, normS_okS _, normS_okS _⟩ h ⟨i1, i1, i1⟩ (fun _ => e1) e
  rw [toldV_of e, toldV_of e2]
  exact ⟨e2, i2⟩
/-! Orders of arguments -/
theorem vOp_ok (f : Int × Int → Int × Int → (Int × Int) × Int) {a b : V3} (ha : okV a) (hb : okV b) : vOp f a b = toldV (each3 f a b) (err3 f 0 a b) := by
  unfold vOp
  rw [vNote_ok ha, vNote_ok hb]
theorem vAdd_comm {a b : V3} (ha : okV a) (hb : okV b) : vAdd a b = vAdd b a := by
  unfold vAdd
  rw [vOp_ok _ ha hb, vOp_ok _ hb ha]
  unfold each3 err3
  rw [sAdd_comm a.1, sAdd_comm a.2.1, sAdd_comm a.2.2]
theorem vDot_comm {a b : V3} (ha : okV a) (hb : okV b) : vDot a b = vDot b a := by
  unfold vDot dotS dotE
  rw [vNote_ok ha, vNote_ok hb, vNote_ok ha]
  unfold err3 each3
  rw [sMul_comm a.1, sMul_comm a.2.1, sMul_comm a.2.2]
/-- The negative of a vector. -/
def ngV (a : V3) : V3 := ((-a.1.2, -a.1.1), (-a.2.1.2, -a.2.1.1), (-a.2.2.2, -a.2.2.1))
theorem sNeg_okS {a : Int × Int} (h : okS a) : sNeg a = ((-a.2, -a.1), 0) := on1_ok h
theorem vNeg_ok {a : V3} (h : okV a) : vNeg a = (ngV a, 0) := by
  unfold vNeg err3 each3 negF
  rw [vNote_ok h, sNeg_okS h.1, sNeg_okS h.2.1, sNeg_okS h.2.2]
  rfl
theorem ngV_ok {a : V3} (h : okV a) : okV (ngV a) := ⟨okS_neg h.1, okS_neg h.2.1, okS_neg h.2.2⟩
theorem vAdd_neg {a b : V3} (ha : okV a) (hb : okV b) : vAdd a (ngV b) = vSub a b := by
  unfold vAdd vSub
  rw [vOp_ok _ ha (ngV_ok hb), vOp_ok _ ha hb]
  unfold each3 err3 ngV
  rw [sAdd_neg ha.1 hb.1, sAdd_neg ha.2.1 hb.2.1, sAdd_neg ha.2.2 hb.2.2]
theorem sSub_turn {a b : Int × Int} (ha : okS a) (hb : okS b) : (sSub a b).2 = (sSub b a).2 ∧ ((sSub a b).2 = 0 → (-(sSub b a).1.2, -(sSub b a).1.1) = (sSub a b).1) := by
  have e1 : sSub a b = _ := on2_ok ha hb
  have e2 : sSub b a = _ := on2_ok hb ha
  rw [e1, e2]
  try simp only
  by_cases h : -4503599627370496 ≤ a.1 - b.2 ∧ a.2 - b.1 ≤ 4503599627370496
  · rw [sT_ok h.1 h.2, sT_ok (by omega) (by omega)]
    refine ⟨rfl, fun _ => Prod.ext ?_ ?_⟩ <;> simp only <;> omega
  · rw [sT_bad h, sT_bad (by omega)]
    exact ⟨rfl, fun h => by simp at h⟩
theorem sSub_err {a b : Int × Int} (h : (sSub a b).2 ≠ 0) (ha : okS a) (hb : okS b) : (sSub a b).2 = 6 := by
  have e1 : sSub a b = _ := on2_ok ha hb
  rw [e1] at h ⊢
  unfold sT at h ⊢
  split <;> simp_all
theorem vSub3 {e : Int} {a b : V3} (ha : okV a) (hb : okV b) : err3 sSub e a b = err3 sSub e b a ∧ (err3 sSub e a b = 0 → ngV (each3 sSub b a) = each3 sSub a b) := by
  obtain ⟨x1, y1⟩ := sSub_turn ha.1 hb.1
  obtain ⟨x2, y2⟩ := sSub_turn ha.2.1 hb.2.1
  obtain ⟨x3, y3⟩ := sSub_turn ha.2.2 hb.2.2
  refine ⟨by unfold err3; rw [x1, x2, x3], fun h => ?_⟩
  rw [err3_nil] at h
  unfold ngV each3
  rw [← y1 h.2.1, ← y2 h.2.2.1, ← y3 h.2.2.2]
theorem vSub_turn {a b : V3} (ha : okV a) (hb : okV b) : (vSub a b).2 = (vSub b a).2 ∧ ((vSub a b).2 = 0 → ngV (vSub b a).1 = (vSub a b).1) := by
  unfold vSub
  rw [vOp_ok _ ha hb, vOp_ok _ hb ha]
  obtain ⟨x, y⟩ := vSub3 (e := 0) ha hb
  rw [← x]
  by_cases h : err3 sSub 0 a b = 0
  · rw [toldV_of h, toldV_of h]
    exact ⟨rfl, fun _ => y h⟩
  · refine ⟨?_, fun g => absurd (toldV_nil.1 g) h⟩
    unfold toldV
    rw [if_neg h, if_neg h]
theorem vSub_okV (a b : V3) : okV (vSub a b).1 := by
  unfold vSub vOp toldV
  split
  · exact each3_okV sSub_okS _ _
  · exact ⟨okS_zero, okS_zero, okS_zero⟩
theorem vCross_okV (a b : V3) : okV (vCross a b).1 := by
  unfold vCross toldV
  split
  · exact each3_okV sSub_okS _ _
  · exact ⟨okS_zero, okS_zero, okS_zero⟩
theorem cr_turn (a b : V3) : crP a b = crQ b a := by
  unfold crP crQ each3 turnV
  try simp only
  rw [sMul_comm a.2.1, sMul_comm a.2.2, sMul_comm a.1]
theorem cr_turn' (a b : V3) : crQ a b = crP b a := (cr_turn b a).symm
theorem sMul_err {a b : Int × Int} (h : (sMul a b).2 ≠ 0) (ha : okS a) (hb : okS b) : (sMul a b).2 = 6 := by
  have e1 : sMul a b = _ := on2_ok ha hb
  rw [e1] at h ⊢
  unfold sT at h ⊢
  split <;> simp_all
theorem fst2_six {a b : Int} (h : a = 0 ∨ a = 6) (k : b = 0 ∨ b = 6) : fst2 a b = 0 ∨ fst2 a b = 6 := by
  unfold fst2
  split
  · exact k
  · exact h
theorem fst2_six_comm {a b : Int} (h : a = 0 ∨ a = 6) (k : b = 0 ∨ b = 6) : fst2 a b = fst2 b a := by
  unfold fst2
  split <;> split <;> omega
theorem err_or {f : Int × Int → Int × Int → (Int × Int) × Int} {a b : Int × Int} (h : (f a b).2 ≠ 0 → (f a b).2 = 6) : (f a b).2 = 0 ∨ (f a b).2 = 6 := by omega
theorem err3_six {f : Int × Int → Int × Int → (Int × Int) × Int} {e : Int} {a b : V3} (he : e = 0 ∨ e = 6) (h1 : (f a.1 b.1).2 = 0 ∨ (f a.1 b.1).2 = 6) (h2 : (f a.2.1 b.2.1).2 = 0 ∨ (f a.2.1 b.2.1).2 = 6) (h3 : (f a.2.2 b.2.2).2 = 0 ∨ (f a.2.2 b.2.2).2 = 6) : err3 f e a b = 0 ∨ err3 f e a b = 6 :=
  fst2_six (fst2_six (fst2_six he h1) h2) h3
theorem crE_six {e : Int} {a b : V3} (he : e = 0 ∨ e = 6) (ha : okV a) (hb : okV b) : err3 sMul e a b = 0 ∨ err3 sMul e a b = 6 :=
  err3_six he (err_or fun h => sMul_err h ha.1 hb.1) (err_or fun h => sMul_err h ha.2.1 hb.2.1) (err_or fun h => sMul_err h ha.2.2 hb.2.2)
theorem subE_six {e : Int} {a b : V3} (he : e = 0 ∨ e = 6) (ha : okV a) (hb : okV b) : err3 sSub e a b = 0 ∨ err3 sSub e a b = 6 :=
  err3_six he (err_or fun h => sSub_err h ha.1 hb.1) (err_or fun h => sSub_err h ha.2.1 hb.2.1) (err_or fun h => sSub_err h ha.2.2 hb.2.2)
theorem vCross_turn {a b : V3} (ha : okV a) (hb : okV b) : (vCross a b).2 = (vCross b a).2 ∧ ((vCross a b).2 = 0 → ngV (vCross b a).1 = (vCross a b).1) := by
  unfold vCross
  rw [vNote_ok ha, vNote_ok hb, vNote_ok ha, ← cr_turn' a b, ← cr_turn a b]
  have okP : okV (crP a b) := each3_okV sMul_okS _ _
  have okQ : okV (crQ a b) := each3_okV sMul_okS _ _
  obtain ⟨m1, m2⟩ : (err3 sMul (err3 sMul 0 (turnV a) (turnV (turnV b))) (turnV (turnV a)) (turnV b) = 0 ∨ err3 sMul (err3 sMul 0 (turnV a) (turnV (turnV b))) (turnV (turnV a)) (turnV b) = 6) ∧ (err3 sMul (err3 sMul 0 (turnV b) (turnV (turnV a))) (turnV (turnV b)) (turnV a) = 0 ∨ err3 sMul (err3 sMul 0 (turnV b) (turnV (turnV a))) (turnV (turnV b)) (turnV a) = 6) :=
    ⟨crE_six (crE_six (.inl rfl) (turn_ok ha) (turn_ok (turn_ok hb))) (turn_ok (turn_ok ha)) (turn_ok hb), crE_six (crE_six (.inl rfl) (turn_ok hb) (turn_ok (turn_ok ha))) (turn_ok (turn_ok hb)) (turn_ok ha)⟩
  have h0 : err3 sMul (err3 sMul 0 (turnV a) (turnV (turnV b))) (turnV (turnV a)) (turnV b) = err3 sMul (err3 sMul 0 (turnV b) (turnV (turnV a))) (turnV (turnV b)) (turnV a) := by
    have hiff : err3 sMul (err3 sMul 0 (turnV a) (turnV (turnV b))) (turnV (turnV a)) (turnV b) = 0 ↔ err3 sMul (err3 sMul 0 (turnV b) (turnV (turnV a))) (turnV (turnV b)) (turnV a) = 0 := by
      rw [err3_nil, err3_nil, err3_nil, err3_nil]
      unfold turnV
      try simp only
      rw [sMul_comm a.2.1, sMul_comm a.2.2, sMul_comm a.1, sMul_comm a.2.2, sMul_comm a.1, sMul_comm a.2.1]
      constructor
      · rintro ⟨⟨-, x⟩, y⟩; exact ⟨⟨by trivial, y⟩, x⟩
      · rintro ⟨⟨-, x⟩, y⟩; exact ⟨⟨by trivial, y⟩, x⟩
    omega
  rw [← h0]
  obtain ⟨x, y⟩ := vSub3 (e := err3 sMul (err3 sMul 0 (turnV a) (turnV (turnV b))) (turnV (turnV a)) (turnV b)) okP okQ
  rw [← x]
  by_cases h : err3 sSub (err3 sMul (err3 sMul 0 (turnV a) (turnV (turnV b))) (turnV (turnV a)) (turnV b)) (crP a b) (crQ a b) = 0
  · rw [toldV_of h, toldV_of h]
    exact ⟨rfl, fun _ => y h⟩
  · refine ⟨?_, fun g => absurd (toldV_nil.1 g) h⟩
    unfold toldV
    rw [if_neg h, if_neg h]
/-- The order law that the loop over the two operations asks. -/
structure Turns (f : V3 → V3 → V3 × Int) (a b : V3) : Prop where
  err : (f a b).2 = (f b a).2
  ok : okV (f b a).1
  neg : (f a b).2 = 0 → ngV (f b a).1 = (f a b).1
theorem turns_sub {a b : V3} (ha : okV a) (hb : okV b) : Turns vSub a b := ⟨(vSub_turn ha hb).1, vSub_okV _ _, (vSub_turn ha hb).2⟩
theorem turns_cross {a b : V3} (ha : okV a) (hb : okV b) : Turns vCross a b := ⟨(vCross_turn ha hb).1, vCross_okV _ _, (vCross_turn ha hb).2⟩
end Mnc
