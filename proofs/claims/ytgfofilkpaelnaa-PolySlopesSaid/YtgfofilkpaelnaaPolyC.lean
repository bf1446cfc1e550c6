/- Contracts of package poly: value, Eval. Printed by wip/genPC.py. -/
import Derived.Test.YtgfofilkpaelnaaPolyB
import Derived.Test.YtgfofilkpaelnaaScopeIn
namespace Go.Proofs.Ytgfofilkpaelnaa
open Go.RowKit Go.Shelf Mnc
attribute [local go_sem] Oper.semAt_some

theorem pAcc_err {s : Int × Int} {r : List (Int × Int)} (h : ¬ (pAcc s r).2 = 0) : ∀ m, pAcc s (m ++ r) = pAcc s r
  | [] => rfl
  | c :: m => by
    have ih := pAcc_err h m
    show (if (pAcc s (m ++ r)).2 = 0 then pStep s (pAcc s (m ++ r)).1 c else pAcc s (m ++ r)) = _
    rw [ih, if_neg h]
theorem pAcc_prefix {s : Int × Int} {l pre : List (Int × Int)} (hp : pre <+: l.reverse) (h : ¬ (pAcc s pre.reverse).2 = 0) : pAcc s l = pAcc s pre.reverse := by
  obtain ⟨t, ht⟩ := hp
  have e : l = t.reverse ++ pre.reverse := by
    rw [← List.reverse_append, ht, List.reverse_reverse]
  rw [e]
  exact pAcc_err h _
theorem pAcc_snoc {s x : Int × Int} {pre : List (Int × Int)} (h : (pAcc s pre.reverse).2 = 0) : pAcc s (pre ++ [x]).reverse = pStep s (pAcc s pre.reverse).1 x := by
  rw [List.reverse_append]
  show (if (pAcc s pre.reverse).2 = 0 then pStep s (pAcc s pre.reverse).1 x else pAcc s pre.reverse) = _
  rw [if_pos h]

/-- The boxes of value. -/
structure VlB (w W : World) (s : Int × Int) (r v : (Int × Int) × Int) : Prop where
  bel : Below w.heap.size w W
  sz : w.heap.size + 6 ≤ W.heap.size
  k0 : W.heap[w.heap.size]? = some (.cells #[.int .i64 s.1, .int .i64 s.2] 24 (0, 0))
  k1 : W.heap[w.heap.size + 1]? = some (.cells #[.int .i64 r.1.1, .int .i64 r.1.2] 24 (0, 0))
  k2 : W.heap[w.heap.size + 1 + 1]? = some (.cells #[.int .i64 v.1.1, .int .i64 v.1.2] 24 (0, 0))
  k3 : W.heap[w.heap.size + 1 + 1 + 1]? = some (.cells #[.int .i64 v.2] 35 (0, 0))
  k4 : W.heap[w.heap.size + 1 + 1 + 1 + 1]? = some (.cells #[.func (.func 149) #[] #[.pointer (some ⟨w.heap.size + 1 + 1, 0, none⟩), .pointer (some ⟨w.heap.size, 0, none⟩), .pointer (some ⟨w.heap.size + 1 + 1 + 1, 0, none⟩)]] 139 (0, 0))
theorem VlB.on {w W W' : World} {s : Int × Int} {r v : (Int × Int) × Int} (h : VlB w W s r v) (k : Below W.heap.size W W') : VlB w W' s r v :=
  ⟨below_step h.bel k, Nat.le_trans h.sz k.size, (k.block _ (lt_of_block h.k0)).trans h.k0, (k.block _ (lt_of_block h.k1)).trans h.k1, (k.block _ (lt_of_block h.k2)).trans h.k2, (k.block _ (lt_of_block h.k3)).trans h.k3, (k.block _ (lt_of_block h.k4)).trans h.k4⟩
theorem VlB.grown {w W W' : World} {s : Int × Int} {r v : (Int × Int) × Int} {row : Option Nat} {B : Nat} (h : VlB w W s r v) (hB : w.heap.size ≤ B) (hg : W.grownBy W' row) (hr : ∀ r, row = some r → B ≤ r ∧ ∃ o : Obj, W.heap[r]? = some o ∧ o.isCells = false) : VlB w W' s r v :=
  have hr' := fun r e => (hr r e).2
  ⟨h.bel.grown hg h.bel.size (fun k e => Nat.le_trans hB (hr k e).1), Nat.le_trans h.sz hg.size, block_kept h.k0 hg hr', block_kept h.k1 hg hr', block_kept h.k2 hg hr', block_kept h.k3 hg hr', block_kept h.k4 hg hr'⟩
theorem VlB.ext {w W W' : World} {s : Int × Int} {r v u : (Int × Int) × Int} (h : VlB w W s r v) (k : Ext W W' (w.heap.size + 1 + 1) (w.heap.size + 1 + 1 + 1) u) : VlB w W' s r u :=
  ⟨h.bel.trans (k.bel _ (by omega) (by omega) (by have := h.sz; omega)), Nat.le_trans h.sz k.keep.size, (k.oth _ (lt_of_block h.k0) (by omega) (by omega)).trans h.k0, (k.oth _ (lt_of_block h.k1) (by omega) (by omega)).trans h.k1, k.bv, k.be, (k.oth _ (lt_of_block h.k4) (by omega) (by omega)).trans h.k4⟩
theorem VlB.told {w W : World} {s : Int × Int} {r v : (Int × Int) × Int} (h : VlB w W s r v) (x y : Int) (z : Int) : VlB w ((W.setCell ⟨w.heap.size + 1, 0, none⟩ (.int .i64 x)).setCell ⟨w.heap.size + 1, 1, none⟩ (.int .i64 y)) s ((x, y), z) v :=
  ⟨below_set2 h.bel (by omega) _ _, by simp; exact h.sz, by rw [oth_set (by omega), oth_set (by omega)]; exact h.k0, set2_at h.k1, by rw [oth_set (by omega), oth_set (by omega)]; exact h.k2, by rw [oth_set (by omega), oth_set (by omega)]; exact h.k3, by rw [oth_set (by omega), oth_set (by omega)]; exact h.k4⟩
theorem vl_start (s : Int × Int) (l : List (Int × Int)) (ao : Option Addr) (cap : Nat) (w : World) : VlB w ((((((w.alloc (.cells #[.int .i64 s.1, .int .i64 s.2] 24)).alloc (.cells #[.int .i64 0, .int .i64 0] 24)).alloc (.cells #[.int .i64 0, .int .i64 0] 24)).alloc (.cells #[.int .i64 0] 35)).alloc (.cells #[.func (.func 149) #[] #[.pointer (some ⟨w.heap.size + 1 + 1, 0, none⟩), .pointer (some ⟨w.heap.size, 0, none⟩), .pointer (some ⟨w.heap.size + 1 + 1 + 1, 0, none⟩)]] 139)).alloc (.cells #[.slice ao l.length cap] 22)) s ((0, 0), 0) ((0, 0), 0) ∧ ((((((w.alloc (.cells #[.int .i64 s.1, .int .i64 s.2] 24)).alloc (.cells #[.int .i64 0, .int .i64 0] 24)).alloc (.cells #[.int .i64 0, .int .i64 0] 24)).alloc (.cells #[.int .i64 0] 35)).alloc (.cells #[.func (.func 149) #[] #[.pointer (some ⟨w.heap.size + 1 + 1, 0, none⟩), .pointer (some ⟨w.heap.size, 0, none⟩), .pointer (some ⟨w.heap.size + 1 + 1 + 1, 0, none⟩)]] 139)).alloc (.cells #[.slice ao l.length cap] 22)).heap[w.heap.size + 1 + 1 + 1 + 1 + 1]? = some (.cells #[.slice ao l.length cap] 22 (0, 0)) ∧ ((((((w.alloc (.cells #[.int .i64 s.1, .int .i64 s.2] 24)).alloc (.cells #[.int .i64 0, .int .i64 0] 24)).alloc (.cells #[.int .i64 0, .int .i64 0] 24)).alloc (.cells #[.int .i64 0] 35)).alloc (.cells #[.func (.func 149) #[] #[.pointer (some ⟨w.heap.size + 1 + 1, 0, none⟩), .pointer (some ⟨w.heap.size, 0, none⟩), .pointer (some ⟨w.heap.size + 1 + 1 + 1, 0, none⟩)]] 139)).alloc (.cells #[.slice ao l.length cap] 22)).heap.size = w.heap.size + 1 + 1 + 1 + 1 + 1 + 1 :=
  ⟨⟨below_alloc (below_alloc (below_alloc (below_alloc (below_alloc (below_alloc (Below.refl _ _) _) _) _) _) _) _, by simp, heap_up _ (heap_up _ (heap_up _ (heap_up _ (heap_up _ (heap_at _ rfl))))), heap_up _ (heap_up _ (heap_up _ (heap_up _ (heap_at _ (by simp))))), heap_up _ (heap_up _ (heap_up _ (heap_at _ (by simp)))), heap_up _ (heap_up _ (heap_at _ (by simp))), heap_up _ (heap_at _ (by simp))⟩, heap_at _ (by simp), by simp⟩

set_option maxRecDepth 100000 in
set_option maxHeartbeats 4000000 in
theorem poly_value (l : List (Int × Int)) (s : Int × Int) (ao : Option Addr) (cap : Nat) (w : World) (h : SpSl w ao cap l) :
    Calls Try.prog 85 #[.slice ao l.length cap, .agg #[.int .i64 s.1, .int .i64 s.2]] w fun e w' => e = .returned (.tuple #[.agg #[.int .i64 (pVal l s).1.1, .int .i64 (pVal l s).1.2], .int .i64 (pVal l s).2]) ∧ Below w.heap.size w w' := by
  have HLT : Hid (∀ a, ao = some a → l ≠ [] → a.block < w.heap.size) := Lib.hid (fun a ha hne => by
    obtain ⟨c, r, rfl⟩ := List.exists_cons_of_ne_nil hne
    have h2 := h.cells a ha 0 _ rfl
    have e := h.isSome a ha
    rw [e, add_plain] at h2
    apply Nat.lt_of_not_le
    intro hn
    rw [World.cell?, Array.getElem?_eq_none hn] at h2
    cases h2)
  refine (callsIn_wide (n := 5)).1 ?_
  refine callsIn_of_wp_marks Try.func85 rfl trivial ?_ rfl
  simp only [Try.ntmps85, List.size_toArray, List.length_cons, List.length_nil, Nat.reduceAdd, Nat.reduceSub, Array.replicate_succ, Array.replicate_zero, List.push_toArray, List.append_toArray, List.nil_append, List.cons_append]
  gi_wp2
  refine wpIn_scope_straight ?_
  gi_wp2
  refine wpIn_label ?_
  gi_wp2_with (refine ⟨trivial, ?_⟩; gi_at_call 150; refine (callsIn_wide.2 (poly_down _ _ ⟨_, _, _, rfl⟩)).mono ?_; rintro e w' ⟨rfl, rfl⟩)
  obtain ⟨hB0, hA, hsz⟩ := vl_start s l ao cap w
  have hl0 := h.on (hB0.bel)
  generalize ((((((w.alloc (.cells #[.int .i64 s.1, .int .i64 s.2] 24)).alloc (.cells #[.int .i64 0, .int .i64 0] 24)).alloc (.cells #[.int .i64 0, .int .i64 0] 24)).alloc (.cells #[.int .i64 0] 35)).alloc (.cells #[.func (.func 149) #[] #[.pointer (some ⟨w.heap.size + 1 + 1, 0, none⟩), .pointer (some ⟨w.heap.size, 0, none⟩), .pointer (some ⟨w.heap.size + 1 + 1 + 1, 0, none⟩)]] 139)).alloc (.cells #[.slice ao l.length cap] 22)) = W0 at *
  refine wpIn_rangeFunc_ownH rfl (by omega) (gf := 178) (lb := #[.pointer (some ⟨w.heap.size + 1 + 1 + 1 + 1 + 1, 0, none⟩)]) rfl trivial (enters_of Try.func178 (by kernel_rfl) rfl)
    (down_in l ao cap _ (by omega) w.heap.size _ W0 hA hl0 HLT.out) KeepD.trans
    (fun W l' o o' hl ho h1 h2 => ⟨belowK_b (w := W0) (by omega) W l' o o' hl ho h1 h2, World.putObj_heap_other (by omega)⟩)
    (Below.refl _ _) (fun _ => rfl)
    (fun pre W => VlB w W s ((0, 0), 0) (pAcc s pre.reverse) ∧ (pAcc s pre.reverse).2 = 0)
    (fun c pre W => (∃ id, c = .exit id ∧ id = 0) ∧ VlB w W s ((0, 0), 0) (pAcc s pre.reverse) ∧ ¬ (pAcc s pre.reverse).2 = 0)
    (fun pre W W' row hs hg hr => ⟨hs.1.grown (B := W0.heap.size) (by omega) hg hr, hs.2⟩)
    (fun c pre W W' row hs hg hr => ⟨hs.1, hs.2.1.grown (B := W0.heap.size) (by omega) hg hr, hs.2.2⟩)
    ⟨hB0, rfl⟩
    (fun x a' W => ∃ Bx, w.heap.size + 1 + 1 + 1 + 1 + 1 + 1 ≤ Bx ∧ W.heap[Bx]? = some (.cells #[.int .i64 x.1, .int .i64 x.2] 24 (0, 0)) ∧ a' = { tmps := #[.slice ao l.length cap, .agg #[.int .i64 s.1, .int .i64 s.2], undef, .pointer (some ⟨w.heap.size, 0, none⟩), .pointer (some ⟨w.heap.size + 1, 0, none⟩), .int .i64 0, .pointer (some ⟨w.heap.size + 1 + 1, 0, none⟩), .pointer (some ⟨w.heap.size + 1 + 1 + 1, 0, none⟩), .pointer (some ⟨w.heap.size + 1 + 1 + 1 + 1, 0, none⟩), .pointer (some ⟨Bx, 0, none⟩), .func (.func 149) #[] #[.pointer (some ⟨w.heap.size + 1 + 1, 0, none⟩), .pointer (some ⟨w.heap.size, 0, none⟩), .pointer (some ⟨w.heap.size + 1 + 1 + 1, 0, none⟩)], .slice ao l.length cap, .func (.func 178) #[] #[.pointer (some ⟨w.heap.size + 1 + 1 + 1 + 1 + 1, 0, none⟩)], .agg #[.int .i64 x.1, .int .i64 x.2], undef, undef, undef, undef, undef, undef, undef], defers := [] })
    (fun x a' _ X Y row hs hg hr => by obtain ⟨Bx, h1, h2, h3⟩ := hs; exact ⟨Bx, h1, block_kept h2 hg (fun r e => (hr r e).2), h3⟩)
    ?assign ?body ?done ?stop
  case assign =>
    rintro l' pre x W K ⟨hB, hz⟩ hK
    have HZ := Lib.hid hz
    have HK := Lib.hid hK
    clear hz hK hA hl0 h
    simp only [encS]
    gi_wp2
    have hb := below_alloc (Below.refl W.heap.size W) (.cells #[.int .i64 x.1, .int .i64 x.2] 24)
    exact HK.out _ _ ((KeepsOthers.alloc _ _).from _) ⟨hb.mono hB.bel.size, hb.block _ (by have := hB.sz; omega)⟩ ⟨hB.on hb, HZ.out⟩ ⟨W.heap.size, by have := hB.sz; omega, heap_at _ rfl, rfl⟩
  case body =>
    rintro l' pre x a' W hl ⟨rr, hrr⟩ ⟨hB, hz⟩ ⟨Bx, hBx, hX, rfl⟩ hlen
    have HZ := Lib.hid hz
    have HSN := Lib.hid (pAcc_snoc (x := x) hz)
    clear hz hA hl0 h hrr hsz hB0 hlen
    have x0 := cell_two0 hX
    have x1 := cell_two1 hX
    have e0 := cell_of_one hB.k4
    have HX := Lib.hid hX
    clear hX
    gi_wp2_with fail
    refine ⟨trivial, ?_⟩
    refine (CallsIn.inRound l' (callsIn_wide.2 (poly_extend s _ x _ _ _ _ _ (by omega) hB.k2 hB.k0 hB.k3))).mono ?_
    rintro e W3 ⟨⟨v, rfl⟩, hT⟩
    obtain ⟨R, hR⟩ : ∃ R, R = pStep s (pAcc s pre.reverse).1 x := ⟨_, rfl⟩
    rw [← hR] at hT HSN
    clear hR
    have hB3 := hB.ext hT
    have hkd : KeepD w.heap.size (w.heap.size + 1 + 1 + 1 + 1 + 1) W W3 := ⟨hT.bel _ (by omega) (by omega) (by have := hB.sz; omega), hT.oth _ (by have := hB.sz; omega) (by omega) (by omega)⟩
    clear x0 x1 e0
    have q := cell_of_one hB3.k3
    by_cases hz3 : R.2 = 0
    · have HZ3 := Lib.hid hz3
      rw [hz3] at q
      clear hz3
      gi_wp2_with fail
      exact ⟨hT.keep.from _, hkd, by rw [HSN.out]; exact hB3, by rw [HSN.out]; exact HZ3.out⟩
    · have HZ3 := Lib.hid hz3
      have z1 : (R.2 == 0) = false := by simp [hz3]
      have z2 : (R.2 != 0) = true := by simp [hz3]
      clear hz3
      gi_wp2_with fail
      exact ⟨hT.keep.from _, ⟨0, rfl, rfl⟩, by rw [HSN.out]; exact hB3, by rw [HSN.out]; exact HZ3.out⟩
  case done =>
    rintro D xs W hD rfl ⟨hB, hz⟩ hK
    rw [List.reverse_reverse] at hB
    have HS : Hid (w.heap.size + 6 ≤ W0.heap.size) := Lib.hid (by omega)
    have HK := Lib.hid hK
    clear hK hA hl0 h hB0 hsz hz
    have r0 := cell_two0 hB.k1
    have r1 := cell_two1 hB.k1
    have g0 := free_two (i := 0) hB.k1
    have g1 := free_two (i := 1) hB.k1
    have v0 := cell_two0 hB.k2
    have v1 := cell_two1 hB.k2
    have e0 := cell_of_one hB.k3
    gi_wp2_with fail
    gi_region
    all_goals
      gi_wp2
      rw [Exit.noGoto_ret]
      have hB2 := (hB.told (pAcc s l).1.1 (pAcc s l).1.2 (pAcc s l).2).on (Below.refl _ _).drew
      have hK2 := (((KeepsOthers.setCell W ⟨w.heap.size + 1, 0, none⟩ (.int .i64 (pAcc s l).1.1)).trans (KeepsOthers.setCell _ ⟨w.heap.size + 1, 1, none⟩ (.int .i64 (pAcc s l).1.2))).trans (KeepsOthers.drew _)).same D _ HK.out rfl
      refine ⟨by simp, .inl ⟨_, _, rfl, run_takeDeferred hK2, ?_⟩⟩
      have hB3 := hB2.grown (B := W0.heap.size) (by have := HS.out; omega) (grownBy_putObj' _ D (.deferred none)) (fun r e => by cases e; exact ⟨hD, _, hK2, rfl⟩)
      have q0 := cell_two0 hB3.k1
      have q1 := cell_two1 hB3.k1
      refine ⟨.tuple #[.agg #[.int .i64 (pAcc s l).1.1, .int .i64 (pAcc s l).1.2], .int .i64 (pAcc s l).2], ?_, rfl, hB3.bel⟩
      simp [results, Try.results85, go_sem, q0, q1]
  case stop =>
    rintro D c pre W hD hpre ⟨⟨id, rfl, rfl⟩, hB, hz⟩ hK
    rw [← pAcc_prefix hpre hz] at hB
    have HS : Hid (w.heap.size + 6 ≤ W0.heap.size) := Lib.hid (by omega)
    have HK := Lib.hid hK
    clear hK hA hl0 h hB0 hsz hz
    have r0 := cell_two0 hB.k1
    have r1 := cell_two1 hB.k1
    have g0 := free_two (i := 0) hB.k1
    have g1 := free_two (i := 1) hB.k1
    have v0 := cell_two0 hB.k2
    have v1 := cell_two1 hB.k2
    have e0 := cell_of_one hB.k3
    gi_wp2_with fail
    gi_region
    all_goals
      gi_wp2
      rw [Exit.noGoto_ret]
      have hB2 := (hB.told (pAcc s l).1.1 (pAcc s l).1.2 (pAcc s l).2).on (Below.refl _ _).drew
      have hK2 := (((KeepsOthers.setCell W ⟨w.heap.size + 1, 0, none⟩ (.int .i64 (pAcc s l).1.1)).trans (KeepsOthers.setCell _ ⟨w.heap.size + 1, 1, none⟩ (.int .i64 (pAcc s l).1.2))).trans (KeepsOthers.drew _)).same D _ HK.out rfl
      refine ⟨by simp, .inl ⟨_, _, rfl, run_takeDeferred hK2, ?_⟩⟩
      have hB3 := hB2.grown (B := W0.heap.size) (by have := HS.out; omega) (grownBy_putObj' _ D (.deferred none)) (fun r e => by cases e; exact ⟨hD, _, hK2, rfl⟩)
      have q0 := cell_two0 hB3.k1
      have q1 := cell_two1 hB3.k1
      refine ⟨.tuple #[.agg #[.int .i64 (pAcc s l).1.1, .int .i64 (pAcc s l).1.2], .int .i64 (pAcc s l).2], ?_, rfl, hB3.bel⟩
      simp [results, Try.results85, go_sem, q0, q1]

set_option maxRecDepth 100000 in
set_option maxHeartbeats 1000000 in
theorem poly_Eval (l : List (Int × Int)) (s : Int × Int) (ao : Option Addr) (cap : Nat) (w : World) (h : SpSl w ao cap l) :
    Calls Try.prog 20 #[.slice ao l.length cap, .agg #[.int .i64 s.1, .int .i64 s.2]] w fun e w' => e = .returned (.tuple #[.agg #[.int .i64 (pEval l s).1.1, .int .i64 (pEval l s).1.2], .int .i64 (pEval l s).2]) ∧ Below w.heap.size w w' := by
  have hB := Bx2.start w s (0, 0)
  have H := Lib.hid h
  clear h
  have HC := Lib.hid (fun W hS => poly_check l s ao cap W hS)
  obtain ⟨c, hc⟩ : ∃ c, c = pChk l s := ⟨_, rfl⟩
  rw [← hc] at HC
  by_cases hz : c = 0
  · subst hz
    have HR := Lib.hid (pEval_ok hc.symm)
    clear hc
    go_enter Try.func20, Try.ntmps20
    go_wp2_with fail
    refine (HC.out _ (H.out.on hB.bel)).mono ?_; rintro e w2 ⟨rfl, hbel⟩
    have hB := hB.on hbel
    clear hbel
    have a0 := cell_two0 hB.b0
    have a1 := cell_two1 hB.b0
    go_wp2_with fail
    refine (poly_value l s ao cap _ (H.out.on hB.bel)).mono ?_; rintro e w3 ⟨rfl, hbel⟩
    rw [← HR.out]
    have hB := hB.on hbel
    clear hbel a0 a1
    have c0 := cell_two0 hB.b1
    have c1 := cell_two1 hB.b1
    have f0 := free_two (i := 0) hB.b1
    have f1 := free_two (i := 1) hB.b1
    have l2 := lt_of_block hB.b1
    go_wp2_with fail
    exact bodyPost_ret (v := .tuple #[.agg #[.int .i64 (pEval l s).1.1, .int .i64 (pEval l s).1.2], .int .i64 (pEval l s).2]) (by simp [results, Try.results20, go_sem, c0, c1]) rfl ⟨rfl, below_set2 hB.bel (by omega) _ _⟩
  · have HR := Lib.hid (show pEval l s = ((0, 0), c) by rw [hc]; exact pEval_bad (by rw [← hc]; exact hz))
    have z1 : (c == 0) = false := by simp [hz]
    have z2 : (c != 0) = true := by simp [hz]
    clear hc hz
    go_enter Try.func20, Try.ntmps20
    go_wp2_with fail
    refine (HC.out _ (H.out.on hB.bel)).mono ?_; rintro e w2 ⟨rfl, hbel⟩
    have hB := hB.on hbel
    clear hbel
    have c0 := cell_two0 hB.b1
    have c1 := cell_two1 hB.b1
    have f0 := free_two (i := 0) hB.b1
    have f1 := free_two (i := 1) hB.b1
    have l2 := lt_of_block hB.b1
    go_wp2_with fail
    exact bodyPost_ret (v := .tuple #[.agg #[.int .i64 0, .int .i64 0], .int .i64 c]) (by simp [results, Try.results20, go_sem, c0, c1]) rfl ⟨ret_sp HR.out, below_set2 hB.bel (by omega) _ _⟩

end Go.Proofs.Ytgfofilkpaelnaa
