/- Contracts of package poly: Slope. -/
import Derived.Test.YtgfofilkpaelnaaPolyD
namespace Go.Proofs.Ytgfofilkpaelnaa
open Go.RowKit Go.Shelf Mnc

/-- The boxes of Slope, and its own row of coefficients. -/
structure SlB (w W : World) (s : Int × Int) (g cap : Nat) (L : List (Int × Int)) : Prop where
  bx : Bx2 w W s (0, 0)
  own : W.ownsRow (w.heap.size + 2) 24 2 (.slice (some ⟨g, 0, none⟩) L.length cap) L.length (flat L)
theorem SlB.lt {w W : World} {s : Int × Int} {g cap : Nat} {L : List (Int × Int)} (h : SlB w W s g cap L) : w.heap.size + 2 ≤ g ∧ g < W.heap.size := h.own.lt g rfl
theorem SlB.on {w W W' : World} {s : Int × Int} {g cap : Nat} {L : List (Int × Int)} (h : SlB w W s g cap L) (k : Below W.heap.size W W') : SlB w W' s g cap L where
  bx := h.bx.on k
  own := by
    have hlt := h.lt.2
    refine ⟨h.own.1, ?_⟩
    rcases h.own.2 with ⟨h', _⟩ | ⟨g', cap', cur, h', hb, hg, hr⟩
    · simp at h'
    · have e := h'
      simp only [Value.slice.injEq, Option.some.injEq, Addr.mk.injEq, and_true, true_and] at e
      obtain ⟨rfl, rfl⟩ := e
      exact .inr ⟨g, cap, cur, rfl, hb, (k.block _ hlt).trans hg, hr⟩
theorem SlB.at {w W : World} {s c : Int × Int} {g cap i : Nat} {L : List (Int × Int)} (h : SlB w W s g cap L) (hc : L[i]? = some c) : W.cell? ⟨g, i * 2, none⟩ = some (.int .i64 c.1) ∧ W.cell? ⟨g, i * 2 + 1, none⟩ = some (.int .i64 c.2) := by
  obtain ⟨h1, h2⟩ := flat_at L i c hc
  have hi := (List.getElem?_eq_some_iff.1 hc).1
  rw [Nat.mul_comm i 2]
  exact ⟨(h.own.cellAt _ (by omega)).trans h1, (h.own.cellAt _ (by omega)).trans h2⟩
theorem SlB.set {w W : World} {s c : Int × Int} {g cap i : Nat} {L : List (Int × Int)} (h : SlB w W s g cap L) (hi : i < L.length) : SlB w ((W.setCell ⟨g, i * 2, none⟩ (.int .i64 c.1)).setCell ⟨g, i * 2 + 1, none⟩ (.int .i64 c.2)) s g cap (L.set i c) where
  bx := by
    have hl := h.lt
    exact ⟨(h.bx.bel.setCell (show _ ≤ g by omega) _).setCell (show _ ≤ g by omega) _, by rw [heap_setCell_other _ _ _ _ (by simp; omega), heap_setCell_other _ _ _ _ (by simp; omega)]; exact h.bx.b0, by rw [heap_setCell_other _ _ _ _ (by simp; omega), heap_setCell_other _ _ _ _ (by simp; omega)]; exact h.bx.b1⟩
  own := by
    have h2 := ((h.own.stored (i * 2) (.int .i64 c.1)).1.stored (i * 2 + 1) (.int .i64 c.2)).1
    rw [flat_set _ _ _ hi] at h2
    simpa using h2
theorem SlB.spsl {w W : World} {s : Int × Int} {g cap : Nat} {L : List (Int × Int)} (h : SlB w W s g cap L) (hl : L.length ≤ 1000) : SpSl W (some ⟨g, 0, none⟩) cap L where
  le := by
    rcases h.own.2 with ⟨h', _⟩ | ⟨g', cap', cur, h', hb, hg, hr, _⟩
    · simp at h'
    · simp only [Value.slice.injEq, Option.some.injEq, Addr.mk.injEq, and_true, true_and] at h'
      obtain ⟨rfl, rfl⟩ := h'
      exact hr
  max := by omega
  cmax := by
    rcases h.own.2 with ⟨h', _⟩ | ⟨g', cap', cur, h', hb, hg, hr, hm, _⟩
    · simp at h'
    · simp only [Value.slice.injEq, Option.some.injEq, Addr.mk.injEq, and_true, true_and] at h'
      obtain ⟨rfl, rfl⟩ := h'
      unfold maxLen at hm
      omega
  isNil := fun e => by cases e
  isSome := fun a e => by cases e; rfl
  cells := fun a e j u hu => by cases e; exact h.own.cells rfl j u hu

/-- What a[1:] is. -/
theorem SpSl.tail {W : World} {b off cap : Nat} {c : Int × Int} {l : List (Int × Int)} (h : SpSl W (some ⟨b, off, none⟩) cap (c :: l)) : ∃ o, (if cap - 1 = 0 then (⟨b, off, none⟩ : Addr) else ⟨b, off + 2, none⟩) = ⟨b, o, none⟩ ∧ SpSl W (some ⟨b, o, none⟩) (cap - 1) l := by
  have hle := h.le
  have hm := h.max
  have hc := h.cmax
  simp only [List.length_cons] at hle hm
  by_cases hz : cap - 1 = 0
  · refine ⟨off, by rw [if_pos hz], ⟨by omega, by omega, by omega, fun e => by (cases e), fun a e => by cases e; rfl, fun a e j u hu => ?_⟩⟩
    obtain rfl : l = [] := List.eq_nil_of_length_eq_zero (by omega)
    simp [flat] at hu
  · refine ⟨off + 2, by rw [if_neg hz], ⟨by omega, by omega, by omega, fun e => by (cases e), fun a e => by cases e; rfl, fun a e j u hu => ?_⟩⟩
    cases e
    have := h.cells _ rfl (j + 2) u (by rw [flat_cons]; exact hu)
    rw [add_plain] at this ⊢
    rw [show off + 2 + j = off + (j + 2) by omega]
    exact this

theorem pSlope_bad {l : List (Int × Int)} {s : Int × Int} (h : ¬ pChk l s = 0) : pSlope l s = ((0, 0), pChk l s) := if_neg h
theorem pSlope_nil {s : Int × Int} (h : pChk [] s = 0) : pSlope [] s = ((0, 0), 0) := by rw [pSlope, if_pos h, if_pos rfl]
theorem pSlope_err {c : Int × Int} {l : List (Int × Int)} {s : Int × Int} (h : pChk (c :: l) s = 0) (he : ¬ (pScA l 0 []).2 = 0) : pSlope (c :: l) s = ((0, 0), (pScA l 0 []).2) := by rw [pSlope, if_pos h, if_neg (by simp), List.tail_cons, if_neg he]
theorem pSlope_ok {c : Int × Int} {l : List (Int × Int)} {s : Int × Int} (h : pChk (c :: l) s = 0) (he : (pScA l 0 []).2 = 0) : pSlope (c :: l) s = pVal (pScA l 0 []).1 s := by rw [pSlope, if_pos h, if_neg (by simp), List.tail_cons, if_pos he]

set_option maxRecDepth 100000 in
set_option maxHeartbeats 1000000 in
theorem poly_Slope_bad (l : List (Int × Int)) (s : Int × Int) (ao : Option Addr) (cap : Nat) (w : World) (h : SpSl w ao cap l) (hz : ¬ pChk l s = 0) :
    Calls Try.prog 22 #[.slice ao l.length cap, .agg #[.int .i64 s.1, .int .i64 s.2]] w fun e w' => e = .returned (.tuple #[.agg #[.int .i64 (pSlope l s).1.1, .int .i64 (pSlope l s).1.2], .int .i64 (pSlope l s).2]) ∧ Below w.heap.size w w' := by
  have hB := Bx2.start w s (0, 0)
  have H := Lib.hid h
  clear h
  have HC := Lib.hid (fun W hS => poly_check l s ao cap W hS)
  have HR := Lib.hid (pSlope_bad hz)
  obtain ⟨c, hc⟩ : ∃ c, c = pChk l s := ⟨_, rfl⟩
  rw [← hc] at HC HR hz
  have z1 : (c == 0) = false := by simp [hz]
  have z2 : (c != 0) = true := by simp [hz]
  clear hc hz
  go_enter Try.func22, Try.ntmps22
  go_wp2_with fail
  refine (HC.out _ (H.out.on hB.bel)).mono ?_; rintro e w2 ⟨rfl, hbel⟩
  have hB := hB.on hbel
  clear hbel
  have c0 := cell_two0 hB.b1
  have c1 := cell_two1 hB.b1
  have f0 := free_two (i := 0) hB.b1
  have f1 := free_two (i := 1) hB.b1
  have l2 := lt_of_block hB.b1
  go_wp2_with fail
  exact bodyPost_ret (v := .tuple #[.agg #[.int .i64 0, .int .i64 0], .int .i64 c]) (by simp [results, Try.results22, go_sem, c0, c1]) rfl ⟨ret_sp HR.out, below_set2 hB.bel (by omega) _ _⟩

set_option maxRecDepth 100000 in
set_option maxHeartbeats 1000000 in
theorem poly_Slope_nil (s : Int × Int) (ao : Option Addr) (cap : Nat) (w : World) (h : SpSl w ao cap []) (hz : pChk [] s = 0) :
    Calls Try.prog 22 #[.slice ao (0 : Nat) cap, .agg #[.int .i64 s.1, .int .i64 s.2]] w fun e w' => e = .returned (.tuple #[.agg #[.int .i64 (pSlope [] s).1.1, .int .i64 (pSlope [] s).1.2], .int .i64 (pSlope [] s).2]) ∧ Below w.heap.size w w' := by
  have hB := Bx2.start w s (0, 0)
  have H := Lib.hid h
  clear h
  have HC := Lib.hid (fun W hS => poly_check [] s ao cap W hS)
  rw [hz] at HC
  have HR := Lib.hid (pSlope_nil hz)
  clear hz
  go_enter Try.func22, Try.ntmps22
  go_wp2_with fail
  refine (HC.out _ (H.out.on hB.bel)).mono ?_; rintro e w2 ⟨rfl, hbel⟩
  have hB := hB.on hbel
  clear hbel
  have c0 := cell_two0 hB.b1
  have c1 := cell_two1 hB.b1
  have f0 := free_two (i := 0) hB.b1
  have f1 := free_two (i := 1) hB.b1
  have l2 := lt_of_block hB.b1
  go_wp2_with fail
  exact bodyPost_ret (v := .tuple #[.agg #[.int .i64 0, .int .i64 0], .int .i64 0]) (by simp [results, Try.results22, go_sem, c0, c1]) rfl ⟨ret_sp HR.out, below_set2 hB.bel (by omega) _ _⟩

theorem owns_mono {w : World} {base base' : Nat} {e : TypeId} {size : Nat} {v : Value} {n : Nat} {xs : List Value} (h : w.ownsRow base e size v n xs) (hb : base' ≤ base) : w.ownsRow base' e size v n xs := by
  refine ⟨h.1, ?_⟩
  rcases h.2 with h' | ⟨g, cap, cur, h1, h2, hr⟩
  · exact .inl h'
  · exact .inr ⟨g, cap, cur, h1, Nat.le_trans hb h2, hr⟩
theorem set_mid {acc t : List (Int × Int)} {x y : Int × Int} {k : Nat} (h : acc.length = k) : (acc ++ x :: t).set k y = (acc ++ [y]) ++ t := by
  subst h
  simp
theorem drop_at {l : List (Int × Int)} {k : Nat} {x : Int × Int} (h : l[k]? = some x) : l.drop k = x :: l.drop (k + 1) := by
  obtain ⟨hk, rfl⟩ := List.getElem?_eq_some_iff.1 h
  exact List.drop_eq_getElem_cons hk

set_option maxRecDepth 100000 in
set_option maxHeartbeats 2000000 in
theorem poly_Slope_some2 (c : Int × Int) (l : List (Int × Int)) (s : Int × Int) (b off d : Nat) (w : World) (h : SpSl w (some ⟨b, off, none⟩) (d + 2) (c :: l)) (hT : SpSl w (some ⟨b, off + 2, none⟩) (d + 1) l) (hz : pChk (c :: l) s = 0) :
    Calls Try.prog 22 #[.slice (some ⟨b, off, none⟩) (c :: l).length (d + 2), .agg #[.int .i64 s.1, .int .i64 s.2]] w fun e w' => e = .returned (.tuple #[.agg #[.int .i64 (pSlope (c :: l) s).1.1, .int .i64 (pSlope (c :: l) s).1.2], .int .i64 (pSlope (c :: l) s).2]) ∧ Below w.heap.size w w' := by
  have hB := Bx2.start w s (0, 0)
  have hle := h.le
  have hmax := h.cmax
  have H := Lib.hid h
  have HT := Lib.hid hT
  clear h hT
  have hl8 : l.length + 1 ≤ 8 := by
    apply Nat.le_of_not_lt
    intro hn
    rw [pChk_long (by simpa using hn)] at hz
    cases hz
  have HC := Lib.hid (fun W hS => poly_check (c :: l) s (some ⟨b, off, none⟩) (d + 2) W hS)
  have HCl := Lib.hid (fun W hS => clone_spans l b (off + 2) (d + 1) W hS (by omega))
  have HPS := Lib.hid (fun he => pSlope_err (l := l) hz he)
  have HPO := Lib.hid (fun he => pSlope_ok (l := l) hz he)
  rw [hz] at HC
  rw [List.length_cons] at hle HC ⊢
  obtain ⟨n, hn⟩ : ∃ n, n = l.length := ⟨_, rfl⟩
  have HN := Lib.hid hn
  rw [← hn] at hle hl8 HC HCl ⊢
  have q1 : ((((n + 1 : Nat) : Int)) == 0) = false := by
    rw [beq_eq_false_iff_ne]
    omega
  clear hn hz
  go_enter Try.func22, Try.ntmps22
  go_wp2_with fail
  refine (HC.out _ (H.out.on hB.bel)).mono ?_; rintro e w2 ⟨rfl, hbel⟩
  have hB := hB.on hbel
  clear hbel
  go_wp2_with fail
  refine (HCl.out _ (HT.out.on hB.bel)).mono ?_
  rintro e w3 ⟨v', rfl, hown, hnil, hbel⟩
  obtain ⟨g, capd, rfl⟩ : ∃ g capd, v' = .slice (some ⟨g, 0, none⟩) n capd := by
    rcases hown.2 with ⟨h', _⟩ | ⟨g', cap', cur, h', _⟩
    · exact absurd h' hnil
    · exact ⟨g', cap', h'⟩
  have HS : Hid (SlB w w3 s g capd l) := Lib.hid ⟨hB.on hbel, by rw [← HN.out]; exact owns_mono hown (by have := lt_of_block hB.b1; omega)⟩
  clear hown hnil hbel hB q1 hmax hle
  go_wp2_with fail
  go_simp
  go_loopw [27] (fun i wr => ∃ k : Nat, k ≤ n ∧ i = .int .i64 k ∧ ∃ acc : List (Int × Int), Hid (acc.length = k ∧ pScA l 0 [] = pScA (l.drop k) k acc ∧ SlB w wr s g capd (acc ++ l.drop k))) (fun i _ => n - (intOf i).toNat)
  case atStart => exact ⟨0, by omega, rfl, [], Lib.hid ⟨rfl, rfl, HS.out⟩⟩
  case round =>
    clear HS
    obtain ⟨k, hk, rfl, acc, HI⟩ := hrel
    rcases Nat.lt_or_ge k n with hk' | hk'
    · obtain ⟨x, hx⟩ : ∃ x, l[k]? = some x := ⟨_, List.getElem?_eq_getElem (by rw [← HN.out]; exact hk')⟩
      have HD : Hid (l.drop k = x :: l.drop (k + 1)) := Lib.hid (drop_at hx)
      have HI2 : Hid (acc.length = k ∧ pScA l 0 [] = pScA (x :: l.drop (k + 1)) k acc ∧ SlB w wr s g capd (acc ++ x :: l.drop (k + 1))) := Lib.hid (by rw [← HD.out]; exact HI.out)
      clear hx
      obtain ⟨c0, c1⟩ := HI2.out.2.2.at (i := k) (c := x) (by rw [← HI2.out.1]; simp)
      have HSc := Lib.hid (fun W => span_Scale x ((k : Int) + 1) 1 W)
      have HOK := Lib.hid (fun he => pScA_ok (r := l.drop (k + 1)) (acc := acc) (i := k) (c := x) he)
      have HNO := Lib.hid (fun he => pScA_bad (r := l.drop (k + 1)) (acc := acc) (i := k) (c := x) he)
      obtain ⟨r, hr⟩ : ∃ r, r = sScl x ((k : Int) + 1) 1 := ⟨_, rfl⟩
      rw [← hr] at HSc HOK HNO
      clear hr
      by_cases hz : r.2 = 0
      · have HZ := Lib.hid hz
        rw [hz] at HSc
        clear hz
        go_wp2_with fail
        refine (HSc.out _).mono ?_; rintro e w4 ⟨rfl, hbel⟩
        have hS := HI2.out.2.2.on hbel
        clear hbel c0 c1
        obtain ⟨c0, c1⟩ := hS.at (i := k) (c := x) (by rw [← HI2.out.1]; simp)
        have f0 := hS.own.frozenAt (k * 2)
        have f1 := hS.own.frozenAt (k * 2 + 1)
        have lg := hS.lt.2
        have ng : ¬ w4.heap.size = g := by omega
        have ng2 : ¬ g = w4.heap.size := by omega
        have HS4 := Lib.hid hS
        clear hS
        go_wp2_with fail
        go_roundw
        case rel => exact ⟨k + 1, by omega, by go_num, acc ++ [r.1], Lib.hid (by
            refine ⟨by simp [HI2.out.1], ?_, ?_⟩
            · rw [HI2.out.2.1, HOK.out HZ.out]
            · have h2 := HS4.out.set (i := k) (c := r.1) (by simp [HI2.out.1])
              rw [set_mid HI2.out.1] at h2
              exact h2.on (below_alloc (Below.refl _ _) (.cells #[.int .i64 r.1.1, .int .i64 r.1.2] 24)))⟩
        case measure => simp [intOf]; omega
      · have z1 : (r.2 == 0) = false := by simp [hz]
        have z2 : (r.2 != 0) = true := by simp [hz]
        have HZ := Lib.hid hz
        clear hz
        go_wp2_with fail
        refine (HSc.out _).mono ?_; rintro e w4 ⟨rfl, hbel⟩
        have hS := HI2.out.2.2.on hbel
        clear hbel c0 c1
        have hB := hS.bx.bel
        have hb1 := hS.bx.b1
        clear hS
        have c0 := cell_two0 hb1
        have c1 := cell_two1 hb1
        have f0 := free_two (i := 0) hb1
        have f1 := free_two (i := 1) hb1
        have l2 := lt_of_block hb1
        have ng : ¬ w4.heap.size = w.heap.size + 1 := by omega
        have ng2 : ¬ w.heap.size + 1 = w4.heap.size := by omega
        have HBB := Lib.hid hB
        have HV : Hid (pSlope (c :: l) s = ((0, 0), r.2)) := Lib.hid (by
          have e : pScA l 0 [] = ([], r.2) := by rw [HI2.out.2.1, HNO.out HZ.out]
          rw [HPS.out (by rw [e]; exact HZ.out), e])
        clear hb1 hB
        go_wp2_with fail
        exact bodyPost_ret (v := .tuple #[.agg #[.int .i64 0, .int .i64 0], .int .i64 r.2]) (by simp [results, Try.results22, go_sem, c0, c1, l2]) rfl ⟨ret_sp HV.out, below_alloc (below_set2 HBB.out (by omega) _ _) _⟩
    · obtain rfl : k = n := by omega
      have HV : Hid (pScA l 0 [] = (acc, 0) ∧ SlB w wr s g capd acc) := Lib.hid (by
        have e : l.drop k = [] := by rw [HN.out]; simp
        have h2 := HI.out
        rw [e, List.append_nil] at h2
        exact ⟨h2.2.1, h2.2.2⟩)
      have HR : Hid (pSlope (c :: l) s = pVal acc s) := Lib.hid (by rw [HPO.out (by rw [HV.out.1]), HV.out.1])
      have hB := HV.out.2.bx
      have s0 := cell_two0 hB.b0
      have s1 := cell_two1 hB.b0
      have HK : Hid (acc.length = k) := Lib.hid HI.out.1
      have HVl := Lib.hid (fun W hS => poly_value acc s (some ⟨g, 0, none⟩) capd W hS)
      rw [HK.out] at HVl
      go_wp2_with fail
      refine (HVl.out _ (HV.out.2.spsl (by rw [HK.out]; omega))).mono ?_; rintro e w4 ⟨rfl, hbel⟩
      rw [← HR.out]
      have hB := hB.on hbel
      clear hbel s0 s1
      have c0 := cell_two0 hB.b1
      have c1 := cell_two1 hB.b1
      have f0 := free_two (i := 0) hB.b1
      have f1 := free_two (i := 1) hB.b1
      have l2 := lt_of_block hB.b1
      go_wp2_with fail
      exact bodyPost_ret (v := .tuple #[.agg #[.int .i64 (pSlope (c :: l) s).1.1, .int .i64 (pSlope (c :: l) s).1.2], .int .i64 (pSlope (c :: l) s).2]) (by simp [results, Try.results22, go_sem, c0, c1]) rfl ⟨rfl, below_set2 hB.bel (by omega) _ _⟩

set_option maxRecDepth 100000 in
set_option maxHeartbeats 2000000 in
theorem poly_Slope_one (c : Int × Int) (s : Int × Int) (b off : Nat) (w : World) (h : SpSl w (some ⟨b, off, none⟩) 1 [c]) (hT : SpSl w (some ⟨b, off, none⟩) 0 []) (hz : pChk [c] s = 0) :
    Calls Try.prog 22 #[.slice (some ⟨b, off, none⟩) 1 1, .agg #[.int .i64 s.1, .int .i64 s.2]] w fun e w' => e = .returned (.tuple #[.agg #[.int .i64 (pSlope [c] s).1.1, .int .i64 (pSlope [c] s).1.2], .int .i64 (pSlope [c] s).2]) ∧ Below w.heap.size w w' := by
  have hB := Bx2.start w s (0, 0)
  have H := Lib.hid h
  have HT := Lib.hid hT
  clear h hT
  have HC := Lib.hid (fun W hS => poly_check [c] s (some ⟨b, off, none⟩) 1 W hS)
  have HCl := Lib.hid (fun W hS => clone_spans [] b off 0 W hS (by simp))
  have HR : Hid (pSlope [c] s = pVal [] s) := Lib.hid (pSlope_ok hz rfl)
  rw [hz] at HC
  clear hz
  go_enter Try.func22, Try.ntmps22
  go_wp2_with fail
  refine (HC.out _ (H.out.on hB.bel)).mono ?_; rintro e w2 ⟨rfl, hbel⟩
  have hB := hB.on hbel
  clear hbel
  go_wp2_with fail
  refine (HCl.out _ (HT.out.on hB.bel)).mono ?_
  rintro e w3 ⟨v', rfl, hown, hnil, hbel⟩
  obtain ⟨g, capd, rfl⟩ : ∃ g capd, v' = .slice (some ⟨g, 0, none⟩) 0 capd := by
    rcases hown.2 with ⟨h', _⟩ | ⟨g', cap', cur, h', _⟩
    · exact absurd h' hnil
    · exact ⟨g', cap', h'⟩
  have HS : Hid (SlB w w3 s g capd []) := Lib.hid ⟨hB.on hbel, owns_mono hown (by have := lt_of_block hB.b1; omega)⟩
  clear hown hnil hbel hB
  go_wp2_with fail
  go_simp
  go_loopw [27] (fun i wr => i = .int .i64 0 ∧ Hid (SlB w wr s g capd [])) (fun i _ => 0 - (intOf i).toNat)
  case atStart => exact ⟨rfl, HS⟩
  case round =>
    clear HS
    obtain ⟨rfl, HI⟩ := hrel
    have hB := HI.out.bx
    have s0 := cell_two0 hB.b0
    have s1 := cell_two1 hB.b0
    have HVl := Lib.hid (fun W hS => poly_value [] s (some ⟨g, 0, none⟩) capd W hS)
    go_wp2_with fail
    refine (HVl.out _ (HI.out.spsl (by simp))).mono ?_; rintro e w4 ⟨rfl, hbel⟩
    rw [← HR.out]
    have hB := hB.on hbel
    clear hbel s0 s1
    have c0 := cell_two0 hB.b1
    have c1 := cell_two1 hB.b1
    have f0 := free_two (i := 0) hB.b1
    have f1 := free_two (i := 1) hB.b1
    have l2 := lt_of_block hB.b1
    go_wp2_with fail
    exact bodyPost_ret (v := .tuple #[.agg #[.int .i64 (pSlope [c] s).1.1, .int .i64 (pSlope [c] s).1.2], .int .i64 (pSlope [c] s).2]) (by simp [results, Try.results22, go_sem, c0, c1]) rfl ⟨rfl, below_set2 hB.bel (by omega) _ _⟩

theorem poly_Slope (l : List (Int × Int)) (s : Int × Int) (ao : Option Addr) (cap : Nat) (w : World) (h : SpSl w ao cap l) :
    Calls Try.prog 22 #[.slice ao l.length cap, .agg #[.int .i64 s.1, .int .i64 s.2]] w fun e w' => e = .returned (.tuple #[.agg #[.int .i64 (pSlope l s).1.1, .int .i64 (pSlope l s).1.2], .int .i64 (pSlope l s).2]) ∧ Below w.heap.size w w' := by
  by_cases hz : pChk l s = 0
  · cases l with
    | nil => exact poly_Slope_nil s ao cap w h hz
    | cons c l =>
      have hle := h.le
      rw [List.length_cons] at hle
      cases ao with
      | none =>
        have := (h.isNil rfl).1
        simp at this
      | some a =>
        have ha := h.isSome a rfl
        obtain ⟨b, off, ax⟩ := a
        cases ha
        obtain ⟨o, ho, hT⟩ := h.tail
        by_cases hc : cap - 1 = 0
        · obtain rfl : cap = 1 := by omega
          obtain rfl : l = [] := List.eq_nil_of_length_eq_zero (by omega)
          rw [if_pos hc] at ho
          cases ho
          exact poly_Slope_one c s b off w h hT hz
        · obtain ⟨d, rfl⟩ : ∃ d, cap = d + 2 := ⟨cap - 2, by omega⟩
          rw [if_neg hc] at ho
          cases ho
          exact poly_Slope_some2 c l s b off d w h hT hz
  · exact poly_Slope_bad l s ao cap w h hz
end Go.Proofs.Ytgfofilkpaelnaa
