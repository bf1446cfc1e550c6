/- Contracts of the reference of layer 8: check, Eval. -/
import Derived.Deep.RegionHeld3
import Derived.Test.YtgfofilkpaelnaaRefSD
import Derived.Test.YtgfofilkpaelnaaPolyC
import Derived.Test.YtgfofilkpaelnaaPolyLaw
namespace Go.Proofs.Ytgfofilkpaelnaa
open Go.RowKit Go.Shelf Mnc

set_option maxRecDepth 100000 in
set_option maxHeartbeats 1000000 in
theorem ref8_check (l : List (Int × Int)) (s : Int × Int) (ao : Option Addr) (cap : Nat) (w : World) (h : SpSl w ao cap l) :
    Calls Try.prog 86 #[.slice ao l.length cap, .agg #[.int .i64 s.1, .int .i64 s.2]] w fun e w' => e = .returned (.int .i64 (pChk l s)) ∧ Below w.heap.size w w' := by
  by_cases hl : 8 < l.length
  · rw [pChk_long hl]
    have hb : decide ((8 : Int) < (l.length : Int)) = true := by simp; omega
    clear hl
    go_enter Try.func86, Try.ntmps86
    go_wp2
    go_ret
    exact ⟨rfl, below_alloc (Below.refl _ _) _⟩
  · have hb : decide ((8 : Int) < (l.length : Int)) = false := by simp; omega
    have hB := Bx1.start w s
    have hl0 := h.on hB.bel
    have HCH := Lib.hid (fun (hh : (∀ c ∈ l, okS c) ∧ okS s) => pChk_ok hl hh.1 hh.2)
    have HCB := Lib.hid (fun (hh : ¬ ((∀ c ∈ l, okS c) ∧ okS s)) => pChk_bad hl hh)
    obtain ⟨n, hn⟩ : ∃ n, n = l.length := ⟨_, rfl⟩
    have HN := Lib.hid hn
    have hle := h.le
    rw [← hn] at hl hb hle ⊢
    clear hn h
    cases ao with
    | none =>
      have hz : n = 0 := by rw [HN.out]; exact (hl0.isNil rfl).1
      subst hz
      have HE : Hid (l = []) := Lib.hid (List.eq_nil_of_length_eq_zero HN.out.symm)
      clear hl0 hb hl
      go_enter Try.func86, Try.ntmps86
      go_wp2_with fail
      generalize w.alloc (.cells #[.int .i64 s.1, .int .i64 s.2] 24) = W0 at *
      go_loopw [5] (fun i wr => i = .int .i64 0 ∧ Hid (Bx1 w wr s)) (fun i _ => 0 - (intOf i).toNat)
      case atStart => exact ⟨rfl, Lib.hid hB⟩
      case round =>
        clear hB
        obtain ⟨rfl, HB⟩ := hrel
        have a0 := cell_two0 HB.out.b0
        have a1 := cell_two1 HB.out.b0
        go_wp2_with fail
        refine (ref2_Check s _).mono ?_; rintro e w2 ⟨rfl, hbel⟩
        have hbe := below_step HB.out.bel hbel
        clear hbel a0 a1
        have HV : Hid (pChk l s = sChk s) := Lib.hid (by
          rw [HE.out]
          unfold pChk sChk
          simp)
        go_wp2_with fail
        go_ret
        exact ⟨ret_int HV.out.symm, hbe⟩
    | some a =>
      have ha := hl0.isSome a rfl
      obtain ⟨b, off, ax⟩ := a
      cases ha
      have HL := Lib.hid (fun W k => hl0.on (W' := W) k)
      clear hl0
      go_enter Try.func86, Try.ntmps86
      go_wp2_with fail
      generalize w.alloc (.cells #[.int .i64 s.1, .int .i64 s.2] 24) = W0 at *
      go_loopw [5] (fun i wr => ∃ k : Nat, k ≤ n ∧ i = .int .i64 k ∧ Hid (Bx1 w wr s) ∧ Hid (Below W0.heap.size W0 wr) ∧ Hid (∀ c ∈ l.take k, okS c)) (fun i _ => n - (intOf i).toNat)
      case atStart => exact ⟨0, by omega, rfl, Lib.hid hB, Lib.hid (Below.refl _ _), Lib.hid (by simp)⟩
      case round =>
        clear hB
        obtain ⟨k, hk, rfl, HB, HW, HO⟩ := hrel
        rcases Nat.lt_or_ge k n with hk' | hk'
        · obtain ⟨c, hc⟩ : ∃ c, l[k]? = some c := ⟨_, List.getElem?_eq_getElem (by rw [← HN.out]; exact hk')⟩
          obtain ⟨c0, c1⟩ := (HL.out _ HW.out).at hc
          have HCk := Lib.hid hc
          clear hc
          by_cases ho : okS c
          · have H := Lib.hid ho
            clear ho
            go_wp2_with fail
            refine (ref2_Right_ok H.out _).mono ?_; rintro e w2 ⟨rfl, hbel⟩
            have HB2 := Lib.hid (HB.out.on hbel)
            have HW2 := Lib.hid (below_step HW.out hbel)
            have HO2 : Hid (∀ c ∈ l.take (k + 1), okS c) := Lib.hid (fun x hx => by
              rw [List.take_add_one, List.mem_append] at hx
              rcases hx with hx | hx
              · exact HO.out x hx
              · rw [HCk.out] at hx
                simp at hx
                subst hx
                exact H.out)
            clear hbel c0 c1
            go_wp2_with fail
            go_roundw
            case rel => exact ⟨k + 1, by omega, by go_num, HB2, HW2, HO2⟩
            case measure => simp [intOf]; omega
          · have H := Lib.hid ho
            clear ho
            go_wp2_with fail
            refine (ref2_Right_bad H.out _).mono ?_; rintro e w2 ⟨rfl, hbel⟩
            have hbe := below_step HB.out.bel hbel
            clear hbel c0 c1
            have HV : Hid (pChk l s = 20) := Lib.hid (HCB.out (fun g => H.out (g.1 c (List.mem_of_getElem? HCk.out))))
            go_wp2_with fail
            go_ret
            exact ⟨ret_int HV.out.symm, hbe⟩
        · obtain rfl : k = n := by omega
          have HV : Hid (pChk l s = sChk s) := Lib.hid (by
            have ho : ∀ c ∈ l, okS c := fun c hc => HO.out c (by rw [List.take_of_length_le (by rw [HN.out]; exact Nat.le_refl _)]; exact hc)
            by_cases hs : okS s
            · rw [HCH.out ⟨ho, hs⟩, sChk_ok hs]
            · rw [HCB.out (fun g => hs g.2), sChk_bad hs])
          have a0 := cell_two0 HB.out.b0
          have a1 := cell_two1 HB.out.b0
          go_wp2_with fail
          refine (ref2_Check s _).mono ?_; rintro e w2 ⟨rfl, hbel⟩
          have hbe := below_step HB.out.bel hbel
          clear hbel a0 a1
          go_wp2_with fail
          go_ret
          exact ⟨ret_int HV.out.symm, hbe⟩

/-- The boxes of the reference's Eval. -/
structure EvB (w W : World) (s v : Int × Int) (B : Nat) : Prop where
  bx : Bx2 w W s (0, 0)
  lv : w.heap.size + 1 < B
  bv : W.heap[B]? = some (.cells #[.int .i64 v.1, .int .i64 v.2] 24 (0, 0))
theorem EvB.on {w W W' : World} {s v : Int × Int} {B : Nat} (h : EvB w W s v B) (k : Below W.heap.size W W') : EvB w W' s v B :=
  ⟨h.bx.on k, h.lv, (k.block _ (lt_of_block h.bv)).trans h.bv⟩
theorem EvB.set {w W : World} {s v : Int × Int} {B : Nat} (h : EvB w W s v B) (u : Int × Int) : EvB w ((W.setCell ⟨B, 0, none⟩ (.int .i64 u.1)).setCell ⟨B, 1, none⟩ (.int .i64 u.2)) s u B := by
  have := h.lv
  exact ⟨⟨below_set2 h.bx.bel (by omega) _ _, by rw [oth_set (by omega), oth_set (by omega)]; exact h.bx.b0, by rw [oth_set (by omega), oth_set (by omega)]; exact h.bx.b1⟩, h.lv, set2_at h.bv⟩
theorem keepSet {w W : World} {B0 B1 B i j : Nat} {x y u v z z' : Value} (h : W.cell? ⟨B0, 0, none⟩ = some x ∧ W.cell? ⟨B0, 1, none⟩ = some y ∧ W.cell? ⟨B1, i, none⟩ = some u ∧ W.cell? ⟨B1, j, none⟩ = some v) (n0 : ¬ B0 = B) (n1 : ¬ B1 = B) (hw : w = (W.setCell ⟨B, 0, none⟩ z).setCell ⟨B, 1, none⟩ z') :
    w.cell? ⟨B0, 0, none⟩ = some x ∧ w.cell? ⟨B0, 1, none⟩ = some y ∧ w.cell? ⟨B1, i, none⟩ = some u ∧ w.cell? ⟨B1, j, none⟩ = some v := by
  subst hw
  have e : ∀ (b k : Nat), ¬ b = B → ((W.setCell ⟨B, 0, none⟩ z).setCell ⟨B, 1, none⟩ z').cell? ⟨b, k, none⟩ = W.cell? ⟨b, k, none⟩ := fun b k hb => by
    rw [World.cell?_setCell_other _ _ _ _ (by intro g; cases g; exact hb rfl), World.cell?_setCell_other _ _ _ _ (by intro g; cases g; exact hb rfl)]
  exact ⟨(e _ _ n0).trans h.1, (e _ _ n0).trans h.2.1, (e _ _ n1).trans h.2.2.1, (e _ _ n1).trans h.2.2.2⟩
theorem keep4' {w3 W : World} {B0 B1 i j : Nat} {x y z u : Value} (l0 : B0 < w3.heap.size) (l1 : B1 < w3.heap.size) (a0 : w3.cell? ⟨B0, 0, none⟩ = some x) (a1 : w3.cell? ⟨B0, 1, none⟩ = some y) (b0 : w3.cell? ⟨B1, i, none⟩ = some z) (b1 : w3.cell? ⟨B1, j, none⟩ = some u) (k : Below w3.heap.size w3 W) :
    W.cell? ⟨B0, 0, none⟩ = some x ∧ W.cell? ⟨B0, 1, none⟩ = some y ∧ W.cell? ⟨B1, i, none⟩ = some z ∧ W.cell? ⟨B1, j, none⟩ = some u :=
  ⟨(k.cell (p := ⟨B0, 0, none⟩) l0).trans a0, (k.cell (p := ⟨B0, 1, none⟩) l0).trans a1, (k.cell (p := ⟨B1, i, none⟩) l1).trans b0, (k.cell (p := ⟨B1, j, none⟩) l1).trans b1⟩

theorem pAcc_drop {s c : Int × Int} {l : List (Int × Int)} {k : Nat} (h : l[k]? = some c) : pAcc s (l.drop k) = if (pAcc s (l.drop (k + 1))).2 = 0 then pStep s (pAcc s (l.drop (k + 1))).1 c else pAcc s (l.drop (k + 1)) := by
  obtain ⟨hk, rfl⟩ := List.getElem?_eq_some_iff.1 h
  rw [List.drop_eq_getElem_cons hk]
  rfl
theorem pVal_err {s : Int × Int} {l : List (Int × Int)} {k : Nat} (h : ¬ (pAcc s (l.drop k)).2 = 0) : pVal l s = pAcc s (l.drop k) := by
  unfold pVal
  conv => lhs; rw [← List.take_append_drop k l]
  exact pAcc_err h _
theorem sMul_err {v s : Int × Int} (h : ¬ (sMul v s).2 = 0) : (sMul v s).1 = (0, 0) := by
  by_cases k : okS v ∧ okS s
  · rw [sMul, on2_ok k.1 k.2] at h ⊢
    by_cases q : -4503599627370496 ≤ min4 (fl (v.1 * s.1)) (fl (v.1 * s.2)) (fl (v.2 * s.1)) (fl (v.2 * s.2)) ∧ max4 (cl (v.1 * s.1)) (cl (v.1 * s.2)) (cl (v.2 * s.1)) (cl (v.2 * s.2)) ≤ 4503599627370496
    · rw [sT_ok q.1 q.2] at h
      exact absurd rfl h
    · rw [sT_bad q]
  · rw [sMul, on2_bad k]
theorem sAdd_err {v s : Int × Int} (h : ¬ (sAdd v s).2 = 0) : (sAdd v s).1 = (0, 0) := by
  by_cases k : okS v ∧ okS s
  · rw [sAdd, on2_ok k.1 k.2] at h ⊢
    by_cases q : -4503599627370496 ≤ v.1 + s.1 ∧ v.2 + s.2 ≤ 4503599627370496
    · rw [sT_ok q.1 q.2] at h
      exact absurd rfl h
    · rw [sT_bad q]
  · rw [sAdd, on2_bad k]

theorem pEval_nil {s : Int × Int} (h : pChk [] s = 0) : pEval [] s = ((0, 0), 0) := by rw [pEval_ok h]; rfl

set_option maxRecDepth 100000 in
set_option maxHeartbeats 1000000 in
theorem ref8_Eval_bad (l : List (Int × Int)) (s : Int × Int) (ao : Option Addr) (cap : Nat) (w : World) (h : SpSl w ao cap l) (hz : ¬ pChk l s = 0) :
    Calls Try.prog 21 #[.slice ao l.length cap, .agg #[.int .i64 s.1, .int .i64 s.2]] w fun e w' => e = .returned (.tuple #[.agg #[.int .i64 (pEval l s).1.1, .int .i64 (pEval l s).1.2], .int .i64 (pEval l s).2]) ∧ Below w.heap.size w w' := by
  have hB := Bx2.start w s (0, 0)
  have H := Lib.hid h
  clear h
  have HC := Lib.hid (fun W hS => ref8_check l s ao cap W hS)
  have HR := Lib.hid (pEval_bad hz)
  obtain ⟨c, hc⟩ : ∃ c, c = pChk l s := ⟨_, rfl⟩
  rw [← hc] at HC HR hz
  have z1 : (c == 0) = false := by simp [hz]
  have z2 : (c != 0) = true := by simp [hz]
  clear hc hz
  go_enter Try.func21, Try.ntmps21
  go_wp2_with fail
  refine (HC.out _ (H.out.on hB.bel)).mono ?_; rintro e w2 ⟨rfl, hbel⟩
  have hB := hB.on hbel
  clear hbel
  have c0 := cell_two0 hB.b1
  have c1 := cell_two1 hB.b1
  have f0 := free_two (i := 0) hB.b1
  have f1 := free_two (i := 1) hB.b1
  have l2 := lt_of_block hB.b1
  go_wp2_with fail
  exact bodyPost_ret (v := .tuple #[.agg #[.int .i64 0, .int .i64 0], .int .i64 c]) (by simp [results, Try.results21, go_sem, c0, c1]) rfl ⟨ret_sp HR.out, below_set2 hB.bel (by omega) _ _⟩

set_option maxRecDepth 100000 in
set_option maxHeartbeats 1000000 in
theorem ref8_Eval_nil (s : Int × Int) (ao : Option Addr) (cap : Nat) (w : World) (h : SpSl w ao cap []) (hz : pChk [] s = 0) :
    Calls Try.prog 21 #[.slice ao (0 : Nat) cap, .agg #[.int .i64 s.1, .int .i64 s.2]] w fun e w' => e = .returned (.tuple #[.agg #[.int .i64 (pEval [] s).1.1, .int .i64 (pEval [] s).1.2], .int .i64 (pEval [] s).2]) ∧ Below w.heap.size w w' := by
  have hB := Bx2.start w s (0, 0)
  have H := Lib.hid h
  clear h
  have HC := Lib.hid (fun W hS => ref8_check [] s ao cap W hS)
  have HR := Lib.hid (pEval_nil hz)
  rw [hz] at HC
  clear hz
  go_enter Try.func21, Try.ntmps21
  go_wp2_with fail
  refine (HC.out _ (H.out.on hB.bel)).mono ?_; rintro e w2 ⟨rfl, hbel⟩
  have hB := hB.on hbel
  clear hbel
  have c0 := cell_two0 hB.b1
  have c1 := cell_two1 hB.b1
  have f0 := free_two (i := 0) hB.b1
  have f1 := free_two (i := 1) hB.b1
  have l2 := lt_of_block hB.b1
  go_wp2_with fail
  exact bodyPost_ret (v := .tuple #[.agg #[.int .i64 0, .int .i64 0], .int .i64 0]) (by simp [results, Try.results21, go_sem, c0, c1]) rfl ⟨ret_sp HR.out, below_set2 hB.bel (by omega) _ _⟩

set_option maxRecDepth 100000 in
set_option maxHeartbeats 2000000 in
theorem ref8_Eval_some (m : Nat) (l : List (Int × Int)) (hlen : l.length = m + 1) (s : Int × Int) (b off cap : Nat) (w : World) (h : SpSl w (some ⟨b, off, none⟩) cap l) (hz : pChk l s = 0) :
    Calls Try.prog 21 #[.slice (some ⟨b, off, none⟩) (m + 1 : Nat) cap, .agg #[.int .i64 s.1, .int .i64 s.2]] w fun e w' => e = .returned (.tuple #[.agg #[.int .i64 (pEval l s).1.1, .int .i64 (pEval l s).1.2], .int .i64 (pEval l s).2]) ∧ Below w.heap.size w w' := by
  have hB := Bx2.start w s (0, 0)
  have hlb : b < w.heap.size := by
    obtain ⟨c, hc⟩ : ∃ c, l[0]? = some c := ⟨_, List.getElem?_eq_getElem (by omega)⟩
    have := (h.at hc).1
    apply Nat.lt_of_not_le
    intro hn
    rw [World.cell?, Array.getElem?_eq_none hn] at this
    cases this
  have HL := Lib.hid (fun W k => h.on (W' := W) k)
  have hle := h.le
  have hcm := h.cmax
  have H := Lib.hid h
  clear h
  have HC := Lib.hid (fun W hS => ref8_check l s (some ⟨b, off, none⟩) cap W hS)
  have HR := Lib.hid (pEval_ok hz)
  have h8 : m + 1 ≤ 8 := by
    apply Nat.le_of_not_lt
    intro hn
    rw [pChk_long (by omega)] at hz
    cases hz
  have HOK : Hid ((∀ c ∈ l, okS c) ∧ okS s) := Lib.hid (by
    apply Classical.byContradiction
    intro hn
    rw [pChk_bad (by omega) hn] at hz
    cases hz)
  rw [hz, hlen] at HC
  rw [hlen] at hle
  have HLEN := Lib.hid hlen
  obtain ⟨c, hc⟩ : ∃ c, l[m]? = some c := ⟨_, List.getElem?_eq_getElem (by omega)⟩
  have HV0 : Hid (pAcc s (l.drop m) = (c, 0)) := Lib.hid (by
    rw [pAcc_drop hc, List.drop_of_length_le (by omega)]
    exact pStep_of0 HOK.out.2 (HOK.out.1 c (List.mem_of_getElem? hc)))
  have HCC := Lib.hid hc
  have zb : ((m : Int) + 1 == 0) = false := by rw [beq_eq_false_iff_ne]; omega
  clear hz hlen hc
  go_enter Try.func21, Try.ntmps21
  go_wp2_with fail
  refine (HC.out _ (H.out.on hB.bel)).mono ?_; rintro e w2 ⟨rfl, hbel⟩
  have hB := hB.on hbel
  clear hbel
  obtain ⟨c0, c1⟩ := (HL.out _ hB.bel).at HCC.out
  have e1 : ((m : Int) + 1 - 1) = (m : Int) := by omega
  have e2 : ((m : Int) + 1 - 2) = (m : Int) - 1 := by omega
  have hE : EvB w (w2.alloc (.cells #[.int .i64 c.1, .int .i64 c.2] 24)) s c w2.heap.size := ⟨hB.on (below_alloc (Below.refl _ _) _), lt_of_block hB.b1, heap_at _ rfl⟩
  have HE := Lib.hid hE
  clear hE hB
  go_wp2_with fail
  obtain ⟨B, hBB⟩ : ∃ B, B = w2.heap.size := ⟨_, rfl⟩
  rw [← hBB] at HE
  simp only [← hBB]
  generalize w2.alloc (.cells #[.int .i64 c.1, .int .i64 c.2] 24) = W0 at *
  clear hBB c0 c1 e1 e2
  go_loopw [8] (fun i wr => ∃ j : Nat, j ≤ m ∧ i = .int .i64 ((j : Int) - 1) ∧ ∃ v : Int × Int, Hid (pAcc s (l.drop j) = (v, 0) ∧ EvB w wr s v B)) (fun i _ => (intOf i + 1).toNat)
  case atStart => exact ⟨m, Nat.le_refl _, rfl, c, Lib.hid ⟨HV0.out, HE.out⟩⟩
  case round =>
    clear HE
    obtain ⟨j, hj, rfl, v, HI⟩ := hrel
    rcases Nat.eq_zero_or_pos j with rfl | hj0
    · have hB := HI.out.2
      have v0 := cell_two0 hB.bv
      have v1 := cell_two1 hB.bv
      have c0 := cell_two0 hB.bx.b1
      have c1 := cell_two1 hB.bx.b1
      have f0 := free_two (i := 0) hB.bx.b1
      have f1 := free_two (i := 1) hB.bx.b1
      have l2 := lt_of_block hB.bx.b1
      have HBe := Lib.hid hB.bx.bel
      have HV : Hid (pEval l s = (v, 0)) := Lib.hid (by rw [HR.out]; exact HI.out.1)
      clear hB
      go_wp2_with fail
      exact bodyPost_ret (v := .tuple #[.agg #[.int .i64 v.1, .int .i64 v.2], .int .i64 0]) (by simp [results, Try.results21, go_sem, c0, c1]) rfl ⟨ret_sp HV.out, below_set2 HBe.out (by omega) _ _⟩
    · obtain ⟨k, rfl⟩ : ∃ k, j = k + 1 := ⟨j - 1, by omega⟩
      rw [show (((k + 1 : Nat) : Int) - 1) = (k : Int) by omega]
      obtain ⟨x, hx⟩ : ∃ x, l[k]? = some x := ⟨_, List.getElem?_eq_getElem (by rw [HLEN.out]; omega)⟩
      have HP : Hid (pAcc s (l.drop k) = pStep s v x) := Lib.hid (by rw [pAcc_drop hx, HI.out.1, if_pos rfl])
      have HX := Lib.hid hx
      clear hx
      have hB := HI.out.2
      have s0 := cell_two0 hB.bx.b0
      have s1 := cell_two1 hB.bx.b0
      have v0 := cell_two0 hB.bv
      have v1 := cell_two1 hB.bv
      have HBO := Lib.hid (fun W k => hB.on (W' := W) k)
      have HSz := Lib.hid hB.bx.bel.size
      have HM := Lib.hid (fun W => ref2_Mul v s W)
      have HME := Lib.hid (fun (hn : ¬ (sMul v s).2 = 0) => sMul_err hn)
      have HPO := Lib.hid (fun (hn : (sMul v s).2 = 0) => pStep_ok (c := x) hn)
      have HPB := Lib.hid (fun (hn : ¬ (sMul v s).2 = 0) => pStep_bad (c := x) hn)
      clear hB
      obtain ⟨p, hp⟩ : ∃ p, p = sMul v s := ⟨_, rfl⟩
      rw [← hp] at HM HME HPO HPB
      clear hp
      by_cases hm : p.2 = 0
      · have HPS := Lib.hid (HPO.out hm)
        rw [hm] at HM
        have HA := Lib.hid (fun W => ref2_Add p.1 x W)
        have HAE := Lib.hid (fun (hn : ¬ (sAdd p.1 x).2 = 0) => sAdd_err hn)
        obtain ⟨q, hq⟩ : ∃ q, q = sAdd p.1 x := ⟨_, rfl⟩
        rw [← hq] at HA HAE HPS
        clear hm hq
        go_wp2_with fail
        refine (HM.out _).mono ?_; rintro e w3 ⟨rfl, hbel⟩
        have hB := HBO.out _ hbel
        have hk : Below w.heap.size w w3 := hB.bx.bel
        have hB4 := hB.on (below_alloc (Below.refl _ _) (.cells #[.int .i64 p.1.1, .int .i64 p.1.2] 24))
        have hb9 : (w3.alloc (.cells #[.int .i64 p.1.1, .int .i64 p.1.2] 24)).heap[w3.heap.size]? = some (.cells #[.int .i64 p.1.1, .int .i64 p.1.2] 24 (0, 0)) := heap_at _ rfl
        obtain ⟨x0, x1⟩ := (HL.out _ hB4.bx.bel).at HX.out
        have n9 : ¬ w3.heap.size = B := by have := lt_of_block hB.bv; omega
        have nb : ¬ b = B := by have := hB.lv; omega
        have HB4 := Lib.hid hB4
        have HB9 := Lib.hid hb9
        clear hbel s0 s1 v0 v1 hB hk hB4 hb9
        go_wp2_with fail
        obtain ⟨B9, hB9⟩ : ∃ B9, B9 = w3.heap.size := ⟨_, rfl⟩
        rw [← hB9] at HB9 n9
        simp only [← hB9]
        generalize w3.alloc (.cells #[.int .i64 p.1.1, .int .i64 p.1.2] 24) = W4 at *
        clear hB9
        have p0 := cell_two0 HB9.out
        have p1 := cell_two1 HB9.out
        have l9 := lt_of_block HB9.out
        have lb : b < W4.heap.size := by have := HB4.out.bx.bel.size; omega
        have ik0 : (0 : Int) ≤ (k : Int) := by omega
        have ik1 : (k : Int) < (m : Int) + 1 := by omega
        have ik2 : (k : Int) ≤ (m : Int) := by omega
        have ik3 : k < m + 1 := by omega
        have HQ := Lib.hid (fun (W : World) (hb : Below W4.heap.size W4 W) => (show W.cell? ⟨B, 0, none⟩ = some (.int .i64 v.1) ∧ W.cell? ⟨B, 1, none⟩ = some (.int .i64 v.2) ∧ W.frozen? ⟨B, 0, none⟩ = false ∧ W.frozen? ⟨B, 1, none⟩ = false ∧ B < W.heap.size ∧ Hid (EvB w W s v B) from ⟨cell_two0 (HB4.out.on hb).bv, cell_two1 (HB4.out.on hb).bv, free_two (HB4.out.on hb).bv, free_two (HB4.out.on hb).bv, lt_of_block (HB4.out.on hb).bv, Lib.hid (HB4.out.on hb)⟩))
        go_region_held3 (fun w' => w'.cell? ⟨B9, 0, none⟩ = some (.int .i64 p.1.1) ∧ w'.cell? ⟨B9, 1, none⟩ = some (.int .i64 p.1.2) ∧ w'.cell? ⟨b, off + k * 2, none⟩ = some (.int .i64 x.1) ∧ w'.cell? ⟨b, off + k * 2 + 1, none⟩ = some (.int .i64 x.2))
          (first
            | exact keep4' l9 lb p0 p1 x0 x1 (Below.refl _ _).drew
            | exact keep4' l9 lb p0 p1 x0 x1 (below_step (Below.refl _ _).drew hbel)
            | exact keepSet (keep4' l9 lb p0 p1 x0 x1 (below_step (Below.refl _ _).drew hbel)) n9 nb rfl)
          (first | (go_at_call 88; refine (HA.out _).mono ?_; rintro e w5 ⟨rfl, hbel⟩; obtain ⟨q0, q1, q2, q3, q4, HE5⟩ := HQ.out _ (below_step (Below.refl _ _).drew hbel)))
        clear ik0 ik1 ik2 ik3
        have HE6 := Lib.hid (HE5.out.set q.1)
        clear q0 q1 q2 q3 q4 p0 p1 x0 x1 l9 lb hbel
        by_cases hq : q.2 = 0
        · have HQ0 : Hid (pAcc s (l.drop k) = (q.1, 0)) := Lib.hid (by rw [HP.out, HPS.out, ← hq])
          have z1 : (q.2 == 0) = true := by simp [hq]
          have z2 : (q.2 != 0) = false := by simp [hq]
          clear hq
          go_wp2_with fail
          go_roundw
          case rel => exact ⟨k, by omega, rfl, q.1, Lib.hid ⟨HQ0.out, HE6.out⟩⟩
          case measure => simp [intOf]
        · have HQ0 : Hid (pEval l s = ((0, 0), q.2)) := Lib.hid (by
            have e : pAcc s (l.drop k) = q := by rw [HP.out, HPS.out]
            rw [HR.out, pVal_err (k := k) (by rw [e]; exact hq), e, ← HAE.out hq])
          have z1 : (q.2 == 0) = false := by simp [hq]
          have z2 : (q.2 != 0) = true := by simp [hq]
          clear hq
          have c0 := cell_two0 HE6.out.bx.b1
          have c1 := cell_two1 HE6.out.bx.b1
          have f0 := free_two (i := 0) HE6.out.bx.b1
          have f1 := free_two (i := 1) HE6.out.bx.b1
          have l2 := lt_of_block HE6.out.bx.b1
          generalize ((w5.setCell ⟨B, 0, none⟩ (.int .i64 q.1.1)).setCell ⟨B, 1, none⟩ (.int .i64 q.1.2)) = W6 at *
          go_wp2_with fail
          exact bodyPost_ret (v := .tuple #[.agg #[.int .i64 0, .int .i64 0], .int .i64 q.2]) (by simp [results, Try.results21, go_sem, c0, c1]) rfl ⟨ret_sp HQ0.out, below_set2 HE6.out.bx.bel (by omega) _ _⟩
      · have HQ0 : Hid (pEval l s = ((0, 0), p.2)) := Lib.hid (by
          have e : pAcc s (l.drop k) = p := by rw [HP.out, HPB.out hm]
          rw [HR.out, pVal_err (k := k) (by rw [e]; exact hm), e, ← HME.out hm])
        have z1 : (p.2 == 0) = false := by simp [hm]
        have z2 : (p.2 != 0) = true := by simp [hm]
        clear hm
        go_wp2_with fail
        refine (HM.out _).mono ?_; rintro e w3 ⟨rfl, hbel⟩
        have hB := (HBO.out _ hbel).on (below_alloc (Below.refl _ _) (.cells #[.int .i64 p.1.1, .int .i64 p.1.2] 24))
        have HB4 := Lib.hid hB
        clear hbel s0 s1 v0 v1 hB
        have c0 := cell_two0 HB4.out.bx.b1
        have c1 := cell_two1 HB4.out.bx.b1
        have f0 := free_two (i := 0) HB4.out.bx.b1
        have f1 := free_two (i := 1) HB4.out.bx.b1
        have l2 := lt_of_block HB4.out.bx.b1
        have HW4 := Lib.hid (fun (W : World) (hw : w3.alloc (.cells #[.int .i64 p.1.1, .int .i64 p.1.2] 24) = W) => hw)
        go_wp2_with fail
        exact bodyPost_ret (v := .tuple #[.agg #[.int .i64 0, .int .i64 0], .int .i64 p.2]) (by simp [results, Try.results21, go_sem, c0, c1]) rfl ⟨ret_sp HQ0.out, below_set2 HB4.out.bx.bel (by omega) _ _⟩
end Go.Proofs.Ytgfofilkpaelnaa
