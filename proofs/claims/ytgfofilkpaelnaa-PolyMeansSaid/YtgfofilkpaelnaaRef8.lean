/- Contracts of the reference of layer 8: check, Eval. -/
import Derived.Deep.RegionHeld3
import Derived.Test.YtgfofilkpaelnaaRefSD
import Derived.Test.YtgfofilkpaelnaaPolyX
import Derived.Test.YtgfofilkpaelnaaPl
import Derived.Test.YtgfofilkpaelnaaLawP
import Derived.Test.YtgfofilkpaelnaaRefY
namespace Go.Proofs.Ytgfofilkpaelnaa
open Go.RowKit Go.Shelf Mnc

set_option maxRecDepth 100000 in
set_option maxHeartbeats 1000000 in
theorem ref8_check (l : List (Int × Int)) (s : Int × Int) (ao : Option Addr) (cap : Nat) (w : World) (h : SpSl w ao cap l) :
    Calls Try.prog 86 #[.slice ao l.length cap, .agg #[.int .i64 s.1, .int .i64 s.2]] w fun e w' => e = .returned (.int .i64 (pChk l s)) ∧ Below w.heap.size w w' := by
  by_cases hl : 8 < l.length
  · rw [pChk_long hl]
    have hb : decide ((8 : Int) < (l.length : Int)) = true := by simp; omega
    clear hl
    go_enter Try.func86, Try.ntmps86
    go_wp2
    go_ret
    exact ⟨rfl, below_alloc (Below.refl _ _) _⟩
  · have hb : decide ((8 : Int) < (l.length : Int)) = false := by simp; omega
    have hB := Bx1.start w s
    have hl0 := h.on hB.bel
    have HCH := Lib.hid (fun (hh : (∀ c ∈ l, okS c) ∧ okS s) => pChk_ok hl hh.1 hh.2)
    have HCB := Lib.hid (fun (hh : ¬ ((∀ c ∈ l, okS c) ∧ okS s)) => pChk_bad hl hh)
    obtain ⟨n, hn⟩ : ∃ n, n = l.length := ⟨_, rfl⟩
    have HN := Lib.hid hn
    have hle := h.le
    rw [← hn] at hl hb hle ⊢
    clear hn h
    cases ao with
    | none =>
      have hz : n = 0 := by rw [HN.out]; exact (hl0.isNil rfl).1
      subst hz
      have HE : Hid (l = []) := Lib.hid (List.eq_nil_of_length_eq_zero HN.out.symm)
      clear hl0 hb hl
      go_enter Try.func86, Try.ntmps86
      go_wp2_with fail
      generalize w.alloc (.cells #[.int .i64 s.1, .int .i64 s.2] 24) = W0 at *
      go_loopw [5] (fun i wr => i = .int .i64 0 ∧ Hid (Bx1 w wr s)) (fun i _ => 0 - (intOf i).toNat)
      case atStart => exact ⟨rfl, Lib.hid hB⟩
      case round =>
        clear hB
        obtain ⟨rfl, HB⟩ := hrel
        have a0 := cell_two0 HB.out.b0
        have a1 := cell_two1 HB.out.b0
        go_wp2_with fail
        refine (ref2_Check s _).mono ?_; rintro e w2 ⟨rfl, hbel⟩
        have hbe := below_step HB.out.bel hbel
        clear hbel a0 a1
        have HV : Hid (pChk l s = sChk s) := Lib.hid (by
          rw [HE.out]
          unfold pChk sChk
          simp)
        go_wp2_with fail
        go_ret
        exact ⟨ret_int HV.out.symm, hbe⟩
    | some a =>
      have ha := hl0.isSome a rfl
      obtain ⟨b, off, ax⟩ := a
      cases ha
      have HL := Lib.hid (fun W k => hl0.on (W' := W) k)
      clear hl0
      go_enter Try.func86, Try.ntmps86
      go_wp2_with fail
      generalize w.alloc (.cells #[.int .i64 s.1, .int .i64 s.2] 24) = W0 at *
      go_loopw [5] (fun i wr => ∃ k : Nat, k ≤ n ∧ i = .int .i64 k ∧ Hid (Bx1 w wr s) ∧ Hid (Below W0.heap.size W0 wr) ∧ Hid (∀ c ∈ l.take k, okS c)) (fun i _ => n - (intOf i).toNat)
      case atStart => exact ⟨0, by omega, rfl, Lib.hid hB, Lib.hid (Below.refl _ _), Lib.hid (by simp)⟩
      case round =>
        clear hB
        obtain ⟨k, hk, rfl, HB, HW, HO⟩ := hrel
        rcases Nat.lt_or_ge k n with hk' | hk'
        · obtain ⟨c, hc⟩ : ∃ c, l[k]? = some c := ⟨_, List.getElem?_eq_getElem (by rw [← HN.out]; exact hk')⟩
          obtain ⟨c0, c1⟩ := (HL.out _ HW.out).at hc
          have HCk := Lib.hid hc
          clear hc
          by_cases ho : okS c
          · have H := Lib.hid ho
            clear ho
            go_wp2_with fail
            refine (ref2_Right_ok H.out _).mono ?_; rintro e w2 ⟨rfl, hbel⟩
            have HB2 := Lib.hid (HB.out.on hbel)
            have HW2 := Lib.hid (below_step HW.out hbel)
            have HO2 : Hid (∀ c ∈ l.take (k + 1), okS c) := Lib.hid (fun x hx => by
              rw [List.take_add_one, List.mem_append] at hx
              rcases hx with hx | hx
              · exact HO.out x hx
              · rw [HCk.out] at hx
                simp at hx
                subst hx
                exact H.out)
            clear hbel c0 c1
            go_wp2_with fail
            go_roundw
            case rel => exact ⟨k + 1, by omega, by go_num, HB2, HW2, HO2⟩
            case measure => simp [intOf]; omega
          · have H := Lib.hid ho
            clear ho
            go_wp2_with fail
            refine (ref2_Right_bad H.out _).mono ?_; rintro e w2 ⟨rfl, hbel⟩
            have hbe := below_step HB.out.bel hbel
            clear hbel c0 c1
            have HV : Hid (pChk l s = 20) := Lib.hid (HCB.out (fun g => H.out (g.1 c (List.mem_of_getElem? HCk.out))))
            go_wp2_with fail
            go_ret
            exact ⟨ret_int HV.out.symm, hbe⟩
        · obtain rfl : k = n := by omega
          have HV : Hid (pChk l s = sChk s) := Lib.hid (by
            have ho : ∀ c ∈ l, okS c := fun c hc => HO.out c (by rw [List.take_of_length_le (by rw [HN.out]; exact Nat.le_refl _)]; exact hc)
            by_cases hs : okS s
            · rw [HCH.out ⟨ho, hs⟩, sChk_ok hs]
            · rw [HCB.out (fun g => hs g.2), sChk_bad hs])
          have a0 := cell_two0 HB.out.b0
          have a1 := cell_two1 HB.out.b0
          go_wp2_with fail
          refine (ref2_Check s _).mono ?_; rintro e w2 ⟨rfl, hbel⟩
          have hbe := below_step HB.out.bel hbel
          clear hbel a0 a1
          go_wp2_with fail
          go_ret
          exact ⟨ret_int HV.out.symm, hbe⟩

/-- The boxes of the reference's Eval. -/
structure EvB (w W : World) (s v : Int × Int) (B : Nat) : Prop where
  bx : Bx2 w W s (0, 0)
  lv : w.heap.size + 1 < B
  bv : W.heap[B]? = some (.cells #[.int .i64 v.1, .int .i64 v.2] 24 (0, 0))
theorem EvB.on {w W W' : World} {s v : Int × Int} {B : Nat} (h : EvB w W s v B) (k : Below W.heap.size W W') : EvB w W' s v B :=
  ⟨h.bx.on k, h.lv, (k.block _ (lt_of_block h.bv)).trans h.bv⟩
theorem EvB.set {w W : World} {s v : Int × Int} {B : Nat} (h : EvB w W s v B) (u : Int × Int) : EvB w ((W.setCell ⟨B, 0, none⟩ (.int .i64 u.1)).setCell ⟨B, 1, none⟩ (.int .i64 u.2)) s u B := by
  have := h.lv
  exact ⟨⟨below_set2 h.bx.bel (by omega) _ _, by rw [oth_set (by omega), oth_set (by omega)]; exact h.bx.b0, by rw [oth_set (by omega), oth_set (by omega)]; exact h.bx.b1⟩, h.lv, set2_at h.bv⟩
theorem keepSet {w W : World} {B0 B1 B i j : Nat} {x y u v z z' : Value} (h : W.cell? ⟨B0, 0, none⟩ = some x ∧ W.cell? ⟨B0, 1, none⟩ = some y ∧ W.cell? ⟨B1, i, none⟩ = some u ∧ W.cell? ⟨B1, j, none⟩ = some v) (n0 : ¬ B0 = B) (n1 : ¬ B1 = B) (hw : w = (W.setCell ⟨B, 0, none⟩ z).setCell ⟨B, 1, none⟩ z') :
    w.cell? ⟨B0, 0, none⟩ = some x ∧ w.cell? ⟨B0, 1, none⟩ = some y ∧ w.cell? ⟨B1, i, none⟩ = some u ∧ w.cell? ⟨B1, j, none⟩ = some v := by
  subst hw
  have e : ∀ (b k : Nat), ¬ b = B → ((W.setCell ⟨B, 0, none⟩ z).setCell ⟨B, 1, none⟩ z').cell? ⟨b, k, none⟩ = W.cell? ⟨b, k, none⟩ := fun b k hb => by
    rw [World.cell?_setCell_other _ _ _ _ (by intro g; cases g; exact hb rfl), World.cell?_setCell_other _ _ _ _ (by intro g; cases g; exact hb rfl)]
  exact ⟨(e _ _ n0).trans h.1, (e _ _ n0).trans h.2.1, (e _ _ n1).trans h.2.2.1, (e _ _ n1).trans h.2.2.2⟩
theorem keep4' {w3 W : World} {B0 B1 i j : Nat} {x y z u : Value} (l0 : B0 < w3.heap.size) (l1 : B1 < w3.heap.size) (a0 : w3.cell? ⟨B0, 0, none⟩ = some x) (a1 : w3.cell? ⟨B0, 1, none⟩ = some y) (b0 : w3.cell? ⟨B1, i, none⟩ = some z) (b1 : w3.cell? ⟨B1, j, none⟩ = some u) (k : Below w3.heap.size w3 W) :
    W.cell? ⟨B0, 0, none⟩ = some x ∧ W.cell? ⟨B0, 1, none⟩ = some y ∧ W.cell? ⟨B1, i, none⟩ = some z ∧ W.cell? ⟨B1, j, none⟩ = some u :=
  ⟨(k.cell (p := ⟨B0, 0, none⟩) l0).trans a0, (k.cell (p := ⟨B0, 1, none⟩) l0).trans a1, (k.cell (p := ⟨B1, i, none⟩) l1).trans b0, (k.cell (p := ⟨B1, j, none⟩) l1).trans b1⟩

theorem pAcc_drop {s c : Int × Int} {l : List (Int × Int)} {k : Nat} (h : l[k]? = some c) : pAcc s (l.drop k) = if (pAcc s (l.drop (k + 1))).2 = 0 then pStep s (pAcc s (l.drop (k + 1))).1 c else pAcc s (l.drop (k + 1)) := by
  obtain ⟨hk, rfl⟩ := List.getElem?_eq_some_iff.1 h
  rw [List.drop_eq_getElem_cons hk]
  rfl
theorem pVal_err {s : Int × Int} {l : List (Int × Int)} {k : Nat} (h : ¬ (pAcc s (l.drop k)).2 = 0) : pVal l s = pAcc s (l.drop k) := by
  unfold pVal
  conv => lhs; rw [← List.take_append_drop k l]
  exact pAcc_err h _
theorem sMul_err {v s : Int × Int} (h : ¬ (sMul v s).2 = 0) : (sMul v s).1 = (0, 0) := by
  by_cases k : okS v ∧ okS s
  · rw [sMul, on2_ok k.1 k.2] at h ⊢
    by_cases q : -4503599627370496 ≤ min4 (fl (v.1 * s.1)) (fl (v.1 * s.2)) (fl (v.2 * s.1)) (fl (v.2 * s.2)) ∧ max4 (cl (v.1 * s.1)) (cl (v.1 * s.2)) (cl (v.2 * s.1)) (cl (v.2 * s.2)) ≤ 4503599627370496
    · rw [sT_ok q.1 q.2] at h
      exact absurd rfl h
    · rw [sT_bad q]
  · rw [sMul, on2_bad k]
theorem sAdd_err {v s : Int × Int} (h : ¬ (sAdd v s).2 = 0) : (sAdd v s).1 = (0, 0) := by
  by_cases k : okS v ∧ okS s
  · rw [sAdd, on2_ok k.1 k.2] at h ⊢
    by_cases q : -4503599627370496 ≤ v.1 + s.1 ∧ v.2 + s.2 ≤ 4503599627370496
    · rw [sT_ok q.1 q.2] at h
      exact absurd rfl h
    · rw [sT_bad q]
  · rw [sAdd, on2_bad k]

theorem pEval_nil {s : Int × Int} (h : pChk [] s = 0) : pEval [] s = ((0, 0), 0) := by rw [pEval_ok h]; rfl

set_option maxRecDepth 100000 in
set_option maxHeartbeats 1000000 in
theorem ref8_Eval_bad (l : List (Int × Int)) (s : Int × Int) (ao : Option Addr) (cap : Nat) (w : World) (h : SpSl w ao cap l) (hz : ¬ pChk l s = 0) :
    Calls Try.prog 21 #[.slice ao l.length cap, .agg #[.int .i64 s.1, .int .i64 s.2]] w fun e w' => e = .returned (.tuple #[.agg #[.int .i64 (pEval l s).1.1, .int .i64 (pEval l s).1.2], .int .i64 (pEval l s).2]) ∧ Below w.heap.size w w' := by
  have hB := Bx2.start w s (0, 0)
  have H := Lib.hid h
  clear h
  have HC := Lib.hid (fun W hS => ref8_check l s ao cap W hS)
  have HR := Lib.hid (pEval_bad hz)
  obtain ⟨c, hc⟩ : ∃ c, c = pChk l s := ⟨_, rfl⟩
  rw [← hc] at HC HR hz
  have z1 : (c == 0) = false := by simp [hz]
  have z2 : (c != 0) = true := by simp [hz]
  clear hc hz
  go_enter Try.func21, Try.ntmps21
  go_wp2_with fail
  refine (HC.out _ (H.out.on hB.bel)).mono ?_; rintro e w2 ⟨rfl, hbel⟩
  have hB := hB.on hbel
  clear hbel
  have c0 := cell_two0 hB.b1
  have c1 := cell_two1 hB.b1
  have f0 := free_two (i := 0) hB.b1
  have f1 := free_two (i := 1) hB.b1
  have l2 := lt_of_block hB.b1
  go_wp2_with fail
  exact bodyPost_ret (v := .tuple #[.agg #[.int .i64 0, .int .i64 0], .int .i64 c]) (by simp [results, Try.results21, go_sem, c0, c1]) rfl ⟨ret_sp HR.out, below_set2 hB.bel (by omega) _ _⟩

set_option maxRecDepth 100000 in
set_option maxHeartbeats 1000000 in
theorem ref8_Eval_nil (s : Int × Int) (ao : Option Addr) (cap : Nat) (w : World) (h : SpSl w ao cap []) (hz : pChk [] s = 0) :
    Calls Try.prog 21 #[.slice ao (0 : Nat) cap, .agg #[.int .i64 s.1, .int .i64 s.2]] w fun e w' => e = .returned (.tuple #[.agg #[.int .i64 (pEval [] s).1.1, .int .i64 (pEval [] s).1.2], .int .i64 (pEval [] s).2]) ∧ Below w.heap.size w w' := by
  have hB := Bx2.start w s (0, 0)
  have H := Lib.hid h
  clear h
  have HC := Lib.hid (fun W hS => ref8_check [] s ao cap W hS)
  have HR := Lib.hid (pEval_nil hz)
  rw [hz] at HC
  clear hz
  go_enter Try.func21, Try.ntmps21
  go_wp2_with fail
  refine (HC.out _ (H.out.on hB.bel)).mono ?_; rintro e w2 ⟨rfl, hbel⟩
  have hB := hB.on hbel
  clear hbel
  have c0 := cell_two0 hB.b1
  have c1 := cell_two1 hB.b1
  have f0 := free_two (i := 0) hB.b1
  have f1 := free_two (i := 1) hB.b1
  have l2 := lt_of_block hB.b1
  go_wp2_with fail
  exact bodyPost_ret (v := .tuple #[.agg #[.int .i64 0, .int .i64 0], .int .i64 0]) (by simp [results, Try.results21, go_sem, c0, c1]) rfl ⟨ret_sp HR.out, below_set2 hB.bel (by omega) _ _⟩

set_option maxRecDepth 100000 in
set_option maxHeartbeats 2000000 in
theorem ref8_Eval_some (m : Nat) (l : List (Int × Int)) (hlen : l.length = m + 1) (s : Int × Int) (b off cap : Nat) (w : World) (h : SpSl w (some ⟨b, off, none⟩) cap l) (hz : pChk l s = 0) :
    Calls Try.prog 21 #[.slice (some ⟨b, off, none⟩) (m + 1 : Nat) cap, .agg #[.int .i64 s.1, .int .i64 s.2]] w fun e w' => e = .returned (.tuple #[.agg #[.int .i64 (pEval l s).1.1, .int .i64 (pEval l s).1.2], .int .i64 (pEval l s).2]) ∧ Below w.heap.size w w' := by
  have hB := Bx2.start w s (0, 0)
  have hlb : b < w.heap.size := by
    obtain ⟨c, hc⟩ : ∃ c, l[0]? = some c := ⟨_, List.getElem?_eq_getElem (by omega)⟩
    have := (h.at hc).1
    apply Nat.lt_of_not_le
    intro hn
    rw [World.cell?, Array.getElem?_eq_none hn] at this
    cases this
  have HL := Lib.hid (fun W k => h.on (W' := W) k)
  have hle := h.le
  have hcm := h.cmax
  have H := Lib.hid h
  clear h
  have HC := Lib.hid (fun W hS => ref8_check l s (some ⟨b, off, none⟩) cap W hS)
  have HR := Lib.hid (pEval_ok hz)
  have h8 : m + 1 ≤ 8 := by
    apply Nat.le_of_not_lt
    intro hn
    rw [pChk_long (by omega)] at hz
    cases hz
  have HOK : Hid ((∀ c ∈ l, okS c) ∧ okS s) := Lib.hid (by
    apply Classical.byContradiction
    intro hn
    rw [pChk_bad (by omega) hn] at hz
    cases hz)
  rw [hz, hlen] at HC
  rw [hlen] at hle
  have HLEN := Lib.hid hlen
  obtain ⟨c, hc⟩ : ∃ c, l[m]? = some c := ⟨_, List.getElem?_eq_getElem (by omega)⟩
  have HV0 : Hid (pAcc s (l.drop m) = (c, 0)) := Lib.hid (by
    rw [pAcc_drop hc, List.drop_of_length_le (by omega)]
    exact pStep_of0 HOK.out.2 (HOK.out.1 c (List.mem_of_getElem? hc)))
  have HCC := Lib.hid hc
  have zb : ((m : Int) + 1 == 0) = false := by rw [beq_eq_false_iff_ne]; omega
  clear hz hlen hc
  go_enter Try.func21, Try.ntmps21
  go_wp2_with fail
  refine (HC.out _ (H.out.on hB.bel)).mono ?_; rintro e w2 ⟨rfl, hbel⟩
  have hB := hB.on hbel
  clear hbel
  obtain ⟨c0, c1⟩ := (HL.out _ hB.bel).at HCC.out
  have e1 : ((m : Int) + 1 - 1) = (m : Int) := by omega
  have e2 : ((m : Int) + 1 - 2) = (m : Int) - 1 := by omega
  have hE : EvB w (w2.alloc (.cells #[.int .i64 c.1, .int .i64 c.2] 24)) s c w2.heap.size := ⟨hB.on (below_alloc (Below.refl _ _) _), lt_of_block hB.b1, heap_at _ rfl⟩
  have HE := Lib.hid hE
  clear hE hB
  go_wp2_with fail
  obtain ⟨B, hBB⟩ : ∃ B, B = w2.heap.size := ⟨_, rfl⟩
  rw [← hBB] at HE
  simp only [← hBB]
  generalize w2.alloc (.cells #[.int .i64 c.1, .int .i64 c.2] 24) = W0 at *
  clear hBB c0 c1 e1 e2
  go_loopw [8] (fun i wr => ∃ j : Nat, j ≤ m ∧ i = .int .i64 ((j : Int) - 1) ∧ ∃ v : Int × Int, Hid (pAcc s (l.drop j) = (v, 0) ∧ EvB w wr s v B)) (fun i _ => (intOf i + 1).toNat)
  case atStart => exact ⟨m, Nat.le_refl _, rfl, c, Lib.hid ⟨HV0.out, HE.out⟩⟩
  case round =>
    clear HE
    obtain ⟨j, hj, rfl, v, HI⟩ := hrel
    rcases Nat.eq_zero_or_pos j with rfl | hj0
    · have hB := HI.out.2
      have v0 := cell_two0 hB.bv
      have v1 := cell_two1 hB.bv
      have c0 := cell_two0 hB.bx.b1
      have c1 := cell_two1 hB.bx.b1
      have f0 := free_two (i := 0) hB.bx.b1
      have f1 := free_two (i := 1) hB.bx.b1
      have l2 := lt_of_block hB.bx.b1
      have HBe := Lib.hid hB.bx.bel
      have HV : Hid (pEval l s = (v, 0)) := Lib.hid (by rw [HR.out]; exact HI.out.1)
      clear hB
      go_wp2_with fail
      exact bodyPost_ret (v := .tuple #[.agg #[.int .i64 v.1, .int .i64 v.2], .int .i64 0]) (by simp [results, Try.results21, go_sem, c0, c1]) rfl ⟨ret_sp HV.out, below_set2 HBe.out (by omega) _ _⟩
    · obtain ⟨k, rfl⟩ : ∃ k, j = k + 1 := ⟨j - 1, by omega⟩
      rw [show (((k + 1 : Nat) : Int) - 1) = (k : Int) by omega]
      obtain ⟨x, hx⟩ : ∃ x, l[k]? = some x := ⟨_, List.getElem?_eq_getElem (by rw [HLEN.out]; omega)⟩
      have HP : Hid (pAcc s (l.drop k) = pStep s v x) := Lib.hid (by rw [pAcc_drop hx, HI.out.1, if_pos rfl])
      have HX := Lib.hid hx
      clear hx
      have hB := HI.out.2
      have s0 := cell_two0 hB.bx.b0
      have s1 := cell_two1 hB.bx.b0
      have v0 := cell_two0 hB.bv
      have v1 := cell_two1 hB.bv
      have HBO := Lib.hid (fun W k => hB.on (W' := W) k)
      have HSz := Lib.hid hB.bx.bel.size
      have HM := Lib.hid (fun W => ref2_Mul v s W)
      have HME := Lib.hid (fun (hn : ¬ (sMul v s).2 = 0) => sMul_err hn)
      have HPO := Lib.hid (fun (hn : (sMul v s).2 = 0) => pStep_ok (c := x) hn)
      have HPB := Lib.hid (fun (hn : ¬ (sMul v s).2 = 0) => pStep_bad (c := x) hn)
      clear hB
      obtain ⟨p, hp⟩ : ∃ p, p = sMul v s := ⟨_, rfl⟩
      rw [← hp] at HM HME HPO HPB
      clear hp
      by_cases hm : p.2 = 0
      · have HPS := Lib.hid (HPO.out hm)
        rw [hm] at HM
        have HA := Lib.hid (fun W => ref2_Add p.1 x W)
        have HAE := Lib.hid (fun (hn : ¬ (sAdd p.1 x).2 = 0) => sAdd_err hn)
        obtain ⟨q, hq⟩ : ∃ q, q = sAdd p.1 x := ⟨_, rfl⟩
        rw [← hq] at HA HAE HPS
        clear hm hq
        go_wp2_with fail
        refine (HM.out _).mono ?_; rintro e w3 ⟨rfl, hbel⟩
        have hB := HBO.out _ hbel
        have hk : Below w.heap.size w w3 := hB.bx.bel
        have hB4 := hB.on (below_alloc (Below.refl _ _) (.cells #[.int .i64 p.1.1, .int .i64 p.1.2] 24))
        have hb9 : (w3.alloc (.cells #[.int .i64 p.1.1, .int .i64 p.1.2] 24)).heap[w3.heap.size]? = some (.cells #[.int .i64 p.1.1, .int .i64 p.1.2] 24 (0, 0)) := heap_at _ rfl
        obtain ⟨x0, x1⟩ := (HL.out _ hB4.bx.bel).at HX.out
        have n9 : ¬ w3.heap.size = B := by have := lt_of_block hB.bv; omega
        have nb : ¬ b = B := by have := hB.lv; omega
        have HB4 := Lib.hid hB4
        have HB9 := Lib.hid hb9
        clear hbel s0 s1 v0 v1 hB hk hB4 hb9
        go_wp2_with fail
        obtain ⟨B9, hB9⟩ : ∃ B9, B9 = w3.heap.size := ⟨_, rfl⟩
        rw [← hB9] at HB9 n9
        simp only [← hB9]
        generalize w3.alloc (.cells #[.int .i64 p.1.1, .int .i64 p.1.2] 24) = W4 at *
        clear hB9
        have p0 := cell_two0 HB9.out
        have p1 := cell_two1 HB9.out
        have l9 := lt_of_block HB9.out
        have lb : b < W4.heap.size := by have := HB4.out.bx.bel.size; omega
        have ik0 : (0 : Int) ≤ (k : Int) := by omega
        have ik1 : (k : Int) < (m : Int) + 1 := by omega
        have ik2 : (k : Int) ≤ (m : Int) := by omega
        have ik3 : k < m + 1 := by omega
        have HQ := Lib.hid (fun (W : World) (hb : Below W4.heap.size W4 W) => (show W.cell? ⟨B, 0, none⟩ = some (.int .i64 v.1) ∧ W.cell? ⟨B, 1, none⟩ = some (.int .i64 v.2) ∧ W.frozen? ⟨B, 0, none⟩ = false ∧ W.frozen? ⟨B, 1, none⟩ = false ∧ B < W.heap.size ∧ Hid (EvB w W s v B) from ⟨cell_two0 (HB4.out.on hb).bv, cell_two1 (HB4.out.on hb).bv, free_two (HB4.out.on hb).bv, free_two (HB4.out.on hb).bv, lt_of_block (HB4.out.on hb).bv, Lib.hid (HB4.out.on hb)⟩))
        go_region_held3 (fun w' => w'.cell? ⟨B9, 0, none⟩ = some (.int .i64 p.1.1) ∧ w'.cell? ⟨B9, 1, none⟩ = some (.int .i64 p.1.2) ∧ w'.cell? ⟨b, off + k * 2, none⟩ = some (.int .i64 x.1) ∧ w'.cell? ⟨b, off + k * 2 + 1, none⟩ = some (.int .i64 x.2))
          (first
            | exact keep4' l9 lb p0 p1 x0 x1 (Below.refl _ _).drew
            | exact keep4' l9 lb p0 p1 x0 x1 (below_step (Below.refl _ _).drew hbel)
            | exact keepSet (keep4' l9 lb p0 p1 x0 x1 (below_step (Below.refl _ _).drew hbel)) n9 nb rfl)
          (first | (go_at_call 88; refine (HA.out _).mono ?_; rintro e w5 ⟨rfl, hbel⟩; obtain ⟨q0, q1, q2, q3, q4, HE5⟩ := HQ.out _ (below_step (Below.refl _ _).drew hbel)))
        clear ik0 ik1 ik2 ik3
        have HE6 := Lib.hid (HE5.out.set q.1)
        clear q0 q1 q2 q3 q4 p0 p1 x0 x1 l9 lb hbel
        by_cases hq : q.2 = 0
        · have HQ0 : Hid (pAcc s (l.drop k) = (q.1, 0)) := Lib.hid (by rw [HP.out, HPS.out, ← hq])
          have z1 : (q.2 == 0) = true := by simp [hq]
          have z2 : (q.2 != 0) = false := by simp [hq]
          clear hq
          go_wp2_with fail
          go_roundw
          case rel => exact ⟨k, by omega, rfl, q.1, Lib.hid ⟨HQ0.out, HE6.out⟩⟩
          case measure => simp [intOf]
        · have HQ0 : Hid (pEval l s = ((0, 0), q.2)) := Lib.hid (by
            have e : pAcc s (l.drop k) = q := by rw [HP.out, HPS.out]
            rw [HR.out, pVal_err (k := k) (by rw [e]; exact hq), e, ← HAE.out hq])
          have z1 : (q.2 == 0) = false := by simp [hq]
          have z2 : (q.2 != 0) = true := by simp [hq]
          clear hq
          have c0 := cell_two0 HE6.out.bx.b1
          have c1 := cell_two1 HE6.out.bx.b1
          have f0 := free_two (i := 0) HE6.out.bx.b1
          have f1 := free_two (i := 1) HE6.out.bx.b1
          have l2 := lt_of_block HE6.out.bx.b1
          generalize ((w5.setCell ⟨B, 0, none⟩ (.int .i64 q.1.1)).setCell ⟨B, 1, none⟩ (.int .i64 q.1.2)) = W6 at *
          go_wp2_with fail
          exact bodyPost_ret (v := .tuple #[.agg #[.int .i64 0, .int .i64 0], .int .i64 q.2]) (by simp [results, Try.results21, go_sem, c0, c1]) rfl ⟨ret_sp HQ0.out, below_set2 HE6.out.bx.bel (by omega) _ _⟩
      · have HQ0 : Hid (pEval l s = ((0, 0), p.2)) := Lib.hid (by
          have e : pAcc s (l.drop k) = p := by rw [HP.out, HPB.out hm]
          rw [HR.out, pVal_err (k := k) (by rw [e]; exact hm), e, ← HME.out hm])
        have z1 : (p.2 == 0) = false := by simp [hm]
        have z2 : (p.2 != 0) = true := by simp [hm]
        clear hm
        go_wp2_with fail
        refine (HM.out _).mono ?_; rintro e w3 ⟨rfl, hbel⟩
        have hB := (HBO.out _ hbel).on (below_alloc (Below.refl _ _) (.cells #[.int .i64 p.1.1, .int .i64 p.1.2] 24))
        have HB4 := Lib.hid hB
        clear hbel s0 s1 v0 v1 hB
        have c0 := cell_two0 HB4.out.bx.b1
        have c1 := cell_two1 HB4.out.bx.b1
        have f0 := free_two (i := 0) HB4.out.bx.b1
        have f1 := free_two (i := 1) HB4.out.bx.b1
        have l2 := lt_of_block HB4.out.bx.b1
        have HW4 := Lib.hid (fun (W : World) (hw : w3.alloc (.cells #[.int .i64 p.1.1, .int .i64 p.1.2] 24) = W) => hw)
        go_wp2_with fail
        exact bodyPost_ret (v := .tuple #[.agg #[.int .i64 0, .int .i64 0], .int .i64 p.2]) (by simp [results, Try.results21, go_sem, c0, c1]) rfl ⟨ret_sp HQ0.out, below_set2 HB4.out.bx.bel (by omega) _ _⟩
end Go.Proofs.Ytgfofilkpaelnaa

/- Contracts of the reference of layer 8: Eval for any list, Slope. -/
namespace Go.Proofs.Ytgfofilkpaelnaa
open Go.RowKit Go.Shelf Mnc

theorem ref8_Eval (l : List (Int × Int)) (s : Int × Int) (ao : Option Addr) (cap : Nat) (w : World) (h : SpSl w ao cap l) :
    Calls Try.prog 21 #[.slice ao l.length cap, .agg #[.int .i64 s.1, .int .i64 s.2]] w fun e w' => e = .returned (.tuple #[.agg #[.int .i64 (pEval l s).1.1, .int .i64 (pEval l s).1.2], .int .i64 (pEval l s).2]) ∧ Below w.heap.size w w' := by
  by_cases hz : pChk l s = 0
  · cases l with
    | nil => exact ref8_Eval_nil s ao cap w h hz
    | cons c r =>
      cases ao with
      | none => have := (h.isNil rfl).1; simp at this
      | some a =>
        have ha := h.isSome a rfl
        obtain ⟨b, off, ax⟩ := a
        cases ha
        exact ref8_Eval_some r.length (c :: r) rfl s b off cap w h hz
  · exact ref8_Eval_bad l s ao cap w h hz

set_option maxRecDepth 100000 in
set_option maxHeartbeats 1000000 in
theorem ref8_Slope_bad (l : List (Int × Int)) (s : Int × Int) (ao : Option Addr) (cap : Nat) (w : World) (h : SpSl w ao cap l) (hz : ¬ pChk l s = 0) :
    Calls Try.prog 23 #[.slice ao l.length cap, .agg #[.int .i64 s.1, .int .i64 s.2]] w fun e w' => e = .returned (.tuple #[.agg #[.int .i64 (pSlope l s).1.1, .int .i64 (pSlope l s).1.2], .int .i64 (pSlope l s).2]) ∧ Below w.heap.size w w' := by
  have hB := Bx2.start w s (0, 0)
  have H := Lib.hid h
  clear h
  have HC := Lib.hid (fun W hS => ref8_check l s ao cap W hS)
  have HR := Lib.hid (pSlope_bad hz)
  obtain ⟨c, hc⟩ : ∃ c, c = pChk l s := ⟨_, rfl⟩
  rw [← hc] at HC HR hz
  have z1 : (c == 0) = false := by simp [hz]
  have z2 : (c != 0) = true := by simp [hz]
  clear hc hz
  go_enter Try.func23, Try.ntmps23
  go_wp2_with fail
  refine (HC.out _ (H.out.on hB.bel)).mono ?_; rintro e w2 ⟨rfl, hbel⟩
  have hB := hB.on hbel
  clear hbel
  have c0 := cell_two0 hB.b1
  have c1 := cell_two1 hB.b1
  have f0 := free_two (i := 0) hB.b1
  have f1 := free_two (i := 1) hB.b1
  have l2 := lt_of_block hB.b1
  go_wp2_with fail
  exact bodyPost_ret (v := .tuple #[.agg #[.int .i64 0, .int .i64 0], .int .i64 c]) (by simp [results, Try.results23, go_sem, c0, c1]) rfl ⟨ret_sp HR.out, below_set2 hB.bel (by omega) _ _⟩

set_option maxRecDepth 100000 in
set_option maxHeartbeats 1000000 in
theorem ref8_Slope_nil (s : Int × Int) (ao : Option Addr) (cap : Nat) (w : World) (h : SpSl w ao cap []) (hz : pChk [] s = 0) :
    Calls Try.prog 23 #[.slice ao (0 : Nat) cap, .agg #[.int .i64 s.1, .int .i64 s.2]] w fun e w' => e = .returned (.tuple #[.agg #[.int .i64 (pSlope [] s).1.1, .int .i64 (pSlope [] s).1.2], .int .i64 (pSlope [] s).2]) ∧ Below w.heap.size w w' := by
  have hB := Bx2.start w s (0, 0)
  have H := Lib.hid h
  clear h
  have HC := Lib.hid (fun W hS => ref8_check [] s ao cap W hS)
  have HR := Lib.hid (pSlope_nil hz)
  have HE := Lib.hid (fun W => ref8_Eval [] s none 0 W (SpSl.none_ W))
  rw [pEval_nil hz] at HE
  rw [hz] at HC
  clear hz
  go_enter Try.func23, Try.ntmps23
  go_wp2_with fail
  refine (HC.out _ (H.out.on hB.bel)).mono ?_; rintro e w2 ⟨rfl, hbel⟩
  have HB := Lib.hid (hB.on hbel)
  clear hbel hB
  go_wp2_with fail
  go_loopw [7, 8] (fun v i wr => v = .slice none 0 0 ∧ i = .int .i64 1 ∧ Hid (Bx2 w wr s (0, 0))) (fun _ i _ => 0 - (intOf i).toNat)
  case atStart => exact ⟨rfl, rfl, HB⟩
  case round =>
    clear HB
    obtain ⟨rfl, rfl, HB⟩ := hrel
    have s0 := cell_two0 HB.out.b0
    have s1 := cell_two1 HB.out.b0
    go_wp2_with fail
    refine (HE.out _).mono ?_; rintro e w3 ⟨rfl, hbel⟩
    have hB := HB.out.on hbel
    clear hbel s0 s1
    have c0 := cell_two0 hB.b1
    have c1 := cell_two1 hB.b1
    have f0 := free_two (i := 0) hB.b1
    have f1 := free_two (i := 1) hB.b1
    have l2 := lt_of_block hB.b1
    go_wp2_with fail
    exact bodyPost_ret (v := .tuple #[.agg #[.int .i64 0, .int .i64 0], .int .i64 0]) (by simp [results, Try.results23, go_sem, c0, c1]) rfl ⟨ret_sp HR.out, below_set2 hB.bel (by omega) _ _⟩

/-- Where the loop of the reference's Slope stands. -/
structure RsB (w W : World) (s : Int × Int) (v : Value) (j : Nat) (r acc : List (Int × Int)) : Prop where
  bx : Bx2 w W s (0, 0)
  len : acc.length = j
  own : W.ownsRow (w.heap.size + 2) 24 2 v j (flat acc)
  oks : ∀ c ∈ acc, okS c
  at_ : pScA r 0 [] = pScA (r.drop j) j acc

set_option maxRecDepth 100000 in
set_option maxHeartbeats 2000000 in
theorem ref8_Slope_some (c : Int × Int) (r : List (Int × Int)) (m : Nat) (hlen : r.length = m) (s : Int × Int) (b off cap : Nat) (w : World) (h : SpSl w (some ⟨b, off, none⟩) cap (c :: r)) (hz : pChk (c :: r) s = 0) :
    Calls Try.prog 23 #[.slice (some ⟨b, off, none⟩) (m + 1 : Nat) cap, .agg #[.int .i64 s.1, .int .i64 s.2]] w fun e w' => e = .returned (.tuple #[.agg #[.int .i64 (pSlope (c :: r) s).1.1, .int .i64 (pSlope (c :: r) s).1.2], .int .i64 (pSlope (c :: r) s).2]) ∧ Below w.heap.size w w' := by
  have hB := Bx2.start w s (0, 0)
  obtain ⟨i0, hi, hz0, hz1, hz2⟩ := info_parts spanInfo
  have HL := Lib.hid (fun W k => h.on (W' := W) k)
  have hle := h.le
  have hcm := h.cmax
  have H := Lib.hid h
  clear h
  have HC := Lib.hid (fun W hS => ref8_check (c :: r) s (some ⟨b, off, none⟩) cap W hS)
  have h8 : m + 1 ≤ 8 := by
    apply Nat.le_of_not_lt
    intro hn
    rw [pChk_long (by simp; omega)] at hz
    cases hz
  have HOK : Hid ((∀ x ∈ c :: r, okS x) ∧ okS s) := Lib.hid (by
    apply Classical.byContradiction
    intro hn
    rw [pChk_bad (by simp; omega) hn] at hz
    cases hz)
  have HPE := Lib.hid (fun he => pSlope_err (l := r) hz he)
  have HPO := Lib.hid (fun he => pSlope_ok (l := r) hz he)
  rw [hz, List.length_cons, hlen] at HC
  rw [List.length_cons, hlen] at hle
  have HLEN := Lib.hid hlen
  have HM := Lib.hid h8
  clear hz hlen
  go_enter Try.func23, Try.ntmps23
  go_wp2_with fail
  refine (HC.out _ (H.out.on hB.bel)).mono ?_; rintro e w2 ⟨rfl, hbel⟩
  have HB := Lib.hid (hB.on hbel)
  clear hbel hB
  go_wp2_with fail
  go_loopw [7, 8] (fun v i wr => ∃ j : Nat, j ≤ m ∧ i = .int .i64 ((j : Int) + 1) ∧ ∃ acc, Hid (RsB w wr s v j r acc)) (fun _ i _ => m + 1 - (intOf i).toNat)
  case atStart => exact ⟨0, by omega, rfl, [], Lib.hid ⟨HB.out, rfl, World.ownsRow_nil _ _ _ _, by simp, rfl⟩⟩
  case round =>
    clear HB
    obtain ⟨j, hj, rfl, acc, HI⟩ := hrel
    rcases Nat.lt_or_ge j m with hj' | hj'
    · obtain ⟨x, hx⟩ : ∃ x, r[j]? = some x := ⟨_, List.getElem?_eq_getElem (by rw [HLEN.out]; exact hj')⟩
      have hx' : (c :: r)[j + 1]? = some x := by rw [List.getElem?_cons_succ]; exact hx
      obtain ⟨x0, x1⟩ := (HL.out _ HI.out.bx.bel).at hx'
      have HOx : Hid (okS x) := Lib.hid (HOK.out.1 x (List.mem_of_getElem? hx'))
      have HD : Hid (r.drop j = x :: r.drop (j + 1)) := Lib.hid (drop_at hx)
      have hn : 0 ≤ (j : Int) + 1 ∧ (j : Int) + 1 ≤ 1000 := by omega
      have HS1 := Lib.hid (sScl_one HOx.out hn)
      have HS2 := Lib.hid (sScl_okS HOx.out hn)
      have HSc := Lib.hid (fun W => ref2_Scale_ok x ((j : Int) + 1) HOx.out hn W)
      rw [← HS1.out] at HSc
      have HOKs := Lib.hid (fun he => pScA_ok (r := r.drop (j + 1)) (acc := acc) (i := j) (c := x) he)
      have HNO := Lib.hid (fun he => pScA_bad (r := r.drop (j + 1)) (acc := acc) (i := j) (c := x) he)
      have ix : off + (j + 1) * 2 = off + (j + 1) * 2 := rfl
      obtain ⟨q, hq⟩ : ∃ q, q = sScl x ((j : Int) + 1) 1 := ⟨_, rfl⟩
      rw [← hq] at HSc HOKs HNO HS2
      clear hq hn hx hx' ix
      by_cases hz : q.2 = 0
      · have HZ := Lib.hid hz
        rw [hz] at HSc
        clear hz
        go_wp2_with fail
        refine (HSc.out _).mono ?_; rintro e w4 ⟨rfl, hbel⟩
        have HB4 := Lib.hid ((HI.out.bx.on hbel).on (below_alloc (Below.refl _ _) (.cells #[.int .i64 q.1.1, .int .i64 q.1.2] 24)))
        have HO4 := Lib.hid ((own_on (own_on HI.out.own hbel) (below_alloc (Below.refl _ _) (.cells #[.int .i64 q.1.1, .int .i64 q.1.2] 24))).alloc (.cells #[.int .i64 q.1.1, .int .i64 q.1.2] 24))
        clear hbel x0 x1
        go_wp2_with (at_builtin; refine wpList_append_own _ rfl _ _ 22 rfl (w.heap.size + 2) 24 i0 (.agg #[.int .i64 0, .int .i64 0]) 2 16 Try.underlying22 hi hz0 hz1 hz2 rfl (by decide) _ _ _ rfl HO4.out ⟨w4.heap.size + 1, 0, none⟩ 1 1 [.int .i64 q.1.1, .int .i64 q.1.2] rfl ?qc1 ?qc2 ?qc3 ?qc4 ?qc5 ?qc6 ?_)
        case qc1 => rfl
        case qc2 =>
          have := news2' (w4.alloc (.cells #[.int .i64 q.1.1, .int .i64 q.1.2] 24)) (.int .i64 q.1.1) (.int .i64 q.1.2) 24
          simpa using this
        case qc3 => exact flat_one_cell [q.1]
        case qc4 => unfold maxLen; omega
        case qc5 => omega
        case qc6 => simp; have := lt_of_block HB4.out.b1; simp at this; omega
        intro v' w5 hown hgrow hnil
        have HL2 : Hid (RsB w w5 s v' (j + 1) r (acc ++ [q.1])) := Lib.hid (by
          have hb5 := HB4.out.on (below_alloc (Below.refl _ _) (.cells #[.int .i64 q.1.1, .int .i64 q.1.2] 24))
          have hge : ∀ k, Value.ownBlock _ = some k → w.heap.size + 2 ≤ k := own_ge HO4.out
          refine ⟨⟨hb5.bel.grown hgrow hb5.bel.size (fun k hk => by have := hge k hk; omega), ?_, ?_⟩, by simp [HI.out.len], by rw [flat_append]; exact hown, ?_, ?_⟩
          · exact (hgrow.block _ (lt_of_block hb5.b0) (fun e => by have := hge _ e.symm; omega)).trans hb5.b0
          · exact (hgrow.block _ (lt_of_block hb5.b1) (fun e => by have := hge _ e.symm; omega)).trans hb5.b1
          · intro y hy
            rcases List.mem_append.1 hy with hy | hy
            · exact HI.out.oks y hy
            · simp at hy
              subst hy
              exact HS2.out
          · rw [HI.out.at_, HD.out, HOKs.out HZ.out])
        clear hown hgrow hnil
        go_wp2
        go_roundw
        case rel => first | exact ⟨j + 1, by omega, by go_num, _, HL2⟩ | ((repeat apply Exists.intro); exact ⟨⟨j + 1, by omega, by go_num, _, HL2⟩, rfl⟩)
        case measure => simp [intOf]; omega
      · have HV : Hid (pSlope (c :: r) s = ((0, 0), q.2)) := Lib.hid (by
          have e : pScA r 0 [] = ([], q.2) := by rw [HI.out.at_, HD.out, HNO.out hz]
          rw [HPE.out (by rw [e]; exact hz), e])
        have z1 : (q.2 == 0) = false := by simp [hz]
        have z2 : (q.2 != 0) = true := by simp [hz]
        clear hz
        go_wp2_with fail
        refine (HSc.out _).mono ?_; rintro e w4 ⟨rfl, hbel⟩
        have HB4 := Lib.hid ((HI.out.bx.on hbel).on (below_alloc (Below.refl _ _) (.cells #[.int .i64 q.1.1, .int .i64 q.1.2] 24)))
        clear hbel x0 x1
        have c0 := cell_two0 HB4.out.b1
        have c1 := cell_two1 HB4.out.b1
        have f0 := free_two (i := 0) HB4.out.b1
        have f1 := free_two (i := 1) HB4.out.b1
        have l2 := lt_of_block HB4.out.b1
        go_wp2_with fail
        exact bodyPost_ret (v := .tuple #[.agg #[.int .i64 0, .int .i64 0], .int .i64 q.2]) (by simp [results, Try.results23, go_sem, c0, c1]) rfl ⟨ret_sp HV.out, below_set2 HB4.out.bel (by omega) _ _⟩
    · obtain rfl : j = m := by omega
      have hown := HI.out.own
      rw [← HI.out.len] at hown
      obtain ⟨ao', cap', hv, hS⟩ := SpSl.of_own hown (by rw [HI.out.len]; omega)
      rw [HI.out.len] at hv
      subst hv
      have HV : Hid (pSlope (c :: r) s = pEval acc s) := Lib.hid (by
        have e : pScA r 0 [] = (acc, 0) := by
          rw [HI.out.at_, ← HLEN.out, List.drop_length]
          rfl
        rw [HPO.out (by rw [e]), e, pEval_ok (pChk_ok (by rw [HI.out.len]; have := HM.out; omega) HI.out.oks HOK.out.2)])
      have HE := Lib.hid (fun W hs => ref8_Eval acc s ao' cap' W hs)
      rw [HI.out.len] at HE
      have HS := Lib.hid hS
      have hB := HI.out.bx
      clear hown hS
      have s0 := cell_two0 hB.b0
      have s1 := cell_two1 hB.b0
      go_wp2_with fail
      refine (HE.out _ HS.out).mono ?_; rintro e w4 ⟨rfl, hbel⟩
      have hB := hB.on hbel
      clear hbel s0 s1
      have c0 := cell_two0 hB.b1
      have c1 := cell_two1 hB.b1
      have f0 := free_two (i := 0) hB.b1
      have f1 := free_two (i := 1) hB.b1
      have l2 := lt_of_block hB.b1
      go_wp2_with fail
      exact bodyPost_ret (v := .tuple #[.agg #[.int .i64 (pEval acc s).1.1, .int .i64 (pEval acc s).1.2], .int .i64 (pEval acc s).2]) (by simp [results, Try.results23, go_sem, c0, c1]) rfl ⟨by rw [HV.out], below_set2 hB.bel (by omega) _ _⟩

theorem ref8_Slope (l : List (Int × Int)) (s : Int × Int) (ao : Option Addr) (cap : Nat) (w : World) (h : SpSl w ao cap l) :
    Calls Try.prog 23 #[.slice ao l.length cap, .agg #[.int .i64 s.1, .int .i64 s.2]] w fun e w' => e = .returned (.tuple #[.agg #[.int .i64 (pSlope l s).1.1, .int .i64 (pSlope l s).1.2], .int .i64 (pSlope l s).2]) ∧ Below w.heap.size w w' := by
  by_cases hz : pChk l s = 0
  · cases l with
    | nil => exact ref8_Slope_nil s ao cap w h hz
    | cons c r =>
      cases ao with
      | none => have := (h.isNil rfl).1; simp at this
      | some a =>
        have ha := h.isSome a rfl
        obtain ⟨b, off, ax⟩ := a
        cases ha
        exact ref8_Slope_some c r r.length rfl s b off cap w h hz
  · exact ref8_Slope_bad l s ao cap w h hz
end Go.Proofs.Ytgfofilkpaelnaa

/- Contracts of the reference of layer 8: Coefs. -/
namespace Mnc
open Go
/-- A draft: its place, its bits, its width. -/
abbrev Dr := Int × Int × Int
def Dr.wf (d : Dr) : Prop := (0 ≤ d.2.1 ∧ d.2.1 < 256) ∧ (0 ≤ d.2.2 ∧ d.2.2 < 4294967296)
def drS (small : Bool) (d : Dr) : Int × Int := if small then dSmall d.1 d.2.1 d.2.2 else dSpan d.1 d.2.1 d.2.2
def coefs (small : Bool) (l : List Dr) : List (Int × Int) := (l.take 8).map (drS small)
theorem coefs_len (small : Bool) (l : List Dr) : (coefs small l).length ≤ 8 := by
  simp [coefs]
  omega
theorem coefs_sml {l : List Dr} (h : ∀ d ∈ l, d.wf) : ∀ c ∈ coefs true l, okS c ∧ -68719476736 ≤ c.1 ∧ c.1 ≤ 68719476736 ∧ c.2 ≤ 73014444031 := by
  intro c hc
  obtain ⟨d, hd, rfl⟩ := List.mem_map.1 hc
  exact dSmall_sml _ _ _ (h d (List.mem_of_mem_take hd)).2
theorem coefs_okS {small : Bool} {l : List Dr} (h : ∀ d ∈ l, d.wf) : ∀ c ∈ coefs small l, okS c := by
  intro c hc
  obtain ⟨d, hd, rfl⟩ := List.mem_map.1 hc
  have hw := h d (List.mem_of_mem_take hd)
  cases small
  · exact dSpan_okS _ _ _ hw.2
  · exact (dSmall_sml _ _ _ hw.2).1
/-- The cells of a list of drafts. -/
def flatD (l : List Dr) : List Value := l.flatMap fun d => [.int .i64 d.1, .int .u8 d.2.1, .int .u32 d.2.2]
theorem flatD_cons (d : Dr) (r : List Dr) : flatD (d :: r) = .int .i64 d.1 :: .int .u8 d.2.1 :: .int .u32 d.2.2 :: flatD r := rfl
theorem flatD_at (l : List Dr) (i : Nat) (d : Dr) (h : l[i]? = some d) : (flatD l)[i * 3]? = some (.int .i64 d.1) ∧ (flatD l)[i * 3 + 1]? = some (.int .u8 d.2.1) ∧ (flatD l)[i * 3 + 2]? = some (.int .u32 d.2.2) := by
  induction l generalizing i with
  | nil => simp at h
  | cons a r ih =>
    cases i with
    | zero =>
      simp at h
      subst h
      exact ⟨rfl, rfl, rfl⟩
    | succ i =>
      simp at h
      have := ih i h
      rw [flatD_cons, show (i + 1) * 3 = i * 3 + 1 + 1 + 1 by omega]
      exact this
end Mnc
namespace Go.Proofs.Ytgfofilkpaelnaa
open Go.RowKit Go.Shelf Mnc

/-- A slice of drafts that reads as a list. -/
structure DrSl (W : World) (ao : Option Addr) (cap : Nat) (l : List Dr) : Prop where
  le : l.length ≤ cap
  cmax : cap ≤ 9223372036854775807
  isNil : ao = none → l.length = 0 ∧ cap = 0
  isSome : ∀ a, ao = some a → a = ⟨a.block, a.off, none⟩
  wf : ∀ d ∈ l, d.wf
  cells : ∀ a, ao = some a → ∀ j u, (flatD l)[j]? = some u → W.cell? (a.add j) = some u
theorem DrSl.on {W W' : World} {ao : Option Addr} {cap : Nat} {l : List Dr} (h : DrSl W ao cap l) (k : Below W.heap.size W W') : DrSl W' ao cap l :=
  ⟨h.le, h.cmax, h.isNil, h.isSome, h.wf, fun a ha j u hu => by
    have := h.cells a ha j u hu
    have hl : (a.add j).block < W.heap.size := by
      apply Nat.lt_of_not_le
      intro hn
      rw [World.cell?, Array.getElem?_eq_none hn] at this
      cases this
    rw [k.cell hl]
    exact this⟩
theorem DrSl.at {W : World} {b off cap i : Nat} {l : List Dr} {d : Dr} (h : DrSl W (some ⟨b, off, none⟩) cap l) (hc : l[i]? = some d) : W.cell? ⟨b, off + i * 3, none⟩ = some (.int .i64 d.1) ∧ W.cell? ⟨b, off + i * 3 + 1, none⟩ = some (.int .u8 d.2.1) ∧ W.cell? ⟨b, off + i * 3 + 2, none⟩ = some (.int .u32 d.2.2) := by
  obtain ⟨h1, h2, h3⟩ := flatD_at l i d hc
  have a := h.cells _ rfl _ _ h1
  have b := h.cells _ rfl _ _ h2
  have c := h.cells _ rfl _ _ h3
  rw [add_plain] at a b c
  exact ⟨a, b, c⟩

/-- Where the loop of Coefs stands. -/
structure CfB (w W : World) (v : Value) (small : Bool) (l : List Dr) (k : Nat) : Prop where
  bel : Below w.heap.size w W
  own : W.ownsRow w.heap.size 24 2 v k (flat ((l.take k).map (drS small)))

theorem CfB.end_ {w W : World} {v : Value} {small : Bool} {l : List Dr} {k : Nat} (h : CfB w W v small l k) (hk : k = min l.length 8) : W.ownsRow w.heap.size 24 2 v (coefs small l).length (flat (coefs small l)) ∧ Below w.heap.size w W := by
  have e : (l.take k).map (drS small) = coefs small l := by
    unfold coefs
    congr 1
    subst hk
    rcases Nat.le_total l.length 8 with h8 | h8
    · rw [Nat.min_eq_left h8, List.take_length, List.take_of_length_le h8]
    · rw [Nat.min_eq_right h8]
  have hown := h.own
  rw [e] at hown
  have hl : (coefs small l).length = k := by simp [coefs]; omega
  rw [← hl] at hown
  exact ⟨hown, h.bel⟩

set_option maxRecDepth 100000 in
set_option maxHeartbeats 2000000 in
theorem ref8_Coefs_own (l : List Dr) (small : Bool) (ao : Option Addr) (cap : Nat) (w : World) (h : DrSl w ao cap l) :
    Calls Try.prog 18 #[.slice ao l.length cap, .bool small] w fun e w' => ∃ v, e = .returned v ∧ w'.ownsRow w.heap.size 24 2 v (coefs small l).length (flat (coefs small l)) ∧ Below w.heap.size w w' := by
  obtain ⟨i0, hi, hz0, hz1, hz2⟩ := info_parts spanInfo
  have HL := Lib.hid (fun W k => h.on (W' := W) k)
  have hle := h.le
  have hcm := h.cmax
  have HW := Lib.hid h.wf
  have HNil := Lib.hid h.isNil
  have HSome := Lib.hid h.isSome
  obtain ⟨n, hn⟩ : ∃ n, n = l.length := ⟨_, rfl⟩
  have HN := Lib.hid hn
  rw [← hn] at hle ⊢
  clear hn h
  go_enter Try.func18, Try.ntmps18
  go_wp2_with fail
  go_simp
  go_loopw [5, 6] (fun v i wr => ∃ k : Nat, k ≤ n ∧ k ≤ 8 ∧ i = .int .i64 k ∧ Hid (CfB w wr v small l k)) (fun _ i _ => 8 - (intOf i).toNat)
  case atStart => exact ⟨0, by omega, by omega, rfl, Lib.hid ⟨Below.refl _ _, World.ownsRow_nil _ _ _ _⟩⟩
  case round =>
    obtain ⟨k, hk, hk8, rfl, HA⟩ := hrel
    rcases Nat.lt_or_ge k n with hk' | hk'
    · rcases Nat.lt_or_ge k 8 with h8 | h8
      · obtain ⟨d, hd⟩ : ∃ d, l[k]? = some d := ⟨_, List.getElem?_eq_getElem (by rw [← HN.out]; exact hk')⟩
        have HX : Hid ((l.take (k + 1)).map (drS small) = (l.take k).map (drS small) ++ [drS small d]) := Lib.hid (by rw [List.take_add_one, hd]; simp)
        have HD := Lib.hid (HW.out d (List.mem_of_getElem? hd))
        obtain ⟨a, ha⟩ : ∃ a, ao = some a := by
          cases hao : ao with
          | none => have := (HNil.out hao).1; rw [HN.out] at hk'; omega
          | some a => exact ⟨a, rfl⟩
        have ha2 := HSome.out a ha
        subst ha
        obtain ⟨b, off, ax⟩ := a
        cases ha2
        obtain ⟨c0, c1, c2⟩ := (HL.out _ HA.out.bel).at hd
        have t8 : decide ((k : Int) < 8) = true := by simp; omega
        clear hd HNil HSome
        cases small
        · go_wp2_with fail
          refine (draft_Span d.1 d.2.1 d.2.2 HD.out.1 HD.out.2 _).mono ?_
          rintro e w2 ⟨rfl, hbel⟩
          have HO := Lib.hid (own_on HA.out.own hbel)
          have HBel := Lib.hid (below_step HA.out.bel hbel)
          clear hbel c0 c1 c2
          go_wp2_with (at_builtin; refine wpList_append_own _ rfl _ _ 22 rfl w.heap.size 24 i0 (.agg #[.int .i64 0, .int .i64 0]) 2 16 Try.underlying22 hi hz0 hz1 hz2 rfl (by decide) _ _ _ rfl (HO.out.alloc _) ⟨w2.heap.size, 0, none⟩ 1 1 [.int .i64 (dSpan d.1 d.2.1 d.2.2).1, .int .i64 (dSpan d.1 d.2.1 d.2.2).2] rfl ?qc1 ?qc2 ?qc3 ?qc4 ?qc5 ?qc6 ?_)
          case qc1 => rfl
          case qc2 => exact news2' _ _ _ _
          case qc3 => exact flat_one_cell [dSpan d.1 d.2.1 d.2.2]
          case qc4 => unfold maxLen; omega
          case qc5 => omega
          case qc6 => simp; have := HBel.out.size; omega
          intro v' w1 hown hgrow hnil
          have HL2 : Hid (CfB w w1 v' false l (k + 1)) := Lib.hid ⟨(below_alloc HBel.out _).grown hgrow (by simp; have := HBel.out.size; omega) (fun j hj => own_ge HO.out j hj), by
            rw [HX.out, flat_append]; first | exact hown | (rw [List.map_take]; exact hown)⟩
          clear hown hgrow hnil
          go_wp2
          go_roundw
          case rel => first | exact ⟨k + 1, by omega, by omega, by go_num, HL2⟩ | ((repeat apply Exists.intro); exact ⟨⟨k + 1, by omega, by omega, by go_num, HL2⟩, rfl⟩)
          case measure => simp [intOf]; omega
        · go_wp2_with fail
          refine (draft_Small d.1 d.2.1 d.2.2 HD.out.1 HD.out.2 _).mono ?_
          rintro e w2 ⟨rfl, hbel⟩
          have HO := Lib.hid (own_on HA.out.own hbel)
          have HBel := Lib.hid (below_step HA.out.bel hbel)
          clear hbel c0 c1 c2
          go_wp2_with (at_builtin; refine wpList_append_own _ rfl _ _ 22 rfl w.heap.size 24 i0 (.agg #[.int .i64 0, .int .i64 0]) 2 16 Try.underlying22 hi hz0 hz1 hz2 rfl (by decide) _ _ _ rfl (HO.out.alloc _) ⟨w2.heap.size, 0, none⟩ 1 1 [.int .i64 (dSmall d.1 d.2.1 d.2.2).1, .int .i64 (dSmall d.1 d.2.1 d.2.2).2] rfl ?qc1 ?qc2 ?qc3 ?qc4 ?qc5 ?qc6 ?_)
          case qc1 => rfl
          case qc2 => exact news2' _ _ _ _
          case qc3 => exact flat_one_cell [dSmall d.1 d.2.1 d.2.2]
          case qc4 => unfold maxLen; omega
          case qc5 => omega
          case qc6 => simp; have := HBel.out.size; omega
          intro v' w1 hown hgrow hnil
          have HL2 : Hid (CfB w w1 v' true l (k + 1)) := Lib.hid ⟨(below_alloc HBel.out _).grown hgrow (by simp; have := HBel.out.size; omega) (fun j hj => own_ge HO.out j hj), by
            rw [HX.out, flat_append]; first | exact hown | (rw [List.map_take]; exact hown)⟩
          clear hown hgrow hnil
          go_wp2
          go_roundw
          case rel => first | exact ⟨k + 1, by omega, by omega, by go_num, HL2⟩ | ((repeat apply Exists.intro); exact ⟨⟨k + 1, by omega, by omega, by go_num, HL2⟩, rfl⟩)
          case measure => simp [intOf]; omega
      · obtain rfl : k = 8 := by omega
        have HS := Lib.hid (HA.out.end_ (by rw [← HN.out]; omega))
        have t1 : decide ((8 : Int) < (n : Int)) = true := by simp; omega
        go_wp2
        go_ret
        exact ⟨_, rfl, HS.out.1, HS.out.2⟩
    · obtain rfl : k = n := by omega
      have HS := Lib.hid (HA.out.end_ (by rw [← HN.out]; omega))
      go_wp2
      go_ret
      exact ⟨_, rfl, HS.out.1, HS.out.2⟩

theorem ref8_Coefs (l : List Dr) (small : Bool) (ao : Option Addr) (cap : Nat) (w : World) (h : DrSl w ao cap l) :
    Calls Try.prog 18 #[.slice ao l.length cap, .bool small] w fun e w' => ∃ ao' cap', e = .returned (.slice ao' (coefs small l).length cap') ∧ SpSl w' ao' cap' (coefs small l) ∧ Below w.heap.size w w' := by
  refine (ref8_Coefs_own l small ao cap w h).mono ?_
  rintro e w' ⟨v, rfl, hown, hbel⟩
  obtain ⟨ao', cap', rfl, hS⟩ := SpSl.of_own hown (by have := coefs_len small l; omega)
  exact ⟨ao', cap', rfl, hS, hbel⟩
end Go.Proofs.Ytgfofilkpaelnaa
