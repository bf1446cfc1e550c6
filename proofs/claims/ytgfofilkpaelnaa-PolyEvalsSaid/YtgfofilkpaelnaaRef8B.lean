/- Contracts of the reference of layer 8: Eval for any list, Slope. -/
import Derived.Test.YtgfofilkpaelnaaRef8A
import Derived.Test.YtgfofilkpaelnaaLawP
namespace Go.Proofs.Ytgfofilkpaelnaa
open Go.RowKit Go.Shelf Mnc

theorem ref8_Eval (l : List (Int × Int)) (s : Int × Int) (ao : Option Addr) (cap : Nat) (w : World) (h : SpSl w ao cap l) :
    Calls Try.prog 21 #[.slice ao l.length cap, .agg #[.int .i64 s.1, .int .i64 s.2]] w fun e w' => e = .returned (.tuple #[.agg #[.int .i64 (pEval l s).1.1, .int .i64 (pEval l s).1.2], .int .i64 (pEval l s).2]) ∧ Below w.heap.size w w' := by
  by_cases hz : pChk l s = 0
  · cases l with
    | nil => exact ref8_Eval_nil s ao cap w h hz
    | cons c r =>
      cases ao with
      | none => have := (h.isNil rfl).1; simp at this
      | some a =>
        have ha := h.isSome a rfl
        obtain ⟨b, off, ax⟩ := a
        cases ha
        exact ref8_Eval_some r.length (c :: r) rfl s b off cap w h hz
  · exact ref8_Eval_bad l s ao cap w h hz

set_option maxRecDepth 100000 in
set_option maxHeartbeats 1000000 in
theorem ref8_Slope_bad (l : List (Int × Int)) (s : Int × Int) (ao : Option Addr) (cap : Nat) (w : World) (h : SpSl w ao cap l) (hz : ¬ pChk l s = 0) :
    Calls Try.prog 23 #[.slice ao l.length cap, .agg #[.int .i64 s.1, .int .i64 s.2]] w fun e w' => e = .returned (.tuple #[.agg #[.int .i64 (pSlope l s).1.1, .int .i64 (pSlope l s).1.2], .int .i64 (pSlope l s).2]) ∧ Below w.heap.size w w' := by
  have hB := Bx2.start w s (0, 0)
  have H := Lib.hid h
  clear h
  have HC := Lib.hid (fun W hS => ref8_check l s ao cap W hS)
  have HR := Lib.hid (pSlope_bad hz)
  obtain ⟨c, hc⟩ : ∃ c, c = pChk l s := ⟨_, rfl⟩
  rw [← hc] at HC HR hz
  have z1 : (c == 0) = false := by simp [hz]
  have z2 : (c != 0) = true := by simp [hz]
  clear hc hz
  go_enter Try.func23, Try.ntmps23
  go_wp2_with fail
  refine (HC.out _ (H.out.on hB.bel)).mono ?_; rintro e w2 ⟨rfl, hbel⟩
  have hB := hB.on hbel
  clear hbel
  have c0 := cell_two0 hB.b1
  have c1 := cell_two1 hB.b1
  have f0 := free_two (i := 0) hB.b1
  have f1 := free_two (i := 1) hB.b1
  have l2 := lt_of_block hB.b1
  go_wp2_with fail
  exact bodyPost_ret (v := .tuple #[.agg #[.int .i64 0, .int .i64 0], .int .i64 c]) (by simp [results, Try.results23, go_sem, c0, c1]) rfl ⟨ret_sp HR.out, below_set2 hB.bel (by omega) _ _⟩

set_option maxRecDepth 100000 in
set_option maxHeartbeats 1000000 in
theorem ref8_Slope_nil (s : Int × Int) (ao : Option Addr) (cap : Nat) (w : World) (h : SpSl w ao cap []) (hz : pChk [] s = 0) :
    Calls Try.prog 23 #[.slice ao (0 : Nat) cap, .agg #[.int .i64 s.1, .int .i64 s.2]] w fun e w' => e = .returned (.tuple #[.agg #[.int .i64 (pSlope [] s).1.1, .int .i64 (pSlope [] s).1.2], .int .i64 (pSlope [] s).2]) ∧ Below w.heap.size w w' := by
  have hB := Bx2.start w s (0, 0)
  have H := Lib.hid h
  clear h
  have HC := Lib.hid (fun W hS => ref8_check [] s ao cap W hS)
  have HR := Lib.hid (pSlope_nil hz)
  have HE := Lib.hid (fun W => ref8_Eval [] s none 0 W (SpSl.none_ W))
  rw [pEval_nil hz] at HE
  rw [hz] at HC
  clear hz
  go_enter Try.func23, Try.ntmps23
  go_wp2_with fail
  refine (HC.out _ (H.out.on hB.bel)).mono ?_; rintro e w2 ⟨rfl, hbel⟩
  have HB := Lib.hid (hB.on hbel)
  clear hbel hB
  go_wp2_with fail
  go_loopw [7, 8] (fun v i wr => v = .slice none 0 0 ∧ i = .int .i64 1 ∧ Hid (Bx2 w wr s (0, 0))) (fun _ i _ => 0 - (intOf i).toNat)
  case atStart => exact ⟨rfl, rfl, HB⟩
  case round =>
    clear HB
    obtain ⟨rfl, rfl, HB⟩ := hrel
    have s0 := cell_two0 HB.out.b0
    have s1 := cell_two1 HB.out.b0
    go_wp2_with fail
    refine (HE.out _).mono ?_; rintro e w3 ⟨rfl, hbel⟩
    have hB := HB.out.on hbel
    clear hbel s0 s1
    have c0 := cell_two0 hB.b1
    have c1 := cell_two1 hB.b1
    have f0 := free_two (i := 0) hB.b1
    have f1 := free_two (i := 1) hB.b1
    have l2 := lt_of_block hB.b1
    go_wp2_with fail
    exact bodyPost_ret (v := .tuple #[.agg #[.int .i64 0, .int .i64 0], .int .i64 0]) (by simp [results, Try.results23, go_sem, c0, c1]) rfl ⟨ret_sp HR.out, below_set2 hB.bel (by omega) _ _⟩

/-- Where the loop of the reference's Slope stands. -/
structure RsB (w W : World) (s : Int × Int) (v : Value) (j : Nat) (r acc : List (Int × Int)) : Prop where
  bx : Bx2 w W s (0, 0)
  len : acc.length = j
  own : W.ownsRow (w.heap.size + 2) 24 2 v j (flat acc)
  oks : ∀ c ∈ acc, okS c
  at_ : pScA r 0 [] = pScA (r.drop j) j acc

set_option maxRecDepth 100000 in
set_option maxHeartbeats 2000000 in
theorem ref8_Slope_some (c : Int × Int) (r : List (Int × Int)) (m : Nat) (hlen : r.length = m) (s : Int × Int) (b off cap : Nat) (w : World) (h : SpSl w (some ⟨b, off, none⟩) cap (c :: r)) (hz : pChk (c :: r) s = 0) :
    Calls Try.prog 23 #[.slice (some ⟨b, off, none⟩) (m + 1 : Nat) cap, .agg #[.int .i64 s.1, .int .i64 s.2]] w fun e w' => e = .returned (.tuple #[.agg #[.int .i64 (pSlope (c :: r) s).1.1, .int .i64 (pSlope (c :: r) s).1.2], .int .i64 (pSlope (c :: r) s).2]) ∧ Below w.heap.size w w' := by
  have hB := Bx2.start w s (0, 0)
  obtain ⟨i0, hi, hz0, hz1, hz2⟩ := info_parts spanInfo
  have HL := Lib.hid (fun W k => h.on (W' := W) k)
  have hle := h.le
  have hcm := h.cmax
  have H := Lib.hid h
  clear h
  have HC := Lib.hid (fun W hS => ref8_check (c :: r) s (some ⟨b, off, none⟩) cap W hS)
  have h8 : m + 1 ≤ 8 := by
    apply Nat.le_of_not_lt
    intro hn
    rw [pChk_long (by simp; omega)] at hz
    cases hz
  have HOK : Hid ((∀ x ∈ c :: r, okS x) ∧ okS s) := Lib.hid (by
    apply Classical.byContradiction
    intro hn
    rw [pChk_bad (by simp; omega) hn] at hz
    cases hz)
  have HPE := Lib.hid (fun he => pSlope_err (l := r) hz he)
  have HPO := Lib.hid (fun he => pSlope_ok (l := r) hz he)
  rw [hz, List.length_cons, hlen] at HC
  rw [List.length_cons, hlen] at hle
  have HLEN := Lib.hid hlen
  have HM := Lib.hid h8
  clear hz hlen
  go_enter Try.func23, Try.ntmps23
  go_wp2_with fail
  refine (HC.out _ (H.out.on hB.bel)).mono ?_; rintro e w2 ⟨rfl, hbel⟩
  have HB := Lib.hid (hB.on hbel)
  clear hbel hB
  go_wp2_with fail
  go_loopw [7, 8] (fun v i wr => ∃ j : Nat, j ≤ m ∧ i = .int .i64 ((j : Int) + 1) ∧ ∃ acc, Hid (RsB w wr s v j r acc)) (fun _ i _ => m + 1 - (intOf i).toNat)
  case atStart => exact ⟨0, by omega, rfl, [], Lib.hid ⟨HB.out, rfl, World.ownsRow_nil _ _ _ _, by simp, rfl⟩⟩
  case round =>
    clear HB
    obtain ⟨j, hj, rfl, acc, HI⟩ := hrel
    rcases Nat.lt_or_ge j m with hj' | hj'
    · obtain ⟨x, hx⟩ : ∃ x, r[j]? = some x := ⟨_, List.getElem?_eq_getElem (by rw [HLEN.out]; exact hj')⟩
      have hx' : (c :: r)[j + 1]? = some x := by rw [List.getElem?_cons_succ]; exact hx
      obtain ⟨x0, x1⟩ := (HL.out _ HI.out.bx.bel).at hx'
      have HOx : Hid (okS x) := Lib.hid (HOK.out.1 x (List.mem_of_getElem? hx'))
      have HD : Hid (r.drop j = x :: r.drop (j + 1)) := Lib.hid (drop_at hx)
      have hn : 0 ≤ (j : Int) + 1 ∧ (j : Int) + 1 ≤ 1000 := by omega
      have HS1 := Lib.hid (sScl_one HOx.out hn)
      have HS2 := Lib.hid (sScl_okS HOx.out hn)
      have HSc := Lib.hid (fun W => ref2_Scale_ok x ((j : Int) + 1) HOx.out hn W)
      rw [← HS1.out] at HSc
      have HOKs := Lib.hid (fun he => pScA_ok (r := r.drop (j + 1)) (acc := acc) (i := j) (c := x) he)
      have HNO := Lib.hid (fun he => pScA_bad (r := r.drop (j + 1)) (acc := acc) (i := j) (c := x) he)
      have ix : off + (j + 1) * 2 = off + (j + 1) * 2 := rfl
      obtain ⟨q, hq⟩ : ∃ q, q = sScl x ((j : Int) + 1) 1 := ⟨_, rfl⟩
      rw [← hq] at HSc HOKs HNO HS2
      clear hq hn hx hx' ix
      by_cases hz : q.2 = 0
      · have HZ := Lib.hid hz
        rw [hz] at HSc
        clear hz
        go_wp2_with fail
        refine (HSc.out _).mono ?_; rintro e w4 ⟨rfl, hbel⟩
        have HB4 := Lib.hid ((HI.out.bx.on hbel).on (below_alloc (Below.refl _ _) (.cells #[.int .i64 q.1.1, .int .i64 q.1.2] 24)))
        have HO4 := Lib.hid ((own_on (own_on HI.out.own hbel) (below_alloc (Below.refl _ _) (.cells #[.int .i64 q.1.1, .int .i64 q.1.2] 24))).alloc (.cells #[.int .i64 q.1.1, .int .i64 q.1.2] 24))
        clear hbel x0 x1
        go_wp2_with (at_builtin; refine wpList_append_own _ rfl _ _ 22 rfl (w.heap.size + 2) 24 i0 (.agg #[.int .i64 0, .int .i64 0]) 2 16 Try.underlying22 hi hz0 hz1 hz2 rfl (by decide) _ _ _ rfl HO4.out ⟨w4.heap.size + 1, 0, none⟩ 1 1 [.int .i64 q.1.1, .int .i64 q.1.2] rfl ?qc1 ?qc2 ?qc3 ?qc4 ?qc5 ?qc6 ?_)
        case qc1 => rfl
        case qc2 =>
          have := news2' (w4.alloc (.cells #[.int .i64 q.1.1, .int .i64 q.1.2] 24)) (.int .i64 q.1.1) (.int .i64 q.1.2) 24
          simpa using this
        case qc3 => exact flat_one_cell [q.1]
        case qc4 => unfold maxLen; omega
        case qc5 => omega
        case qc6 => simp; have := lt_of_block HB4.out.b1; simp at this; omega
        intro v' w5 hown hgrow hnil
        have HL2 : Hid (RsB w w5 s v' (j + 1) r (acc ++ [q.1])) := Lib.hid (by
          have hb5 := HB4.out.on (below_alloc (Below.refl _ _) (.cells #[.int .i64 q.1.1, .int .i64 q.1.2] 24))
          have hge : ∀ k, Value.ownBlock _ = some k → w.heap.size + 2 ≤ k := own_ge HO4.out
          refine ⟨⟨hb5.bel.grown hgrow hb5.bel.size (fun k hk => by have := hge k hk; omega), ?_, ?_⟩, by simp [HI.out.len], by rw [flat_append]; exact hown, ?_, ?_⟩
          · exact (hgrow.block _ (lt_of_block hb5.b0) (fun e => by have := hge _ e.symm; omega)).trans hb5.b0
          · exact (hgrow.block _ (lt_of_block hb5.b1) (fun e => by have := hge _ e.symm; omega)).trans hb5.b1
          · intro y hy
            rcases List.mem_append.1 hy with hy | hy
            · exact HI.out.oks y hy
            · simp at hy
              subst hy
              exact HS2.out
          · rw [HI.out.at_, HD.out, HOKs.out HZ.out])
        clear hown hgrow hnil
        go_wp2
        go_roundw
        case rel => first | exact ⟨j + 1, by omega, by go_num, _, HL2⟩ | ((repeat apply Exists.intro); exact ⟨⟨j + 1, by omega, by go_num, _, HL2⟩, rfl⟩)
        case measure => simp [intOf]; omega
      · have HV : Hid (pSlope (c :: r) s = ((0, 0), q.2)) := Lib.hid (by
          have e : pScA r 0 [] = ([], q.2) := by rw [HI.out.at_, HD.out, HNO.out hz]
          rw [HPE.out (by rw [e]; exact hz), e])
        have z1 : (q.2 == 0) = false := by simp [hz]
        have z2 : (q.2 != 0) = true := by simp [hz]
        clear hz
        go_wp2_with fail
        refine (HSc.out _).mono ?_; rintro e w4 ⟨rfl, hbel⟩
        have HB4 := Lib.hid ((HI.out.bx.on hbel).on (below_alloc (Below.refl _ _) (.cells #[.int .i64 q.1.1, .int .i64 q.1.2] 24)))
        clear hbel x0 x1
        have c0 := cell_two0 HB4.out.b1
        have c1 := cell_two1 HB4.out.b1
        have f0 := free_two (i := 0) HB4.out.b1
        have f1 := free_two (i := 1) HB4.out.b1
        have l2 := lt_of_block HB4.out.b1
        go_wp2_with fail
        exact bodyPost_ret (v := .tuple #[.agg #[.int .i64 0, .int .i64 0], .int .i64 q.2]) (by simp [results, Try.results23, go_sem, c0, c1]) rfl ⟨ret_sp HV.out, below_set2 HB4.out.bel (by omega) _ _⟩
    · obtain rfl : j = m := by omega
      have hown := HI.out.own
      rw [← HI.out.len] at hown
      obtain ⟨ao', cap', hv, hS⟩ := SpSl.of_own hown (by rw [HI.out.len]; omega)
      rw [HI.out.len] at hv
      subst hv
      have HV : Hid (pSlope (c :: r) s = pEval acc s) := Lib.hid (by
        have e : pScA r 0 [] = (acc, 0) := by
          rw [HI.out.at_, ← HLEN.out, List.drop_length]
          rfl
        rw [HPO.out (by rw [e]), e, pEval_ok (pChk_ok (by rw [HI.out.len]; have := HM.out; omega) HI.out.oks HOK.out.2)])
      have HE := Lib.hid (fun W hs => ref8_Eval acc s ao' cap' W hs)
      rw [HI.out.len] at HE
      have HS := Lib.hid hS
      have hB := HI.out.bx
      clear hown hS
      have s0 := cell_two0 hB.b0
      have s1 := cell_two1 hB.b0
      go_wp2_with fail
      refine (HE.out _ HS.out).mono ?_; rintro e w4 ⟨rfl, hbel⟩
      have hB := hB.on hbel
      clear hbel s0 s1
      have c0 := cell_two0 hB.b1
      have c1 := cell_two1 hB.b1
      have f0 := free_two (i := 0) hB.b1
      have f1 := free_two (i := 1) hB.b1
      have l2 := lt_of_block hB.b1
      go_wp2_with fail
      exact bodyPost_ret (v := .tuple #[.agg #[.int .i64 (pEval acc s).1.1, .int .i64 (pEval acc s).1.2], .int .i64 (pEval acc s).2]) (by simp [results, Try.results23, go_sem, c0, c1]) rfl ⟨by rw [HV.out], below_set2 hB.bel (by omega) _ _⟩

theorem ref8_Slope (l : List (Int × Int)) (s : Int × Int) (ao : Option Addr) (cap : Nat) (w : World) (h : SpSl w ao cap l) :
    Calls Try.prog 23 #[.slice ao l.length cap, .agg #[.int .i64 s.1, .int .i64 s.2]] w fun e w' => e = .returned (.tuple #[.agg #[.int .i64 (pSlope l s).1.1, .int .i64 (pSlope l s).1.2], .int .i64 (pSlope l s).2]) ∧ Below w.heap.size w w' := by
  by_cases hz : pChk l s = 0
  · cases l with
    | nil => exact ref8_Slope_nil s ao cap w h hz
    | cons c r =>
      cases ao with
      | none => have := (h.isNil rfl).1; simp at this
      | some a =>
        have ha := h.isSome a rfl
        obtain ⟨b, off, ax⟩ := a
        cases ha
        exact ref8_Slope_some c r r.length rfl s b off cap w h hz
  · exact ref8_Slope_bad l s ao cap w h hz
end Go.Proofs.Ytgfofilkpaelnaa
