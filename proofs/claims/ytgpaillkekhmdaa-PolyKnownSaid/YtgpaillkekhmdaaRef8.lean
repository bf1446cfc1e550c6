/- Contracts of the reference of layer 8: check, Eval. -/
import Derived.Deep.RegionHeld3
import Derived.Test.YtgpaillkekhmdaaRefSD
import Derived.Test.YtgpaillkekhmdaaPolyX
import Derived.Test.YtgpaillkekhmdaaPl
import Derived.Test.YtgpaillkekhmdaaLawP
import Derived.Test.YtgpaillkekhmdaaRefY
namespace Go.Proofs.Ytgpaillkekhmdaa
open Go.RowKit Go.Shelf Mnc

/-- The boxes of the reference's Eval. -/
structure EvB (w W : World) (s v : Int × Int) (B : Nat) : Prop where
  bx : Bx2 w W s (0, 0)
  lv : w.heap.size + 1 < B
  bv : W.heap[B]? = some (.cells #[.int .i64 v.1, .int .i64 v.2] 33 (0, 0))
theorem EvB.on {w W W' : World} {s v : Int × Int} {B : Nat} (h : EvB w W s v B) (k : Below W.heap.size W W') : EvB w W' s v B :=
  ⟨h.bx.on k, h.lv, (k.block _ (lt_of_block h.bv)).trans h.bv⟩
theorem EvB.set {w W : World} {s v : Int × Int} {B : Nat} (h : EvB w W s v B) (u : Int × Int) : EvB w ((W.setCell ⟨B, 0, none⟩ (.int .i64 u.1)).setCell ⟨B, 1, none⟩ (.int .i64 u.2)) s u B := by
  have := h.lv
  exact ⟨⟨below_set2 h.bx.bel (by omega) _ _, by rw [oth_set (by omega), oth_set (by omega)]; exact h.bx.b0, by rw [oth_set (by omega), oth_set (by omega)]; exact h.bx.b1⟩, h.lv, set2_at h.bv⟩
theorem keepSet {w W : World} {B0 B1 B i j : Nat} {x y u v z z' : Value} (h : W.cell? ⟨B0, 0, none⟩ = some x ∧ W.cell? ⟨B0, 1, none⟩ = some y ∧ W.cell? ⟨B1, i, none⟩ = some u ∧ W.cell? ⟨B1, j, none⟩ = some v) (n0 : ¬ B0 = B) (n1 : ¬ B1 = B) (hw : w = (W.setCell ⟨B, 0, none⟩ z).setCell ⟨B, 1, none⟩ z') :
    w.cell? ⟨B0, 0, none⟩ = some x ∧ w.cell? ⟨B0, 1, none⟩ = some y ∧ w.cell? ⟨B1, i, none⟩ = some u ∧ w.cell? ⟨B1, j, none⟩ = some v := by
  subst hw
  have e : ∀ (b k : Nat), ¬ b = B → ((W.setCell ⟨B, 0, none⟩ z).setCell ⟨B, 1, none⟩ z').cell? ⟨b, k, none⟩ = W.cell? ⟨b, k, none⟩ := fun b k hb => by
    rw [World.cell?_setCell_other _ _ _ _ (by intro g; cases g; exact hb rfl), World.cell?_setCell_other _ _ _ _ (by intro g; cases g; exact hb rfl)]
  exact ⟨(e _ _ n0).trans h.1, (e _ _ n0).trans h.2.1, (e _ _ n1).trans h.2.2.1, (e _ _ n1).trans h.2.2.2⟩
theorem keep4' {w3 W : World} {B0 B1 i j : Nat} {x y z u : Value} (l0 : B0 < w3.heap.size) (l1 : B1 < w3.heap.size) (a0 : w3.cell? ⟨B0, 0, none⟩ = some x) (a1 : w3.cell? ⟨B0, 1, none⟩ = some y) (b0 : w3.cell? ⟨B1, i, none⟩ = some z) (b1 : w3.cell? ⟨B1, j, none⟩ = some u) (k : Below w3.heap.size w3 W) :
    W.cell? ⟨B0, 0, none⟩ = some x ∧ W.cell? ⟨B0, 1, none⟩ = some y ∧ W.cell? ⟨B1, i, none⟩ = some z ∧ W.cell? ⟨B1, j, none⟩ = some u :=
  ⟨(k.cell (p := ⟨B0, 0, none⟩) l0).trans a0, (k.cell (p := ⟨B0, 1, none⟩) l0).trans a1, (k.cell (p := ⟨B1, i, none⟩) l1).trans b0, (k.cell (p := ⟨B1, j, none⟩) l1).trans b1⟩

theorem pAcc_drop {s c : Int × Int} {l : List (Int × Int)} {k : Nat} (h : l[k]? = some c) : pAcc s (l.drop k) = if (pAcc s (l.drop (k + 1))).2 = 0 then pStep s (pAcc s (l.drop (k + 1))).1 c else pAcc s (l.drop (k + 1)) := by
  obtain ⟨hk, rfl⟩ := List.getElem?_eq_some_iff.1 h
  rw [List.drop_eq_getElem_cons hk]
  rfl
theorem pVal_err {s : Int × Int} {l : List (Int × Int)} {k : Nat} (h : ¬ (pAcc s (l.drop k)).2 = 0) : pVal l s = pAcc s (l.drop k) := by
  unfold pVal
  conv => lhs; rw [← List.take_append_drop k l]
  exact pAcc_err h _
theorem sMul_err {v s : Int × Int} (h : ¬ (sMul v s).2 = 0) : (sMul v s).1 = (0, 0) := by
  by_cases k : okS v ∧ okS s
  · rw [sMul, on2_ok k.1 k.2] at h ⊢
    by_cases q : -4503599627370496 ≤ min4 (fl (v.1 * s.1)) (fl (v.1 * s.2)) (fl (v.2 * s.1)) (fl (v.2 * s.2)) ∧ max4 (cl (v.1 * s.1)) (cl (v.1 * s.2)) (cl (v.2 * s.1)) (cl (v.2 * s.2)) ≤ 4503599627370496
    · rw [sT_ok q.1 q.2] at h
      exact absurd rfl h
    · rw [sT_bad q]
  · rw [sMul, on2_bad k]
theorem sAdd_err {v s : Int × Int} (h : ¬ (sAdd v s).2 = 0) : (sAdd v s).1 = (0, 0) := by
  by_cases k : okS v ∧ okS s
  · rw [sAdd, on2_ok k.1 k.2] at h ⊢
    by_cases q : -4503599627370496 ≤ v.1 + s.1 ∧ v.2 + s.2 ≤ 4503599627370496
    · rw [sT_ok q.1 q.2] at h
      exact absurd rfl h
    · rw [sT_bad q]
  · rw [sAdd, on2_bad k]

theorem pEval_nil {s : Int × Int} (h : pChk [] s = 0) : pEval [] s = ((0, 0), 0) := by rw [pEval_ok h]; rfl

end Go.Proofs.Ytgpaillkekhmdaa

/- Contracts of the reference of layer 8: Eval for any list, Slope. -/
namespace Go.Proofs.Ytgpaillkekhmdaa
open Go.RowKit Go.Shelf Mnc

/-- Where the loop of the reference's Slope stands. -/
structure RsB (w W : World) (s : Int × Int) (v : Value) (j : Nat) (r acc : List (Int × Int)) : Prop where
  bx : Bx2 w W s (0, 0)
  len : acc.length = j
  own : W.ownsRow (w.heap.size + 2) 33 2 v j (flat acc)
  oks : ∀ c ∈ acc, okS c
  at_ : pScA r 0 [] = pScA (r.drop j) j acc

end Go.Proofs.Ytgpaillkekhmdaa

/- Contracts of the reference of layer 8: Coefs. -/
namespace Mnc
open Go
/-- A draft: its place, its bits, its width. -/
abbrev Dr := Int × Int × Int
def Dr.wf (d : Dr) : Prop := (0 ≤ d.2.1 ∧ d.2.1 < 256) ∧ (0 ≤ d.2.2 ∧ d.2.2 < 4294967296)
def drS (small : Bool) (d : Dr) : Int × Int := if small then dSmall d.1 d.2.1 d.2.2 else dSpan d.1 d.2.1 d.2.2
def coefs (small : Bool) (l : List Dr) : List (Int × Int) := (l.take 8).map (drS small)
theorem coefs_len (small : Bool) (l : List Dr) : (coefs small l).length ≤ 8 := by
  simp [coefs]
  omega
theorem coefs_sml {l : List Dr} (h : ∀ d ∈ l, d.wf) : ∀ c ∈ coefs true l, okS c ∧ -68719476736 ≤ c.1 ∧ c.1 ≤ 68719476736 ∧ c.2 ≤ 73014444031 := by
  intro c hc
  obtain ⟨d, hd, rfl⟩ := List.mem_map.1 hc
  exact dSmall_sml _ _ _ (h d (List.mem_of_mem_take hd)).2
theorem coefs_okS {small : Bool} {l : List Dr} (h : ∀ d ∈ l, d.wf) : ∀ c ∈ coefs small l, okS c := by
  intro c hc
  obtain ⟨d, hd, rfl⟩ := List.mem_map.1 hc
  have hw := h d (List.mem_of_mem_take hd)
  cases small
  · exact dSpan_okS _ _ _ hw.2
  · exact (dSmall_sml _ _ _ hw.2).1
/-- The cells of a list of drafts. -/
def flatD (l : List Dr) : List Value := l.flatMap fun d => [.int .i64 d.1, .int .u8 d.2.1, .int .u32 d.2.2]
theorem flatD_cons (d : Dr) (r : List Dr) : flatD (d :: r) = .int .i64 d.1 :: .int .u8 d.2.1 :: .int .u32 d.2.2 :: flatD r := rfl
theorem flatD_at (l : List Dr) (i : Nat) (d : Dr) (h : l[i]? = some d) : (flatD l)[i * 3]? = some (.int .i64 d.1) ∧ (flatD l)[i * 3 + 1]? = some (.int .u8 d.2.1) ∧ (flatD l)[i * 3 + 2]? = some (.int .u32 d.2.2) := by
  induction l generalizing i with
  | nil => simp at h
  | cons a r ih =>
    cases i with
    | zero =>
      simp at h
      subst h
      exact ⟨rfl, rfl, rfl⟩
    | succ i =>
      simp at h
      have := ih i h
      rw [flatD_cons, show (i + 1) * 3 = i * 3 + 1 + 1 + 1 by omega]
      exact this
end Mnc
namespace Go.Proofs.Ytgpaillkekhmdaa
open Go.RowKit Go.Shelf Mnc

/-- A slice of drafts that reads as a list. -/
structure DrSl (W : World) (ao : Option Addr) (cap : Nat) (l : List Dr) : Prop where
  le : l.length ≤ cap
  cmax : cap ≤ 9223372036854775807
  isNil : ao = none → l.length = 0 ∧ cap = 0
  isSome : ∀ a, ao = some a → a = ⟨a.block, a.off, none⟩
  wf : ∀ d ∈ l, d.wf
  cells : ∀ a, ao = some a → ∀ j u, (flatD l)[j]? = some u → W.cell? (a.add j) = some u
theorem DrSl.on {W W' : World} {ao : Option Addr} {cap : Nat} {l : List Dr} (h : DrSl W ao cap l) (k : Below W.heap.size W W') : DrSl W' ao cap l :=
  ⟨h.le, h.cmax, h.isNil, h.isSome, h.wf, fun a ha j u hu => by
    have := h.cells a ha j u hu
    have hl : (a.add j).block < W.heap.size := by
      apply Nat.lt_of_not_le
      intro hn
      rw [World.cell?, Array.getElem?_eq_none hn] at this
      cases this
    rw [k.cell hl]
    exact this⟩
theorem DrSl.at {W : World} {b off cap i : Nat} {l : List Dr} {d : Dr} (h : DrSl W (some ⟨b, off, none⟩) cap l) (hc : l[i]? = some d) : W.cell? ⟨b, off + i * 3, none⟩ = some (.int .i64 d.1) ∧ W.cell? ⟨b, off + i * 3 + 1, none⟩ = some (.int .u8 d.2.1) ∧ W.cell? ⟨b, off + i * 3 + 2, none⟩ = some (.int .u32 d.2.2) := by
  obtain ⟨h1, h2, h3⟩ := flatD_at l i d hc
  have a := h.cells _ rfl _ _ h1
  have b := h.cells _ rfl _ _ h2
  have c := h.cells _ rfl _ _ h3
  rw [add_plain] at a b c
  exact ⟨a, b, c⟩

/-- Where the loop of Coefs stands. -/
structure CfB (w W : World) (v : Value) (small : Bool) (l : List Dr) (k : Nat) : Prop where
  bel : Below w.heap.size w W
  own : W.ownsRow w.heap.size 33 2 v k (flat ((l.take k).map (drS small)))

theorem CfB.end_ {w W : World} {v : Value} {small : Bool} {l : List Dr} {k : Nat} (h : CfB w W v small l k) (hk : k = min l.length 8) : W.ownsRow w.heap.size 33 2 v (coefs small l).length (flat (coefs small l)) ∧ Below w.heap.size w W := by
  have e : (l.take k).map (drS small) = coefs small l := by
    unfold coefs
    congr 1
    subst hk
    rcases Nat.le_total l.length 8 with h8 | h8
    · rw [Nat.min_eq_left h8, List.take_length, List.take_of_length_le h8]
    · rw [Nat.min_eq_right h8]
  have hown := h.own
  rw [e] at hown
  have hl : (coefs small l).length = k := by simp [coefs]; omega
  rw [← hl] at hown
  exact ⟨hown, h.bel⟩

set_option maxRecDepth 100000 in
set_option maxHeartbeats 2000000 in
theorem ref8_Coefs_own (l : List Dr) (small : Bool) (ao : Option Addr) (cap : Nat) (w : World) (h : DrSl w ao cap l) :
    Calls Try.prog 7 #[.slice ao l.length cap, .bool small] w fun e w' => ∃ v, e = .returned v ∧ w'.ownsRow w.heap.size 33 2 v (coefs small l).length (flat (coefs small l)) ∧ Below w.heap.size w w' := by
  obtain ⟨i0, hi, hz0, hz1, hz2⟩ := info_parts spanInfo
  have HL := Lib.hid (fun W k => h.on (W' := W) k)
  have hle := h.le
  have hcm := h.cmax
  have HW := Lib.hid h.wf
  have HNil := Lib.hid h.isNil
  have HSome := Lib.hid h.isSome
  obtain ⟨n, hn⟩ : ∃ n, n = l.length := ⟨_, rfl⟩
  have HN := Lib.hid hn
  rw [← hn] at hle ⊢
  clear hn h
  go_enter Try.func7, Try.ntmps7
  go_wp2_with fail
  go_simp
  go_loopw [5, 6] (fun v i wr => ∃ k : Nat, k ≤ n ∧ k ≤ 8 ∧ i = .int .i64 k ∧ Hid (CfB w wr v small l k)) (fun _ i _ => 8 - (intOf i).toNat)
  case atStart => exact ⟨0, by omega, by omega, rfl, Lib.hid ⟨Below.refl _ _, World.ownsRow_nil _ _ _ _⟩⟩
  case round =>
    obtain ⟨k, hk, hk8, rfl, HA⟩ := hrel
    rcases Nat.lt_or_ge k n with hk' | hk'
    · rcases Nat.lt_or_ge k 8 with h8 | h8
      · obtain ⟨d, hd⟩ : ∃ d, l[k]? = some d := ⟨_, List.getElem?_eq_getElem (by rw [← HN.out]; exact hk')⟩
        have HX : Hid ((l.take (k + 1)).map (drS small) = (l.take k).map (drS small) ++ [drS small d]) := Lib.hid (by rw [List.take_add_one, hd]; simp)
        have HD := Lib.hid (HW.out d (List.mem_of_getElem? hd))
        obtain ⟨a, ha⟩ : ∃ a, ao = some a := by
          cases hao : ao with
          | none => have := (HNil.out hao).1; rw [HN.out] at hk'; omega
          | some a => exact ⟨a, rfl⟩
        have ha2 := HSome.out a ha
        subst ha
        obtain ⟨b, off, ax⟩ := a
        cases ha2
        obtain ⟨c0, c1, c2⟩ := (HL.out _ HA.out.bel).at hd
        have t8 : decide ((k : Int) < 8) = true := by simp; omega
        clear hd HNil HSome
        cases small
        · go_wp2_with fail
          refine (draft_Span d.1 d.2.1 d.2.2 HD.out.1 HD.out.2 _).mono ?_
          rintro e w2 ⟨rfl, hbel⟩
          have HO := Lib.hid (own_on HA.out.own hbel)
          have HBel := Lib.hid (below_step HA.out.bel hbel)
          clear hbel c0 c1 c2
          go_wp2_with (at_builtin; refine wpList_append_own _ rfl _ _ 30 rfl w.heap.size 33 i0 (.agg #[.int .i64 0, .int .i64 0]) 2 16 Try.underlying30 hi hz0 hz1 hz2 rfl (by decide) _ _ _ rfl (HO.out.alloc _) ⟨w2.heap.size, 0, none⟩ 1 1 [.int .i64 (dSpan d.1 d.2.1 d.2.2).1, .int .i64 (dSpan d.1 d.2.1 d.2.2).2] rfl ?qc1 ?qc2 ?qc3 ?qc4 ?qc5 ?qc6 ?_)
          case qc1 => rfl
          case qc2 => exact news2' _ _ _ _
          case qc3 => exact flat_one_cell [dSpan d.1 d.2.1 d.2.2]
          case qc4 => unfold maxLen; omega
          case qc5 => omega
          case qc6 => simp; have := HBel.out.size; omega
          intro v' w1 hown hgrow hnil
          have HL2 : Hid (CfB w w1 v' false l (k + 1)) := Lib.hid ⟨(below_alloc HBel.out _).grown hgrow (by simp; have := HBel.out.size; omega) (fun j hj => own_ge HO.out j hj), by
            rw [HX.out, flat_append]; first | exact hown | (rw [List.map_take]; exact hown)⟩
          clear hown hgrow hnil
          go_wp2
          go_roundw
          case rel => first | exact ⟨k + 1, by omega, by omega, by go_num, HL2⟩ | ((repeat apply Exists.intro); exact ⟨⟨k + 1, by omega, by omega, by go_num, HL2⟩, rfl⟩)
          case measure => simp [intOf]; omega
        · go_wp2_with fail
          refine (draft_Small d.1 d.2.1 d.2.2 HD.out.1 HD.out.2 _).mono ?_
          rintro e w2 ⟨rfl, hbel⟩
          have HO := Lib.hid (own_on HA.out.own hbel)
          have HBel := Lib.hid (below_step HA.out.bel hbel)
          clear hbel c0 c1 c2
          go_wp2_with (at_builtin; refine wpList_append_own _ rfl _ _ 30 rfl w.heap.size 33 i0 (.agg #[.int .i64 0, .int .i64 0]) 2 16 Try.underlying30 hi hz0 hz1 hz2 rfl (by decide) _ _ _ rfl (HO.out.alloc _) ⟨w2.heap.size, 0, none⟩ 1 1 [.int .i64 (dSmall d.1 d.2.1 d.2.2).1, .int .i64 (dSmall d.1 d.2.1 d.2.2).2] rfl ?qc1 ?qc2 ?qc3 ?qc4 ?qc5 ?qc6 ?_)
          case qc1 => rfl
          case qc2 => exact news2' _ _ _ _
          case qc3 => exact flat_one_cell [dSmall d.1 d.2.1 d.2.2]
          case qc4 => unfold maxLen; omega
          case qc5 => omega
          case qc6 => simp; have := HBel.out.size; omega
          intro v' w1 hown hgrow hnil
          have HL2 : Hid (CfB w w1 v' true l (k + 1)) := Lib.hid ⟨(below_alloc HBel.out _).grown hgrow (by simp; have := HBel.out.size; omega) (fun j hj => own_ge HO.out j hj), by
            rw [HX.out, flat_append]; first | exact hown | (rw [List.map_take]; exact hown)⟩
          clear hown hgrow hnil
          go_wp2
          go_roundw
          case rel => first | exact ⟨k + 1, by omega, by omega, by go_num, HL2⟩ | ((repeat apply Exists.intro); exact ⟨⟨k + 1, by omega, by omega, by go_num, HL2⟩, rfl⟩)
          case measure => simp [intOf]; omega
      · obtain rfl : k = 8 := by omega
        have HS := Lib.hid (HA.out.end_ (by rw [← HN.out]; omega))
        have t1 : decide ((8 : Int) < (n : Int)) = true := by simp; omega
        go_wp2
        go_ret
        exact ⟨_, rfl, HS.out.1, HS.out.2⟩
    · obtain rfl : k = n := by omega
      have HS := Lib.hid (HA.out.end_ (by rw [← HN.out]; omega))
      go_wp2
      go_ret
      exact ⟨_, rfl, HS.out.1, HS.out.2⟩

theorem ref8_Coefs (l : List Dr) (small : Bool) (ao : Option Addr) (cap : Nat) (w : World) (h : DrSl w ao cap l) :
    Calls Try.prog 7 #[.slice ao l.length cap, .bool small] w fun e w' => ∃ ao' cap', e = .returned (.slice ao' (coefs small l).length cap') ∧ SpSl w' ao' cap' (coefs small l) ∧ Below w.heap.size w w' := by
  refine (ref8_Coefs_own l small ao cap w h).mono ?_
  rintro e w' ⟨v, rfl, hown, hbel⟩
  obtain ⟨ao', cap', rfl, hS⟩ := SpSl.of_own hown (by have := coefs_len small l; omega)
  exact ⟨ao', cap', rfl, hS, hbel⟩
end Go.Proofs.Ytgpaillkekhmdaa
