/- What a walk over calls of closures, slices and intervals knows of its own memory; contracts of law 08's helpers: whole, is, fails, list; Eval and Slope told in these words. -/
import Derived.Test.YtgpaillkekhmdaaPolyX
namespace Mnc
/-- An interval of one whole number. -/
def wh (n : Int) : Int × Int := (n * 4294967296, n * 4294967296)
end Mnc
namespace Go.Proofs.Ytgpaillkekhmdaa
open Go.RowKit Go.Shelf Mnc

theorem own_on {W W' : World} {base size n : Nat} {e : TypeId} {v : Value} {xs : List Value} (h : W.ownsRow base e size v n xs) (k : Below W.heap.size W W') : W'.ownsRow base e size v n xs := by
  refine ⟨h.1, ?_⟩
  rcases h.2 with h' | ⟨g', cap', cur, h', hb, hg, hr⟩
  · exact .inl h'
  · exact .inr ⟨g', cap', cur, h', hb, (k.block _ (lt_of_block hg)).trans hg, hr⟩
theorem own_ge {W : World} {base size n : Nat} {e : TypeId} {v : Value} {xs : List Value} (h : W.ownsRow base e size v n xs) : ∀ k, v.ownBlock = some k → base ≤ k := by
  intro k hk
  rcases h.2 with ⟨h', _⟩ | ⟨g', cap', cur, h', hb, _⟩
  · subst h'
    simp [Value.ownBlock] at hk
  · subst h'
    simp [Value.ownBlock] at hk
    omega
theorem SpSl.none_ (W : World) : SpSl W none 0 [] := ⟨Nat.le_refl _, by simp, by omega, fun _ => ⟨rfl, rfl⟩, fun a e => by (cases e), fun a e => by (cases e)⟩
theorem SpSl.of_own {W : World} {base : Nat} {v : Value} {l : List (Int × Int)} (h : W.ownsRow base 33 2 v l.length (flat l)) (hl : l.length ≤ 1000000) : ∃ ao cap, v = .slice ao l.length cap ∧ SpSl W ao cap l := by
  rcases h.2 with ⟨h', hx⟩ | ⟨g, cap, cur, h', hb, hg, hr, hm, _⟩
  · subst h'
    have : l = [] := by
      have := flat_len l
      rw [hx] at this
      exact List.eq_nil_of_length_eq_zero (by simp at this; omega)
    subst this
    exact ⟨none, 0, rfl, SpSl.none_ W⟩
  · subst h'
    refine ⟨_, cap, rfl, hr, by omega, by unfold maxLen at hm; omega, fun e => by (cases e), fun a e => by cases e; rfl, fun a e j u hu => by cases e; exact h.cells rfl j u hu⟩

/-- What is known of the memory that a walk made: all that lay there lies as it lay; some blocks; a slice of intervals. -/
structure St (w W : World) (bs : List (Nat × Obj)) (ao : Option Addr) (cap : Nat) (l : List (Int × Int)) : Prop where
  bel : Below w.heap.size w W
  blk : ∀ p ∈ bs, W.heap[p.1]? = some p.2
  slc : SpSl W ao cap l
theorem St.start (w : World) : St w w [] none 0 [] := ⟨Below.refl _ _, fun p hp => by simp at hp, SpSl.none_ w⟩
theorem St.on {w W W' : World} {bs : List (Nat × Obj)} {ao : Option Addr} {cap : Nat} {l : List (Int × Int)} (h : St w W bs ao cap l) (k : Below W.heap.size W W') : St w W' bs ao cap l :=
  ⟨below_step h.bel k, fun p hp => (k.block _ (lt_of_block (h.blk p hp))).trans (h.blk p hp), h.slc.on k⟩
theorem St.put {w W W' : World} {bs : List (Nat × Obj)} {ao : Option Addr} {cap : Nat} {l : List (Int × Int)} (h : St w W bs ao cap l) (k : Below W.heap.size W W') {o : Obj} (ho : W'.heap[W.heap.size]? = some o) : St w W' ((W.heap.size, o) :: bs) ao cap l :=
  ⟨below_step h.bel k, fun p hp => by
    rcases List.mem_cons.1 hp with rfl | hp
    · exact ho
    · exact (k.block _ (lt_of_block (h.blk p hp))).trans (h.blk p hp), h.slc.on k⟩
theorem St.al {w W : World} {bs : List (Nat × Obj)} {ao : Option Addr} {cap : Nat} {l : List (Int × Int)} (h : St w W bs ao cap l) (o : Obj) : St w (W.alloc o) ((W.heap.size, o) :: bs) ao cap l :=
  h.put (below_alloc (Below.refl _ _) _) (heap_at _ rfl)
theorem St.with_ {w W : World} {bs : List (Nat × Obj)} {ao ao' : Option Addr} {cap cap' : Nat} {l l' : List (Int × Int)} (h : St w W bs ao cap l) (k : SpSl W ao' cap' l') : St w W bs ao' cap' l' := ⟨h.bel, h.blk, k⟩
theorem St.drop {w W : World} {bs : List (Nat × Obj)} {ao : Option Addr} {cap : Nat} {l : List (Int × Int)} (h : St w W bs ao cap l) : St w W [] none 0 [] := ⟨h.bel, fun p hp => by simp at hp, SpSl.none_ W⟩
theorem St.drew {w W : World} {bs : List (Nat × Obj)} {ao : Option Addr} {cap : Nat} {l : List (Int × Int)} (h : St w W bs ao cap l) : St w W.drew bs ao cap l := h.on (Below.refl _ _).drew

section
variable {w W : World} {bs : List (Nat × Obj)} {ao : Option Addr} {cap : Nat} {l : List (Int × Int)}

theorem law8_whole (n m : Int) (h : St w W bs ao cap l) (hn : -1048576 ≤ n ∧ n ≤ 1048576) (hm : -1048576 ≤ m ∧ m ≤ 1048576) :
    Calls Try.prog 14 #[.int .i64 n, .int .i64 m] W fun e W' => e = .returned (.agg #[.int .i64 (n * 4294967296), .int .i64 (m * 4294967296)]) ∧ St w W' bs ao cap l ∧ Below W.heap.size W W' := by
  obtain ⟨h1, h2⟩ := hn
  obtain ⟨h3, h4⟩ := hm
  have H := Lib.hid h
  clear h
  go_enter Try.func14, Try.ntmps14
  go_wp2
  exact bodyPost_ret (v := .agg #[.int .i64 (n * 4294967296), .int .i64 (m * 4294967296)]) (by simp [results, Try.results14, go_sem]) rfl ⟨rfl, H.out.on (below_alloc (Below.refl _ _) _), below_alloc (Below.refl _ _) _⟩

theorem law8_is (x y : Int) (h : St w W bs ao cap l) :
    Calls Try.prog 16 #[.agg #[.int .i64 x, .int .i64 y]] W fun e W' => e = .returned (.func (.func 23) #[] #[.pointer (some ⟨W.heap.size, 0, none⟩)]) ∧ St w W' ((W.heap.size, .cells #[.int .i64 x, .int .i64 y] 33 (0, 0)) :: bs) ao cap l := by
  have H := Lib.hid h
  clear h
  go_enter Try.func16, Try.ntmps16
  go_wp2
  go_ret
  exact ⟨rfl, H.out.al _⟩
theorem law8_fails (n : Int) (h : St w W bs ao cap l) :
    Calls Try.prog 15 #[.int .i64 n] W fun e W' => e = .returned (.func (.func 22) #[] #[.pointer (some ⟨W.heap.size, 0, none⟩)]) ∧ St w W' ((W.heap.size, .cells #[.int .i64 n] 39 (0, 0)) :: bs) ao cap l := by
  have H := Lib.hid h
  clear h
  go_enter Try.func15, Try.ntmps15
  go_wp2
  go_ret
  exact ⟨rfl, H.out.al _⟩
theorem law8_is1 (x y : Int) (B : Nat) (h : St w W bs ao cap l) (hB : (B, Obj.cells #[.int .i64 x, .int .i64 y] 33 (0, 0)) ∈ bs) :
    Calls Try.prog 23 #[.agg #[.int .i64 x, .int .i64 y], .int .i64 0, .pointer (some ⟨B, 0, none⟩)] W fun e W' => e = .returned (.bool true) ∧ St w W' [] none 0 [] := by
  have hB := h.blk _ hB
  have c0 := cell_two0 hB
  have c1 := cell_two1 hB
  have l := lt_of_block hB
  have H := Lib.hid h
  clear hB h
  go_enter Try.func23, Try.ntmps23
  go_wp2
  go_ret
  exact ⟨rfl, (H.out.al _).drop⟩
theorem law8_fails1 (n : Int) (B : Nat) (h : St w W bs ao cap l) (hB : (B, Obj.cells #[.int .i64 n] 39 (0, 0)) ∈ bs) :
    Calls Try.prog 22 #[.agg #[.int .i64 0, .int .i64 0], .int .i64 n, .pointer (some ⟨B, 0, none⟩)] W fun e W' => e = .returned (.bool true) ∧ St w W' [] none 0 [] := by
  have hB := h.blk _ hB
  have c0 := cell_of_one hB
  have l := lt_of_block hB
  have H := Lib.hid h
  clear hB h
  go_enter Try.func22, Try.ntmps22
  go_wp2
  go_ret
  exact ⟨rfl, (H.out.al _).drop⟩
end

/-- Where the loop of list stands. -/
structure LsB (w W : World) (v : Value) (l : List Int) (k : Nat) : Prop where
  bel : Below w.heap.size w W
  own : W.ownsRow w.heap.size 33 2 v k (flat ((l.take k).map wh))

theorem news2' (w : World) (x y : Value) (t : TypeId) : ∀ (j : Nat) (u : Value), [x, y][j]? = some u → (w.alloc (.cells #[x, y] t)).cell? ((⟨w.heap.size, 0, none⟩ : Addr).add j) = some u := by
  intro j u h
  match j, h with
  | 0, h =>
    cases h
    simp [Addr.add]
  | 1, h =>
    cases h
    simp [Addr.add]
  | j + 2, h => simp at h

set_option maxRecDepth 100000 in
set_option maxHeartbeats 2000000 in
theorem law8_list0 (l : List Int) (hl : 0 < l.length ∧ l.length ≤ 8) (hb : ∀ n ∈ l, -1048576 ≤ n ∧ n ≤ 1048576) (g : Nat) (w : World) (hg : w.heap[g]? = some (.cells (l.map (Value.int .i64)).toArray 3 (0, 0))) :
    Calls Try.prog 17 #[.slice (some ⟨g, 0, none⟩) l.length l.length] w fun e w' => ∃ v, e = .returned v ∧ w'.ownsRow w.heap.size 33 2 v l.length (flat (l.map wh)) ∧ Below w.heap.size w w' := by
  obtain ⟨i0, hi, hz0, hz1, hz2⟩ := info_parts spanInfo
  have HG := Lib.hid hg
  have HBd := Lib.hid hb
  have HL0 := Lib.hid hl
  obtain ⟨n, hn⟩ : ∃ n, n = l.length := ⟨_, rfl⟩
  have HN := Lib.hid hn
  rw [← hn] at hl ⊢
  obtain ⟨hn0, hn8⟩ := hl
  clear hg hb hn
  go_enter Try.func17, Try.ntmps17
  go_wp2_with fail
  go_simp
  go_loopw [3, 8] (fun v i wr => ∃ k : Nat, k ≤ n ∧ i = .int .i64 k ∧ Hid (LsB w wr v l k)) (fun _ i _ => n - (intOf i).toNat)
  case atStart => exact ⟨0, by omega, rfl, Lib.hid ⟨Below.refl _ _, World.ownsRow_nil _ _ _ _⟩⟩
  case round =>
    obtain ⟨k, hk, rfl, HA⟩ := hrel
    rcases Nat.lt_or_ge k n with hk' | hk'
    · obtain ⟨x, hx⟩ : ∃ x, l[k]? = some x := ⟨_, List.getElem?_eq_getElem (by rw [← HN.out]; exact hk')⟩
      have HX : Hid ((l.take (k + 1)).map wh = (l.take k).map wh ++ [wh x]) := Lib.hid (by rw [List.take_add_one, hx]; simp)
      have HXb := Lib.hid (HBd.out x (List.mem_of_getElem? hx))
      have c0 : wr.cell? ⟨g, k, none⟩ = some (.int .i64 x) := by
        have h2 := (HA.out.bel.block _ (lt_of_block HG.out)).trans HG.out
        simp [World.cell?, h2, hx]
      clear hx
      go_wp2_with fail
      refine (law8_whole x x (St.start _) HXb.out HXb.out).mono ?_; rintro e w2 ⟨rfl, _, hbel⟩
      have HO : Hid (w2.ownsRow w.heap.size 33 2 _ k (flat ((l.take k).map wh))) := Lib.hid (own_on HA.out.own hbel)
      have HBel := Lib.hid (below_step HA.out.bel hbel)
      clear hbel c0
      go_wp2_with (at_builtin; refine wpList_append_own _ rfl _ _ 30 rfl w.heap.size 33 i0 (.agg #[.int .i64 0, .int .i64 0]) 2 16 Try.underlying30 hi hz0 hz1 hz2 rfl (by decide) _ _ _ rfl (HO.out.alloc _) ⟨w2.heap.size, 0, none⟩ 1 1 [.int .i64 (x * 4294967296), .int .i64 (x * 4294967296)] rfl ?qc1 ?qc2 ?qc3 ?qc4 ?qc5 ?qc6 ?_)
      case qc1 => rfl
      case qc2 => exact news2' _ _ _ _
      case qc3 => exact flat_one_cell [wh x]
      case qc4 => unfold maxLen; omega
      case qc5 => omega
      case qc6 => simp; have := HBel.out.size; omega
      intro v' w1 hown hgrow hnil
      have HL2 : Hid (LsB w w1 v' l (k + 1)) := Lib.hid ⟨(below_alloc HBel.out _).grown hgrow (by simp; have := HBel.out.size; omega) (fun j hj => own_ge HO.out j hj), by
        rw [HX.out, flat_append, List.map_take]; exact hown⟩
      clear hown hgrow hnil
      go_wp2
      go_roundw
      case rel => first | exact ⟨k + 1, by omega, by go_num, HL2⟩ | ((repeat apply Exists.intro); exact ⟨⟨k + 1, by omega, by go_num, HL2⟩, rfl⟩)
      case measure => simp [intOf]; omega
    · obtain rfl : k = n := by omega
      have HE : Hid (LsB w wr _ l l.length) := Lib.hid (by rw [← HN.out]; exact HA.out)
      go_wp2
      go_ret
      refine ⟨_, rfl, ?_, HE.out.bel⟩
      have := HE.out.own
      rw [List.take_length, ← HN.out] at this
      exact this

section
variable {w W : World} {bs : List (Nat × Obj)} {ao : Option Addr} {cap : Nat} {l : List (Int × Int)}
theorem law8_list (ns : List Int) (n : Nat) (g : Nat) (h : St w W bs ao cap l) (hn : ns.length = n) (hg : (g, Obj.cells (ns.map (Value.int .i64)).toArray 3 (0, 0)) ∈ bs) (hl : 0 < ns.length ∧ ns.length ≤ 8) (hb : ∀ n ∈ ns, -1048576 ≤ n ∧ n ≤ 1048576) :
    Calls Try.prog 17 #[.slice (some ⟨g, 0, none⟩) n n] W fun e W' => ∃ ao' cap', e = .returned (.slice ao' n cap') ∧ St w W' bs ao' cap' (ns.map wh) := by
  subst hn
  refine (law8_list0 ns hl hb g W (h.blk _ hg)).mono ?_
  rintro e W' ⟨v, rfl, hown, hbel⟩
  have hown' : W'.ownsRow W.heap.size 33 2 v (ns.map wh).length (flat (ns.map wh)) := by rw [List.length_map]; exact hown
  obtain ⟨ao', cap', rfl, hS⟩ := SpSl.of_own hown' (by rw [List.length_map]; omega)
  exact ⟨ao', cap', by rw [List.length_map], (h.on hbel).with_ hS⟩

theorem evalC (x y a b c : Int) (n : Nat) (h : St w W bs ao cap l) (hn : l.length = n) (hv : pEval l (x, y) = ((a, b), c)) :
    Calls Try.prog 11 #[.slice ao n cap, .agg #[.int .i64 x, .int .i64 y]] W fun e W' => e = .returned (.tuple #[.agg #[.int .i64 a, .int .i64 b], .int .i64 c]) ∧ St w W' bs ao cap l := by
  have := poly_Eval l (x, y) ao cap W h.slc
  rw [hv, hn] at this
  exact this.mono fun e W' ⟨h1, h2⟩ => ⟨h1, h.on h2⟩
theorem slopeC (x y a b c : Int) (n : Nat) (h : St w W bs ao cap l) (hn : l.length = n) (hv : pSlope l (x, y) = ((a, b), c)) :
    Calls Try.prog 12 #[.slice ao n cap, .agg #[.int .i64 x, .int .i64 y]] W fun e W' => e = .returned (.tuple #[.agg #[.int .i64 a, .int .i64 b], .int .i64 c]) ∧ St w W' bs ao cap l := by
  have := poly_Slope l (x, y) ao cap W h.slc
  rw [hv, hn] at this
  exact this.mono fun e W' ⟨h1, h2⟩ => ⟨h1, h.on h2⟩
/-- A slice that is longer than eight. -/
theorem evalLong (x y : Int) (n : Nat) (ao' : Option Addr) (cap' : Nat) (l' : List (Int × Int)) (h : St w W bs ao cap l) (hs : SpSl W ao' cap' l') (hn : l'.length = n) (h8 : 8 < l'.length) :
    Calls Try.prog 11 #[.slice ao' n cap', .agg #[.int .i64 x, .int .i64 y]] W fun e W' => e = .returned (.tuple #[.agg #[.int .i64 0, .int .i64 0], .int .i64 3]) ∧ St w W' bs ao cap l := by
  have := poly_Eval l' (x, y) ao' cap' W hs
  rw [pEval_bad (by rw [pChk_long h8]; decide), pChk_long h8, hn] at this
  exact this.mono fun e W' ⟨h1, h2⟩ => ⟨h1, h.on h2⟩
theorem slopeLong (x y : Int) (n : Nat) (ao' : Option Addr) (cap' : Nat) (l' : List (Int × Int)) (h : St w W bs ao cap l) (hs : SpSl W ao' cap' l') (hn : l'.length = n) (h8 : 8 < l'.length) :
    Calls Try.prog 12 #[.slice ao' n cap', .agg #[.int .i64 x, .int .i64 y]] W fun e W' => e = .returned (.tuple #[.agg #[.int .i64 0, .int .i64 0], .int .i64 3]) ∧ St w W' bs ao cap l := by
  have := poly_Slope l' (x, y) ao' cap' W hs
  rw [pSlope_bad (by rw [pChk_long h8]; decide), pChk_long h8, hn] at this
  exact this.mono fun e W' ⟨h1, h2⟩ => ⟨h1, h.on h2⟩
theorem SpSl.of_blk {W : World} {g : Nat} {l : List (Int × Int)} (h : W.heap[g]? = some (.cells (flat l).toArray 33 (0, 0))) (hl : l.length ≤ 1000000) : SpSl W (some ⟨g, 0, none⟩) l.length l :=
  ⟨Nat.le_refl _, by omega, by omega, fun e => by (cases e), fun a e => by cases e; rfl, fun a e j u hu => by
    cases e
    rw [add_plain, Nat.zero_add]
    simp [World.cell?, h, hu]⟩
theorem mk9 : ∀ W : World, (Instr.makeSlice 30 (.int .i64 9) (.int .i64 9)).run Try.prog W = .ok (.slice (some ⟨W.heap.size, 0, none⟩) 9 9) (W.alloc (.cells #[.int .i64 0, .int .i64 0, .int .i64 0, .int .i64 0, .int .i64 0, .int .i64 0, .int .i64 0, .int .i64 0, .int .i64 0, .int .i64 0, .int .i64 0, .int .i64 0, .int .i64 0, .int .i64 0, .int .i64 0, .int .i64 0, .int .i64 0, .int .i64 0] 33)) := fun _ => by kernel_rfl
theorem evalLong9 (x y : Int) (g : Nat) (h : St w W bs ao cap l) (hg : (g, Obj.cells #[.int .i64 0, .int .i64 0, .int .i64 0, .int .i64 0, .int .i64 0, .int .i64 0, .int .i64 0, .int .i64 0, .int .i64 0, .int .i64 0, .int .i64 0, .int .i64 0, .int .i64 0, .int .i64 0, .int .i64 0, .int .i64 0, .int .i64 0, .int .i64 0] 33 (0, 0)) ∈ bs) :
    Calls Try.prog 11 #[.slice (some ⟨g, 0, none⟩) 9 9, .agg #[.int .i64 x, .int .i64 y]] W fun e W' => e = .returned (.tuple #[.agg #[.int .i64 0, .int .i64 0], .int .i64 3]) ∧ St w W' bs ao cap l :=
  evalLong x y 9 (some ⟨g, 0, none⟩) 9 (List.replicate 9 (0, 0)) h (SpSl.of_blk (l := List.replicate 9 (0, 0)) (h.blk _ hg) (by decide)) rfl (by decide)
theorem slopeLong9 (x y : Int) (g : Nat) (h : St w W bs ao cap l) (hg : (g, Obj.cells #[.int .i64 0, .int .i64 0, .int .i64 0, .int .i64 0, .int .i64 0, .int .i64 0, .int .i64 0, .int .i64 0, .int .i64 0, .int .i64 0, .int .i64 0, .int .i64 0, .int .i64 0, .int .i64 0, .int .i64 0, .int .i64 0, .int .i64 0, .int .i64 0] 33 (0, 0)) ∈ bs) :
    Calls Try.prog 12 #[.slice (some ⟨g, 0, none⟩) 9 9, .agg #[.int .i64 x, .int .i64 y]] W fun e W' => e = .returned (.tuple #[.agg #[.int .i64 0, .int .i64 0], .int .i64 3]) ∧ St w W' bs ao cap l :=
  slopeLong x y 9 (some ⟨g, 0, none⟩) 9 (List.replicate 9 (0, 0)) h (SpSl.of_blk (l := List.replicate 9 (0, 0)) (h.blk _ hg) (by decide)) rfl (by decide)
end
end Go.Proofs.Ytgpaillkekhmdaa
