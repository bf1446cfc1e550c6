/- The walk of monoclelaw08.PolyNarrows. -/
import Derived.Deep.DeepCutAuto
import Derived.Deep.CutBlock
import Derived.Test.YtgpaillkekhmdaaLawPW
import Derived.Test.YtgpaillkekhmdaaLawPL0
import Derived.Test.YtgpaillkekhmdaaRef8
import Derived.Test.YtgpaillkekhmdaaLawC
import Derived.Test.YtgpaillkekhmdaaLawQ
import Derived.Test.YtgpaillkekhmdaaLawR
namespace Go.Proofs.Ytgpaillkekhmdaa.polyNarrows
open Go.RowKit Go.Shelf Mnc
attribute [local go_sem] RunS_value RunS_skip RunS_enter evS_tmp evS_const evS_global evS_func

/-- What the loop over the coefficients knows of its memory. -/
structure Nr (w W : World) (B K5 K8 : Nat) (ps : List Int) (S : Int × Int) (ao : Option Addr) (cap : Nat) (M0 : List (Int × Int)) (ao2 : Option Addr) (cap2 n : Nat) (M : List (Int × Int)) : Prop where
  st : St w W [(K8, .cells #[.int .i64 S.1, .int .i64 S.2] 33 (0, 0)), (K5, .cells (ps.map (Value.int .u64)).toArray 28 (0, 0))] ao cap M0
  own : W.ownsRow B 33 2 (.slice ao2 n cap2) n (flat M)
  lb : w.heap.size ≤ B
  k8 : K8 < B
  k5 : K5 < B
  ba : ∀ a, ao = some a → a.block < B
theorem Nr.on {w W W' : World} {B K5 K8 : Nat} {ps : List Int} {S : Int × Int} {ao : Option Addr} {cap : Nat} {M0 : List (Int × Int)} {ao2 : Option Addr} {cap2 n : Nat} {M : List (Int × Int)} (h : Nr w W B K5 K8 ps S ao cap M0 ao2 cap2 n M) (k : Below W.heap.size W W') : Nr w W' B K5 K8 ps S ao cap M0 ao2 cap2 n M :=
  ⟨h.st.on k, own_on h.own k, h.lb, h.k8, h.k5, h.ba⟩
section
variable {w W : World} {B K5 K8 g k : Nat} {ps : List Int} {S c : Int × Int} {ao : Option Addr} {cap : Nat} {M0 : List (Int × Int)} {cap2 n : Nat} {M : List (Int × Int)}
theorem Nr.at_ (h : Nr w W B K5 K8 ps S ao cap M0 (some ⟨g, 0, none⟩) cap2 n M) (hc : M[k]? = some c) : W.cell? ⟨g, k * 2, none⟩ = some (.int .i64 c.1) ∧ W.cell? ⟨g, k * 2 + 1, none⟩ = some (.int .i64 c.2) := by
  obtain ⟨f1, f2⟩ := flat_at M k c hc
  have hl := flat_len M
  have hk := (List.getElem?_eq_some_iff.1 hc).1
  rw [Nat.mul_comm 2 k] at f1 f2
  have hx := h.own.1
  exact ⟨(h.own.cellAt (k * 2) (by omega)).trans f1, (h.own.cellAt (k * 2 + 1) (by omega)).trans f2⟩
theorem flat_set2 (L : List (Int × Int)) (k : Nat) (x y : Int × Int) (h : L[k]? = some x) : ((flat L).set (k * 2) (.int .i64 y.1)).set (k * 2 + 1) (.int .i64 y.2) = flat (L.set k y) := by
  induction L generalizing k with
  | nil => simp at h
  | cons a r ih =>
    cases k with
    | zero => rfl
    | succ k =>
      have e1 : (k + 1) * 2 + 1 = k * 2 + 1 + 1 + 1 := by omega
      have e2 : (k + 1) * 2 = k * 2 + 1 + 1 := by omega
      rw [flat_cons, e1, e2, List.set_cons_succ, List.set_cons_succ, List.set_cons_succ, List.set_cons_succ, ih k (by simpa using h), List.set_cons_succ, flat_cons]
theorem Nr.set {y : Int × Int} (h : Nr w W B K5 K8 ps S ao cap M0 (some ⟨g, 0, none⟩) cap2 n M) (hc : M[k]? = some c) : Nr w ((W.setCell ⟨g, k * 2, none⟩ (.int .i64 y.1)).setCell ⟨g, k * 2 + 1, none⟩ (.int .i64 y.2)) B K5 K8 ps S ao cap M0 (some ⟨g, 0, none⟩) cap2 n (M.set k y) := by
  have hg := (h.own.lt g rfl).1
  have h8 := h.k8
  have h5 := h.k5
  have hlb := h.lb
  have hs := ((h.own.stored (k * 2) (.int .i64 y.1)).1.stored (k * 2 + 1) (.int .i64 y.2)).1
  rw [flat_set2 M k c y hc] at hs
  have hbs : ∀ p ∈ [(K8, Obj.cells #[.int .i64 S.1, .int .i64 S.2] 33 (0, 0)), (K5, Obj.cells (ps.map (Value.int .u64)).toArray 28 (0, 0))], p.1 ≠ g := by
    intro p hp
    simp at hp
    rcases hp with rfl | rfl
    · simp only; omega
    · simp only; omega
  have hao : ∀ a, ao = some a → a.block ≠ g := fun a ha => by have := h.ba a ha; omega
  exact ⟨St.setc (St.setc h.st (by omega) hbs hao _ _) (by omega) hbs hao _ _, hs, h.lb, h.k8, h.k5, h.ba⟩
theorem Nr.form {ao2 : Option Addr} (h : Nr w W B K5 K8 ps S ao cap M0 ao2 cap2 n M) (hn : 0 < n) : ∃ g, ao2 = some ⟨g, 0, none⟩ := by
  rcases h.own.2 with ⟨h', hx⟩ | ⟨g, cap', cur, h', hb, hg, _⟩
  · have := h.own.1
    rw [hx] at this
    simp at this
    omega
  · simp only [Value.slice.injEq] at h'
    obtain ⟨rfl, _, _⟩ := h'
    exact ⟨g, rfl⟩
theorem ps_cell {j : Nat} {v : Int} (h : W.heap[K5]? = some (.cells (ps.map (Value.int .u64)).toArray 28 (0, 0))) (hv : ps[j]? = some v) : W.cell? ⟨K5, j, none⟩ = some (.int .u64 v) := by
  rw [cell_of_row W K5 j _ _ _ h]
  simp [hv]
end
/-- So far the first k are narrowed. -/
structure Nar (L M : List (Int × Int)) (n k : Nat) : Prop where
  len : M.length = n
  low : ∀ (j : Nat) (a b : Int × Int), M[j]? = some a → L[j]? = some b → okS a ∧ sIn a b
  same : ∀ j, k ≤ j → M[j]? = L[j]?
theorem Nar.start {L : List (Int × Int)} (h : ∀ c ∈ L, okS c) : Nar L L L.length 0 :=
  ⟨rfl, fun j a b h1 h2 => by
    rw [h1] at h2
    obtain rfl := Option.some.inj h2
    exact ⟨h a (List.mem_of_getElem? h1), Int.le_refl _, Int.le_refl _⟩, fun _ _ => rfl⟩
theorem Nar.next {L M : List (Int × Int)} {n k : Nat} {c y : Int × Int} (h : Nar L M n k) (hc : M[k]? = some c) (hy : okS y ∧ c.1 ≤ y.1 ∧ y.2 ≤ c.2) : Nar L (M.set k y) n (k + 1) := by
  refine ⟨by rw [List.length_set]; exact h.len, fun j a b h1 h2 => ?_, fun j hj => by rw [List.getElem?_set_ne (by omega)]; exact h.same j (by omega)⟩
  by_cases e : k = j
  · subst e
    have hk := (List.getElem?_eq_some_iff.1 hc).1
    rw [List.getElem?_set_self hk] at h1
    obtain rfl := Option.some.inj h1
    rw [← h.same k (Nat.le_refl _), hc] at h2
    obtain rfl := Option.some.inj h2
    exact ⟨hy.1, hy.2.1, hy.2.2⟩
  · rw [List.getElem?_set_ne e] at h1
    exact h.low j a b h1 h2
theorem allIn_of : ∀ {L M : List (Int × Int)}, M.length = L.length → (∀ c ∈ L, okS c) → (∀ (j : Nat) (a b : Int × Int), M[j]? = some a → L[j]? = some b → okS a ∧ sIn a b) → AllIn M L
  | [], [], _, _, _ => .nil
  | [], _ :: _, h, _, _ => by simp at h
  | _ :: _, [], h, _, _ => by simp at h
  | b :: L, a :: M, h, ho, hp => .cons (hp 0 a b rfl rfl).1 (ho b (by simp)) (hp 0 a b rfl rfl).2 (allIn_of (by simpa using h) (fun c hc => ho c (by simp [hc])) fun j a b h1 h2 => hp (j + 1) a b h1 h2)
structure Nb (W0 W : World) (B K5 K8 g cap2 : Nat) (ps : List Int) (S : Int × Int) (ao : Option Addr) (cap n k : Nat) (M0 M : List (Int × Int)) (c : Int × Int) (v u : Int) (L : Nat → Bool) (s : Nat → Value) (w : World) : Prop where
  st : L 16 = false → Nr W0 w B K5 K8 ps S ao cap M0 (some ⟨g, 0, none⟩) cap2 n M
  st2 : L 16 = true → Nr W0 w B K5 K8 ps S ao cap M0 (some ⟨g, 0, none⟩) cap2 n (M.set k (partOf c v u))
  dn : L 16 = true → L 14 = true
  e0 : L 0 = true → s 31 = .slice (some ⟨g, 0, none⟩) n cap2
  e1 : L 1 = true → s 32 = .int .i64 (k : Int)
  e2 : L 2 = true → s 33 = .slice (some ⟨g, 0, none⟩) n cap2
  e3 : L 3 = true → s 34 = .int .i64 (k : Int)
  b5 : L 16 = true → L 5 = true
  b9 : L 16 = true → L 9 = true
  b13 : L 16 = true → L 13 = true
  b14 : L 16 = true → L 14 = true
  e4 : L 4 = true → s 35 = .pointer (some ⟨g, k * 2, none⟩)
  e5 : L 5 = true → s 36 = .agg #[.int .i64 c.1, .int .i64 c.2]
  e6 : L 6 = true → s 37 = .int .i64 (k : Int)
  e7 : L 7 = true → s 38 = .pointer (some ⟨K5, k * 2, none⟩)
  e8 : L 8 = true → s 39 = .pointer (some ⟨K5, k * 2, none⟩)
  e9 : L 9 = true → s 40 = .int .u64 v
  e10 : L 10 = true → s 41 = .int .i64 (k : Int)
  e11 : L 11 = true → s 42 = .pointer (some ⟨K5, k * 2, none⟩)
  e12 : L 12 = true → s 43 = .pointer (some ⟨K5, k * 2 + 1, none⟩)
  e13 : L 13 = true → s 44 = .int .u64 u
  e14 : L 14 = true → s 45 = .agg #[.int .i64 (partOf c v u).1, .int .i64 (partOf c v u).2]
  e15 : L 15 = true → s 46 = .pointer (some ⟨g, k * 2, none⟩)

structure Na (W0 W1 : World) (K4 K5 : Nat) (ps : List Int) (ad : Option Addr) (nd cd n : Nat) (M : List (Int × Int)) (x : Dr) (S : Int × Int) (L : Nat → Bool) (s : Nat → Value) (w : World) : Prop where
  bel : Below W1.heap.size W1 w
  e0 : L 0 = true → s 20 = .slice ad nd cd
  r1 : L 1 = true → ∃ (ao : Option Addr) (cap : Nat), s 21 = .slice ao n cap ∧ SpSl w ao cap M ∧ ∀ a, ao = some a → a.block < w.heap.size
  e4 : L 4 = true → ∃ (g : Nat) (u : Int × Int), s 8 = .pointer (some ⟨g, 0, none⟩) ∧ W1.heap.size ≤ g ∧ w.heap[g]? = some (.cells #[.int .i64 u.1, .int .i64 u.2] 33 (0, 0)) ∧ (L 6 = true → u = S)
  ne : L 1 = true → L 4 = true → ∀ (a : Addr) (n1 c1 g : Nat), s 21 = .slice (some a) n1 c1 → s 8 = .pointer (some ⟨g, 0, none⟩) → a.block ≠ g
  d6 : L 6 = true → L 4 = true ∧ L 1 = true
  e2 : L 2 = true → s 22 = .agg #[.int .i64 x.1, .int .u8 x.2.1, .int .u32 x.2.2]
  e3 : L 3 = true → s 23 = .agg #[.int .i64 S.1, .int .i64 S.2]
  d5 : L 5 = true → L 1 = true
  e5 : L 5 = true → s 7 = s 21

set_option maxRecDepth 100000 in
set_option maxHeartbeats 8000000 in
theorem walk (ds : List Dr) (x : Dr) (ps : List Int) (ad : Option Addr) (cd : Nat) (w : World) (hd : DrSl w ad cd ds) (hx : x.wf) (hp : ps.length = 18) (hpw : ∀ v ∈ ps, 0 ≤ v ∧ v < 18446744073709551616) :
    Calls Try.prog 3 #[.slice ad ds.length cd, .agg #[.int .i64 x.1, .int .u8 x.2.1, .int .u32 x.2.2], .agg (ps.map (Value.int .u64)).toArray] w fun e w' => e = .returned (.bool true) ∧ Below w.heap.size w w' := by
  have HD := Lib.hid hd
  have HOK := Lib.hid (coefs_okS (small := true) hd.wf)
  have HLN := Lib.hid (coefs_len true ds)
  have HX := Lib.hid hx
  have HP := Lib.hid hp
  have HPW := Lib.hid hpw
  clear hd hx hp hpw
  have hS := ((St.start w).al (.cells #[.int .i64 x.1, .int .u8 x.2.1, .int .u32 x.2.2] 25)).al (.cells (ps.map (Value.int .u64)).toArray 28)
  have hS2 : St w ((w.alloc (.cells #[.int .i64 x.1, .int .u8 x.2.1, .int .u32 x.2.2] 25)).alloc (.cells (ps.map (Value.int .u64)).toArray 28)) [(w.heap.size + 1, .cells (ps.map (Value.int .u64)).toArray 28 (0, 0)), (w.heap.size, .cells #[.int .i64 x.1, .int .u8 x.2.1, .int .u32 x.2.2] 25 (0, 0))] none 0 [] := by
    have e := hS.blk _ (List.mem_cons_self ..)
    rw [World.size_alloc] at e
    exact ⟨hS.bel, fun p hp => by
      rcases List.mem_cons.1 hp with rfl | hp
      · exact e
      · exact hS.blk p (List.mem_cons_of_mem _ hp), hS.slc⟩
  clear hS
  go_enter Try.func3, Try.ntmps3
  go_wp2_with fail
  refine (law8_works _).mono ?_; rintro e w1 ⟨rfl, hbel⟩
  have HS := Lib.hid (hS2.on hbel)
  have HD1 := Lib.hid (HD.out.on HS.out.bel)
  clear hbel hS2 HD
  go_upto_region 3 with (fail)
  generalize w.heap.size + 1 = K5 at *
  obtain ⟨K4, hK4⟩ : ∃ K4, K4 = w.heap.size := ⟨_, rfl⟩
  rw [← hK4] at HS ⊢
  clear hK4
  obtain ⟨Lc, hL⟩ : ∃ Lc, Lc = coefs true ds := ⟨_, rfl⟩
  have HC := Lib.hid (fun (W : World) (h : DrSl W ad cd ds) => ref8_Coefs_own ds true ad cd W h)
  rw [← hL] at HC HOK HLN
  clear hL
  obtain ⟨n, hn⟩ : ∃ n, n = Lc.length := ⟨_, rfl⟩
  have HN := Lib.hid hn
  have hn8 : n ≤ 8 := by rw [hn]; exact HLN.out
  clear hn
  rw [← HN.out] at HC
  obtain ⟨S, hSd⟩ : ∃ S, S = dSmall x.1 x.2.1 x.2.2 := ⟨_, rfl⟩
  have HSok : Hid (okS S) := Lib.hid (by rw [hSd]; exact (dSmall_sml _ _ _ HX.out.2).1)
  have HSM := Lib.hid (fun W => draft_Small x.1 x.2.1 x.2.2 HX.out.1 HX.out.2 W)
  rw [← hSd] at HSM
  clear hSd
  --M1
  go_cut [7, 8] (fun a b wx => ∃ (ao : Option Addr) (cap K8 : Nat), a = .slice ao n cap ∧ b = .pointer (some ⟨K8, 0, none⟩) ∧ Hid (St w wx [(K8, .cells #[.int .i64 S.1, .int .i64 S.2] 33 (0, 0)), (K5, .cells (ps.map (Value.int .u64)).toArray 28 (0, 0))] ao cap Lc) ∧ Hid (∀ a, ao = some a → a.block < wx.heap.size))
  case first =>
    refine wp_region_inv (Na w w1 K4 K5 ps ad ds.length cd n Lc x S) (by kernel_rfl) (by kernel_rfl) ?_ ?_ ?_
    · exact ⟨(Below.refl _ _).drew, fun h => absurd h Bool.false_ne_true, fun h => absurd h Bool.false_ne_true, fun h => absurd h Bool.false_ne_true, fun h => absurd h Bool.false_ne_true, fun h => absurd h Bool.false_ne_true, fun h => absurd h Bool.false_ne_true, fun h => absurd h Bool.false_ne_true, fun h => absurd h Bool.false_ne_true, fun h => absurd h Bool.false_ne_true⟩
    · refine AllS.consN 1 (some 20) rfl rfl ?_ (AllS.consN 2 (some 21) rfl rfl ?_ (AllS.consN 3 (some 22) rfl rfl ?_ (AllS.consN 4 (some 23) rfl rfl ?_ (AllS.consN 5 (some 8) rfl rfl ?_ (AllS.consN 6 (some 7) rfl rfl ?_ (AllS.consN 7 none rfl rfl ?_ AllS.nil))))))
      · intro L s w2 h hk hd hn
        have s0 : s 0 = _ := hk 0 (by kernel_rfl)
        refine stepS rfl fun K hK => ?_
        go_simp
        exact hK _ _ { h with e0 := fun _ => rfl }
      · intro L s w2 h hk hd hn
        have s20 := h.e0 hd.1
        refine stepS rfl fun K hK => ?_
        go_simp
        refine (HC.out _ (HD1.out.on h.bel)).mono ?_
        rintro e w3 ⟨v', rfl, hown, hb⟩
        obtain ⟨ao, cap, rfl, hs⟩ := SpSl.of_own (l := Lc) (by rw [← HN.out]; exact hown) (by have := HLN.out; omega)
        rw [← HN.out] at *
        have hne : L 4 = true → ∀ (a : Addr) (g : Nat), ao = some a → s 8 = .pointer (some ⟨g, 0, none⟩) → a.block ≠ g := fun d a g e1 h2 => by
          obtain ⟨g2, u, k1, k2, k3, k4⟩ := h.e4 d
          have e2 : g2 = g := by have := k1.symm.trans h2; simpa using this
          have := (hown.lt a.block (by subst e1; rfl)).1
          have := lt_of_block k3
          omega
        exact ⟨_, rfl, hK _ _ { h with bel := below_step h.bel hb, e4 := fun a => let ⟨g, u, h1, h2, h3, h4⟩ := h.e4 a; ⟨g, u, h1, h2, (hb.block _ (lt_of_block h3)).trans h3, h4⟩, r1 := fun _ => ⟨ao, cap, rfl, hs, fun a e => (hown.lt a.block (by subst e; rfl)).2⟩, ne := fun _ d a n1 c1 g h1 h2 => hne d a g (Value.slice.inj h1).1 h2, d6 := fun e => ⟨(h.d6 e).1, rfl⟩, d5 := fun _ => rfl, e5 := fun e => absurd (h.d5 e) (by rw [hn]; exact Bool.false_ne_true) }⟩
      · intro L s w2 h hk hd hn
        have s4 : s 4 = _ := hk 4 (by kernel_rfl)
        have d := (h.bel.block _ (lt_of_block (HS.out.blk _ (List.mem_cons_of_mem _ (List.mem_cons_self ..))))).trans (HS.out.blk _ (List.mem_cons_of_mem _ (List.mem_cons_self ..)))
        have d0 := cell_of_row _ _ 0 _ _ _ d
        have d1 := cell_of_row _ _ 1 _ _ _ d
        have d2 := cell_of_row _ _ 2 _ _ _ d
        refine stepS rfl fun K hK => ?_
        go_simp
        exact hK _ _ { h with e2 := fun _ => rfl }
      · intro L s w2 h hk hd hn
        have s22 := h.e2 hd.1
        refine stepS rfl fun K hK => ?_
        go_simp
        refine (HSM.out _).mono ?_
        rintro e w3 ⟨rfl, hb⟩
        exact ⟨_, rfl, hK _ _ { h with bel := below_step h.bel hb, r1 := fun a => let ⟨ao, cap, h1, h2, h3⟩ := h.r1 a; ⟨ao, cap, h1, h2.on hb, fun a e => Nat.lt_of_lt_of_le (h3 a e) hb.size⟩, e4 := fun a => let ⟨g, u, h1, h2, h3, h4⟩ := h.e4 a; ⟨g, u, h1, h2, (hb.block _ (lt_of_block h3)).trans h3, h4⟩, e3 := fun _ => rfl }⟩
      · intro L s w2 h hk hd hn
        refine stepS rfl fun K hK => ?_
        go_simp
        have hb := below_alloc (Below.refl w2.heap.size w2) (.cells #[.int .i64 0, .int .i64 0] 33)
        have hne : L 1 = true → ∀ (a : Addr) (n1 c1 g : Nat), s 21 = .slice (some a) n1 c1 → (Value.pointer (some ⟨w2.heap.size, 0, none⟩)) = .pointer (some ⟨g, 0, none⟩) → a.block ≠ g := fun d a n1 c1 g h1 h2 => by
          obtain ⟨ao, cap, k1, k2, k3⟩ := h.r1 d
          have e1 : ao = some a := (Value.slice.inj (k1.symm.trans h1)).1
          have e2 : w2.heap.size = g := by simpa using h2
          have := k3 a e1
          omega
        exact hK _ _ { h with bel := below_step h.bel hb, r1 := fun a => let ⟨ao, cap, h1, h2, h3⟩ := h.r1 a; ⟨ao, cap, h1, h2.on hb, fun a e => Nat.lt_of_lt_of_le (h3 a e) hb.size⟩, e4 := fun _ => ⟨_, (0, 0), rfl, h.bel.size, heap_at _ rfl, fun e => by rw [(h.d6 e).1] at hn; cases hn⟩, ne := fun d _ => hne d, d6 := fun e => ⟨rfl, (h.d6 e).2⟩ }
      · intro L s w2 h hk hd hn
        obtain ⟨ao, cap, s21, hs, hlt⟩ := h.r1 hd.1
        refine stepS rfl fun K hK => ?_
        go_simp
        exact hK _ _ { h with e5 := fun _ => s21.symm, d5 := fun _ => hd.1 }
      · intro L s w2 h hk hd hn
        obtain ⟨g, u, s8, hg, hu, -⟩ := h.e4 hd.1
        have s23 := h.e3 hd.2.1
        obtain ⟨ao, cap, k1, k2, k3⟩ := h.r1 hd.2.2.2.2.1
        have hne := h.ne hd.2.2.2.2.1 hd.1
        have c0 := cell_two0 hu
        have c1 := cell_two1 hu
        have f0 := free_two (i := 0) hu
        have f1 := free_two (i := 1) hu
        have l := lt_of_block hu
        refine stepS rfl fun K hK => ?_
        go_simp
        exact hK _ _ { h with bel := below_set2 h.bel hg _ _, r1 := fun _ => ⟨ao, cap, k1, k2.set2 (fun a e => hne a _ _ g (by rw [k1, e]) s8) _ _, fun a e => by simpa using k3 a e⟩, e4 := fun _ => ⟨g, S, s8, hg, set2_blk hu _ _, fun _ => rfl⟩, d6 := fun _ => ⟨hd.1, hd.2.2.2.2.1⟩ }
    · intro L s w2 h hk hl
      obtain ⟨ao, cap, k1, k2, k3⟩ := h.r1 (hl 1 (by decide))
      obtain ⟨g, u, s8, hg, hu, hz⟩ := h.e4 (hl 4 (by decide))
      rw [hz (hl 6 (by decide))] at hu
      have HE : St w w2 [(g, .cells #[.int .i64 S.1, .int .i64 S.2] 33 (0, 0)), (K5, .cells (ps.map (Value.int .u64)).toArray 28 (0, 0))] ao cap Lc := by
        refine ⟨below_step HS.out.bel h.bel, fun p hp => ?_, k2⟩
        rcases List.mem_cons.1 hp with rfl | hp
        · exact hu
        rcases List.mem_cons.1 hp with rfl | hp
        · exact (h.bel.block _ (lt_of_block (HS.out.blk _ (List.mem_cons_self ..)))).trans (HS.out.blk _ (List.mem_cons_self ..))
        cases hp
      rename_i J K' hR hM
      refine hM _ _ (Met.intro (hR _ _ ?_))
      repeat apply Exists.intro
      refine ⟨⟨ao, cap, g, (h.e5 (hl 5 (by decide))).trans k1, s8, Lib.hid HE, Lib.hid k3⟩, ?_⟩
      refine congrArg (fun l => (⟨List.toArray l, []⟩ : Act)) ?_
      show [s 0, s 1, s 2, s 3, s 4, s 5, s 6, s 7, s 8, s 9, s 10, s 11, s 12, s 13, s 14, s 15, s 16, s 17, s 18, s 19, s 20, s 21, s 22, s 23, s 24, s 25, s 26, s 27, s 28, s 29, s 30, s 31, s 32, s 33, s 34, s 35, s 36, s 37, s 38, s 39, s 40, s 41, s 42, s 43, s 44, s 45, s 46, s 47, s 48, s 49, s 50, s 51, s 52, s 53, s 54, s 55, s 56, s 57, s 58, s 59, s 60, s 61, s 62, s 63, s 64, s 65, s 66, s 67, s 68, s 69, s 70, s 71, s 72, s 73, s 74, s 75, s 76, s 77, s 78, s 79, s 80, s 81, s 82, s 83, s 84, s 85, s 86] = _
      exact lc (hk 0 (by kernel_rfl)) (lc (hk 1 (by kernel_rfl)) (lc (hk 2 (by kernel_rfl)) (lc (hk 3 (by kernel_rfl)) (lc (hk 4 (by kernel_rfl)) (lc (hk 5 (by kernel_rfl)) (lc (hk 6 (by kernel_rfl)) (lc rfl (lc rfl (lc (hk 9 (by kernel_rfl)) (lc (hk 10 (by kernel_rfl)) (lc (hk 11 (by kernel_rfl)) (lc (hk 12 (by kernel_rfl)) (lc (hk 13 (by kernel_rfl)) (lc (hk 14 (by kernel_rfl)) (lc (hk 15 (by kernel_rfl)) (lc (hk 16 (by kernel_rfl)) (lc (hk 17 (by kernel_rfl)) (lc (hk 18 (by kernel_rfl)) (lc (hk 19 (by kernel_rfl)) (lc rfl (lc rfl (lc rfl (lc rfl (lc (hk 24 (by kernel_rfl)) (lc (hk 25 (by kernel_rfl)) (lc (hk 26 (by kernel_rfl)) (lc (hk 27 (by kernel_rfl)) (lc (hk 28 (by kernel_rfl)) (lc (hk 29 (by kernel_rfl)) (lc (hk 30 (by kernel_rfl)) (lc (hk 31 (by kernel_rfl)) (lc (hk 32 (by kernel_rfl)) (lc (hk 33 (by kernel_rfl)) (lc (hk 34 (by kernel_rfl)) (lc (hk 35 (by kernel_rfl)) (lc (hk 36 (by kernel_rfl)) (lc (hk 37 (by kernel_rfl)) (lc (hk 38 (by kernel_rfl)) (lc (hk 39 (by kernel_rfl)) (lc (hk 40 (by kernel_rfl)) (lc (hk 41 (by kernel_rfl)) (lc (hk 42 (by kernel_rfl)) (lc (hk 43 (by kernel_rfl)) (lc (hk 44 (by kernel_rfl)) (lc (hk 45 (by kernel_rfl)) (lc (hk 46 (by kernel_rfl)) (lc (hk 47 (by kernel_rfl)) (lc (hk 48 (by kernel_rfl)) (lc (hk 49 (by kernel_rfl)) (lc (hk 50 (by kernel_rfl)) (lc (hk 51 (by kernel_rfl)) (lc (hk 52 (by kernel_rfl)) (lc (hk 53 (by kernel_rfl)) (lc (hk 54 (by kernel_rfl)) (lc (hk 55 (by kernel_rfl)) (lc (hk 56 (by kernel_rfl)) (lc (hk 57 (by kernel_rfl)) (lc (hk 58 (by kernel_rfl)) (lc (hk 59 (by kernel_rfl)) (lc (hk 60 (by kernel_rfl)) (lc (hk 61 (by kernel_rfl)) (lc (hk 62 (by kernel_rfl)) (lc (hk 63 (by kernel_rfl)) (lc (hk 64 (by kernel_rfl)) (lc (hk 65 (by kernel_rfl)) (lc (hk 66 (by kernel_rfl)) (lc (hk 67 (by kernel_rfl)) (lc (hk 68 (by kernel_rfl)) (lc (hk 69 (by kernel_rfl)) (lc (hk 70 (by kernel_rfl)) (lc (hk 71 (by kernel_rfl)) (lc (hk 72 (by kernel_rfl)) (lc (hk 73 (by kernel_rfl)) (lc (hk 74 (by kernel_rfl)) (lc (hk 75 (by kernel_rfl)) (lc (hk 76 (by kernel_rfl)) (lc (hk 77 (by kernel_rfl)) (lc (hk 78 (by kernel_rfl)) (lc (hk 79 (by kernel_rfl)) (lc (hk 80 (by kernel_rfl)) (lc (hk 81 (by kernel_rfl)) (lc (hk 82 (by kernel_rfl)) (lc (hk 83 (by kernel_rfl)) (lc (hk 84 (by kernel_rfl)) (lc (hk 85 (by kernel_rfl)) (lc (hk 86 (by kernel_rfl)) rfl))))))))))))))))))))))))))))))))))))))))))))))))))))))))))))))))))))))))))))))))))))))

  case rest => --M2
    obtain ⟨ao, cap, K8, rfl, rfl, HS, HLT⟩ := hcut
    have HCL := Lib.hid (clone_any Lc ao cap wc HS.out.slc (by have := HLN.out; omega))
    rw [← HN.out] at HCL
    go_wp2_with fail
    refine HCL.out.mono ?_
    rintro e w3 ⟨v', rfl, hown, hb⟩
    obtain ⟨ao2, cap2, rfl, -⟩ := SpSl.of_own (l := Lc) (by rw [← HN.out]; exact hown) (by have := HLN.out; omega)
    rw [← HN.out] at hown ⊢
    have HR : Hid (Nr w w3 wc.heap.size K5 K8 ps S ao cap Lc ao2 cap2 n Lc) := Lib.hid ⟨HS.out.on hb, hown, HS.out.bel.size, lt_of_block (HS.out.blk _ (List.mem_cons_self ..)), lt_of_block (HS.out.blk _ (List.mem_cons_of_mem _ (List.mem_cons_self ..))), HLT.out⟩
    have HNar : Hid (Nar Lc Lc n 0) := Lib.hid (by rw [HN.out]; exact Nar.start HOK.out)
    generalize wc.heap.size = B at *
    clear hown hb HCL HLT HS
    go_wp2_with fail
    go_loopw [28] (fun i wr => ∃ k : Nat, k ≤ n ∧ i = .int .i64 k ∧ Hid (∃ M, Nar Lc M n k ∧ Nr w wr B K5 K8 ps S ao cap Lc ao2 cap2 n M)) (fun i _ => n - (intOf i).toNat)
    case atStart => exact ⟨0, by omega, rfl, Lib.hid ⟨Lc, HNar.out, HR.out⟩⟩
    case round =>
      clear HR HNar
      obtain ⟨k, hk, rfl, HE⟩ := hrel
      rcases Nat.lt_or_ge k n with hk' | hk'
      · obtain ⟨M, hNar, hA⟩ := HE.out
        have HNar := Lib.hid hNar
        have HA := Lib.hid hA
        clear HE
        obtain ⟨c, hc⟩ : ∃ c, M[k]? = some c := ⟨_, List.getElem?_eq_getElem (by rw [hNar.len]; exact hk')⟩
        obtain ⟨v, hv⟩ : ∃ v, ps[k * 2]? = some v := ⟨_, List.getElem?_eq_getElem (by rw [HP.out]; omega)⟩
        obtain ⟨u, hu⟩ : ∃ u, ps[k * 2 + 1]? = some u := ⟨_, List.getElem?_eq_getElem (by rw [HP.out]; omega)⟩
        have HOC : Hid (okS c) := Lib.hid (by rw [hNar.same k (Nat.le_refl _)] at hc; exact HOK.out c (List.mem_of_getElem? hc))
        have HVB := Lib.hid (HPW.out v (List.mem_of_getElem? hv))
        have HUB := Lib.hid (HPW.out u (List.mem_of_getElem? hu))
        obtain ⟨g, hg⟩ := hA.form (by omega)
        have HC := Lib.hid hc
        have HV := Lib.hid hv
        have HU := Lib.hid hu
        clear hNar hA hc hv hu
        subst hg
        have hk0 : (0 : Int) ≤ (k : Int) := by omega
        have hk1 : (k : Int) < (n : Int) := by omega
        have hk9 : (k : Int) < 9 := by omega
        go_upto_block 1 with (fail)
        --M3
        go_cut [10] (fun i wx => i = .int .i64 (k : Int) ∧ Hid (Nr w wx B K5 K8 ps S ao cap Lc (some ⟨g, 0, none⟩) cap2 n (M.set k (partOf c v u))))
        case first =>
          go_upto_region 8 with (fail)
          --M5
          refine wp_region_inv (Nb w wr B K5 K8 g cap2 ps S ao cap n k Lc M c v u) (by kernel_rfl) (by kernel_rfl) ?_ ?_ ?_
          · exact ⟨fun _ => HA.out.on (Below.refl _ _).drew, fun h => absurd h Bool.false_ne_true, fun h => absurd h Bool.false_ne_true, fun h => absurd h Bool.false_ne_true, fun h => absurd h Bool.false_ne_true, fun h => absurd h Bool.false_ne_true, fun h => absurd h Bool.false_ne_true, fun h => absurd h Bool.false_ne_true, fun h => absurd h Bool.false_ne_true, fun h => absurd h Bool.false_ne_true, fun h => absurd h Bool.false_ne_true, fun h => absurd h Bool.false_ne_true, fun h => absurd h Bool.false_ne_true, fun h => absurd h Bool.false_ne_true, fun h => absurd h Bool.false_ne_true, fun h => absurd h Bool.false_ne_true, fun h => absurd h Bool.false_ne_true, fun h => absurd h Bool.false_ne_true, fun h => absurd h Bool.false_ne_true, fun h => absurd h Bool.false_ne_true, fun h => absurd h Bool.false_ne_true, fun h => absurd h Bool.false_ne_true, fun h => absurd h Bool.false_ne_true⟩
          · refine AllS.consN 1 (some 31) rfl rfl ?_ (AllS.consN 2 (some 32) rfl rfl ?_ (AllS.consN 3 (some 33) rfl rfl ?_ (AllS.consN 4 (some 34) rfl rfl ?_ (AllS.consN 5 (some 35) rfl rfl ?_ (AllS.consN 6 (some 36) rfl rfl ?_ (AllS.consN 7 (some 37) rfl rfl ?_ (AllS.consN 8 (some 38) rfl rfl ?_ (AllS.consN 9 (some 39) rfl rfl ?_ (AllS.consN 10 (some 40) rfl rfl ?_ (AllS.consN 11 (some 41) rfl rfl ?_ (AllS.consN 12 (some 42) rfl rfl ?_ (AllS.consN 13 (some 43) rfl rfl ?_ (AllS.consN 14 (some 44) rfl rfl ?_ (AllS.consN 15 (some 45) rfl rfl ?_ (AllS.consN 16 (some 46) rfl rfl ?_ (AllS.consN 17 none rfl rfl ?_ AllS.nil))))))))))))))))
            · intro L s w2 h hk hd hn
              have s9 : s 9 = _ := hk 9 (by kernel_rfl)
              refine stepS rfl fun K hK => ?_
              go_simp
              exact hK _ _ { h with e0 := fun _ => rfl }
            · intro L s w2 h hk hd hn
              have s10 : s 10 = _ := hk 10 (by kernel_rfl)
              refine stepS rfl fun K hK => ?_
              go_simp
              exact hK _ _ { h with e1 := fun _ => rfl }
            · intro L s w2 h hk hd hn
              have s9 : s 9 = _ := hk 9 (by kernel_rfl)
              refine stepS rfl fun K hK => ?_
              go_simp
              exact hK _ _ { h with e2 := fun _ => rfl }
            · intro L s w2 h hk hd hn
              have s10 : s 10 = _ := hk 10 (by kernel_rfl)
              refine stepS rfl fun K hK => ?_
              go_simp
              exact hK _ _ { h with e3 := fun _ => rfl }
            · intro L s w2 h hk hd hn
              have s33 := h.e2 hd.1
              have s34 := h.e3 hd.2.1
              refine stepS rfl fun K hK => ?_
              go_simp
              exact hK _ _ { h with e4 := fun _ => rfl }
            · intro L s w2 h hk hd hn
              have s35 := h.e4 hd.1
              have h16 : L 16 = false := (Bool.eq_false_or_eq_true (L 16)).elim (fun e => absurd (h.b5 e) (by rw [hn]; exact Bool.false_ne_true)) id
              obtain ⟨c0, c1⟩ := (h.st h16).at_ HC.out
              refine stepS rfl fun K hK => ?_
              go_simp
              exact hK _ _ { h with e5 := fun _ => rfl, b5 := fun _ => rfl }
            · intro L s w2 h hk hd hn
              have s10 : s 10 = _ := hk 10 (by kernel_rfl)
              refine stepS rfl fun K hK => ?_
              go_simp
              exact hK _ _ { h with e6 := fun _ => rfl }
            · intro L s w2 h hk hd hn
              have s5 : s 5 = _ := hk 5 (by kernel_rfl)
              have s37 := h.e6 hd.1
              refine stepS rfl fun K hK => ?_
              go_simp
              exact hK _ _ { h with e7 := fun _ => rfl }
            · intro L s w2 h hk hd hn
              have s38 := h.e7 hd.1
              refine stepS rfl fun K hK => ?_
              go_simp
              exact hK _ _ { h with e8 := fun _ => rfl }
            · intro L s w2 h hk hd hn
              have s39 := h.e8 hd.1
              have h16 : L 16 = false := (Bool.eq_false_or_eq_true (L 16)).elim (fun e => absurd (h.b9 e) (by rw [hn]; exact Bool.false_ne_true)) id
              have c0 := ps_cell ((h.st h16).st.blk _ (List.mem_cons_of_mem _ (List.mem_cons_self ..))) HV.out
              refine stepS rfl fun K hK => ?_
              go_simp
              exact hK _ _ { h with e9 := fun _ => rfl, b9 := fun _ => rfl }
            · intro L s w2 h hk hd hn
              have s10 : s 10 = _ := hk 10 (by kernel_rfl)
              refine stepS rfl fun K hK => ?_
              go_simp
              exact hK _ _ { h with e10 := fun _ => rfl }
            · intro L s w2 h hk hd hn
              have s5 : s 5 = _ := hk 5 (by kernel_rfl)
              have s41 := h.e10 hd.1
              refine stepS rfl fun K hK => ?_
              go_simp
              exact hK _ _ { h with e11 := fun _ => rfl }
            · intro L s w2 h hk hd hn
              have s42 := h.e11 hd.1
              refine stepS rfl fun K hK => ?_
              go_simp
              exact hK _ _ { h with e12 := fun _ => rfl }
            · intro L s w2 h hk hd hn
              have s43 := h.e12 hd.1
              have h16 : L 16 = false := (Bool.eq_false_or_eq_true (L 16)).elim (fun e => absurd (h.b13 e) (by rw [hn]; exact Bool.false_ne_true)) id
              have c0 := ps_cell ((h.st h16).st.blk _ (List.mem_cons_of_mem _ (List.mem_cons_self ..))) HU.out
              refine stepS rfl fun K hK => ?_
              go_simp
              exact hK _ _ { h with e13 := fun _ => rfl, b13 := fun _ => rfl }
            · intro L s w2 h hk hd hn
              have s36 := h.e5 hd.1
              have s40 := h.e9 hd.2.1
              have s44 := h.e13 hd.2.2.1
              have h16 : L 16 = false := (Bool.eq_false_or_eq_true (L 16)).elim (fun e => absurd (h.b14 e) (by rw [hn]; exact Bool.false_ne_true)) id
              refine stepS rfl fun K hK => ?_
              go_simp
              refine (law8_part HOC.out v u HVB.out HUB.out _).mono ?_
              rintro e w3 ⟨rfl, hb⟩
              exact ⟨_, rfl, hK _ _ { h with b14 := fun _ => rfl, dn := fun _ => rfl, st := fun a => (h.st a).on hb, st2 := fun a => (h.st2 a).on hb, e14 := fun _ => rfl }⟩
            · intro L s w2 h hk hd hn
              have s31 := h.e0 hd.1
              have s32 := h.e1 hd.2.1
              refine stepS rfl fun K hK => ?_
              go_simp
              exact hK _ _ { h with e15 := fun _ => rfl }
            · intro L s w2 h hk hd hn
              have s46 := h.e15 hd.1
              have s45 := h.e14 hd.2.1
              have hN := h.st hn
              have hown := hN.own
              have z0 := hown.frozenAt (k * 2)
              have z1 := hown.frozenAt (k * 2 + 1)
              obtain ⟨c0, c1⟩ := hN.at_ HC.out
              refine stepS rfl fun K hK => ?_
              go_simp
              exact hK _ _ { h with st := fun a => absurd a.symm Bool.false_ne_true, st2 := fun _ => hN.set HC.out, dn := fun _ => hd.2.1, b5 := fun _ => hd.2.2.2.2.2.2.2.2.1, b9 := fun _ => hd.2.2.2.2.2.2.2.2.2.2.2.2.1, b13 := fun _ => hd.2.2.2.2.2.2.2.2.2.2.2.2.2.2.2.2.1, b14 := fun _ => hd.2.1 }
          · intro L s w2 h hk hl
            rename_i J K' hR hM
            refine hM _ _ (Met.intro (hR _ _ ?_))
            repeat apply Exists.intro
            refine ⟨⟨hk 10 (by kernel_rfl), Lib.hid (h.st2 (hl 16 (by decide)))⟩, ?_⟩
            refine congrArg (fun l => (⟨List.toArray l, []⟩ : Act)) ?_
            show [s 0, s 1, s 2, s 3, s 4, s 5, s 6, s 7, s 8, s 9, s 10, s 11, s 12, s 13, s 14, s 15, s 16, s 17, s 18, s 19, s 20, s 21, s 22, s 23, s 24, s 25, s 26, s 27, s 28, s 29, s 30, s 31, s 32, s 33, s 34, s 35, s 36, s 37, s 38, s 39, s 40, s 41, s 42, s 43, s 44, s 45, s 46, s 47, s 48, s 49, s 50, s 51, s 52, s 53, s 54, s 55, s 56, s 57, s 58, s 59, s 60, s 61, s 62, s 63, s 64, s 65, s 66, s 67, s 68, s 69, s 70, s 71, s 72, s 73, s 74, s 75, s 76, s 77, s 78, s 79, s 80, s 81, s 82, s 83, s 84, s 85, s 86] = _
            exact lc (hk 0 (by kernel_rfl)) (lc (hk 1 (by kernel_rfl)) (lc (hk 2 (by kernel_rfl)) (lc (hk 3 (by kernel_rfl)) (lc (hk 4 (by kernel_rfl)) (lc (hk 5 (by kernel_rfl)) (lc (hk 6 (by kernel_rfl)) (lc (hk 7 (by kernel_rfl)) (lc (hk 8 (by kernel_rfl)) (lc (hk 9 (by kernel_rfl)) (lc rfl (lc (hk 11 (by kernel_rfl)) (lc (hk 12 (by kernel_rfl)) (lc (hk 13 (by kernel_rfl)) (lc (hk 14 (by kernel_rfl)) (lc (hk 15 (by kernel_rfl)) (lc (hk 16 (by kernel_rfl)) (lc (hk 17 (by kernel_rfl)) (lc (hk 18 (by kernel_rfl)) (lc (hk 19 (by kernel_rfl)) (lc (hk 20 (by kernel_rfl)) (lc (hk 21 (by kernel_rfl)) (lc (hk 22 (by kernel_rfl)) (lc (hk 23 (by kernel_rfl)) (lc (hk 24 (by kernel_rfl)) (lc (hk 25 (by kernel_rfl)) (lc (hk 26 (by kernel_rfl)) (lc (hk 27 (by kernel_rfl)) (lc (hk 28 (by kernel_rfl)) (lc (hk 29 (by kernel_rfl)) (lc (hk 30 (by kernel_rfl)) (lc rfl (lc rfl (lc rfl (lc rfl (lc rfl (lc rfl (lc rfl (lc rfl (lc rfl (lc rfl (lc rfl (lc rfl (lc rfl (lc rfl (lc rfl (lc rfl (lc (hk 47 (by kernel_rfl)) (lc (hk 48 (by kernel_rfl)) (lc (hk 49 (by kernel_rfl)) (lc (hk 50 (by kernel_rfl)) (lc (hk 51 (by kernel_rfl)) (lc (hk 52 (by kernel_rfl)) (lc (hk 53 (by kernel_rfl)) (lc (hk 54 (by kernel_rfl)) (lc (hk 55 (by kernel_rfl)) (lc (hk 56 (by kernel_rfl)) (lc (hk 57 (by kernel_rfl)) (lc (hk 58 (by kernel_rfl)) (lc (hk 59 (by kernel_rfl)) (lc (hk 60 (by kernel_rfl)) (lc (hk 61 (by kernel_rfl)) (lc (hk 62 (by kernel_rfl)) (lc (hk 63 (by kernel_rfl)) (lc (hk 64 (by kernel_rfl)) (lc (hk 65 (by kernel_rfl)) (lc (hk 66 (by kernel_rfl)) (lc (hk 67 (by kernel_rfl)) (lc (hk 68 (by kernel_rfl)) (lc (hk 69 (by kernel_rfl)) (lc (hk 70 (by kernel_rfl)) (lc (hk 71 (by kernel_rfl)) (lc (hk 72 (by kernel_rfl)) (lc (hk 73 (by kernel_rfl)) (lc (hk 74 (by kernel_rfl)) (lc (hk 75 (by kernel_rfl)) (lc (hk 76 (by kernel_rfl)) (lc (hk 77 (by kernel_rfl)) (lc (hk 78 (by kernel_rfl)) (lc (hk 79 (by kernel_rfl)) (lc (hk 80 (by kernel_rfl)) (lc (hk 81 (by kernel_rfl)) (lc (hk 82 (by kernel_rfl)) (lc (hk 83 (by kernel_rfl)) (lc (hk 84 (by kernel_rfl)) (lc (hk 85 (by kernel_rfl)) (lc (hk 86 (by kernel_rfl)) rfl))))))))))))))))))))))))))))))))))))))))))))))))))))))))))))))))))))))))))))))))))))))

        case rest => --M4
          obtain ⟨rfl, HB⟩ := hcut
          have HNar2 : Hid (Nar Lc (M.set k (partOf c v u)) n (k + 1)) := Lib.hid (HNar.out.next HC.out (partOf_in HOC.out v u))
          clear HNar HA HC HV HU HVB HUB HOC
          go_wp2_with fail
          go_roundw
          --M6
          case rel => exact ⟨k + 1, by omega, by go_num, Lib.hid ⟨_, HNar2.out, HB.out⟩⟩
          case measure => simp [intOf]; omega
      · obtain rfl : k = n := by omega
        obtain ⟨M, hNar, hA⟩ := HE.out
        have HAL : Hid (AllIn M Lc) := Lib.hid (allIn_of (by rw [hNar.len, HN.out]) HOK.out hNar.low)
        have HML : Hid (M.length = k) := Lib.hid hNar.len
        obtain ⟨v, hv⟩ : ∃ v, ps[16]? = some v := ⟨_, List.getElem?_eq_getElem (by rw [HP.out]; omega)⟩
        obtain ⟨u, hu⟩ : ∃ u, ps[17]? = some u := ⟨_, List.getElem?_eq_getElem (by rw [HP.out]; omega)⟩
        have HT := Lib.hid (fun W => law8_part (a := S) HSok.out v u (HPW.out v (List.mem_of_getElem? hv)) (HPW.out u (List.mem_of_getElem? hu)) W)
        have hTin := partOf_in HSok.out v u
        obtain ⟨T, hT⟩ : ∃ T, T = partOf S v u := ⟨_, rfl⟩
        rw [← hT] at HT hTin
        have HTok := Lib.hid hTin.1
        have HTin : Hid (sIn T S) := Lib.hid ⟨hTin.2.1, hTin.2.2⟩
        have hS := hA.st
        obtain ⟨ao3, cap3, he, hsl⟩ := SpSl.of_own (l := M) (by rw [HML.out]; exact hA.own) (by rw [HML.out]; omega)
        obtain ⟨e1, -, e3⟩ := Value.slice.inj he
        subst e1 e3
        have HSL := Lib.hid hsl
        have b5 := hS.blk _ (List.mem_cons_of_mem _ (List.mem_cons_self ..))
        have p0 := ps_cell b5 hv
        have p1 := ps_cell b5 hu
        have b8 := hS.blk _ (List.mem_cons_self ..)
        have c0 := cell_two0 b8
        have c1 := cell_two1 b8
        clear hT hTin hNar hA he hsl hv hu HE b5 b8
        go_wp2_with fail
        refine (HT.out _).mono ?_; rintro e w4 ⟨rfl, hbel⟩
        replace hS := (hS.on hbel).al (.cells #[.int .i64 T.1, .int .i64 T.2] 33)
        replace HSL := Lib.hid ((HSL.out.on hbel).on (below_alloc (Below.refl _ _) (.cells #[.int .i64 T.1, .int .i64 T.2] 33)))
        have HS2 := Lib.hid (hS.sub (bs' := [(K8, .cells #[.int .i64 S.1, .int .i64 S.2] 33 (0, 0)), (w4.heap.size, .cells #[.int .i64 T.1, .int .i64 T.2] 33 (0, 0))]) (by simp))
        clear hS hbel p0 p1 c0 c1 HT
        --M8
        go_wp2_with fail
        generalize w4.heap.size = K11 at *
        --M9
        go_loopw [57] (fun i wr => ∃ j : Nat, j ≤ 2 ∧ i = .int .i64 j ∧ Hid (St w wr [(K8, .cells #[.int .i64 S.1, .int .i64 S.2] 33 (0, 0)), (K11, .cells #[.int .i64 T.1, .int .i64 T.2] 33 (0, 0))] ao cap Lc) ∧ Hid (SpSl wr ao2 cap2 M)) (fun i _ => 2 - (intOf i).toNat)
        case atStart => exact ⟨0, by omega, rfl, HS2, HSL⟩
        case round =>
          clear HS2 HSL
          obtain ⟨j, hj, rfl, HS2, HSL⟩ := hrel
          have hS := HS2.out
          clear HS2
          obtain rfl | rfl | rfl : j = 0 ∨ j = 1 ∨ j = 2 := by omega
          · have hi : ∀ W, (Instr.index 38 (.agg #[.func (.func 11) #[] #[], .func (.func 12) #[] #[]]) (.int .i64 0)).run Try.prog W = .ok (.func (.func 11) #[] #[]) W := fun W => by kernel_rfl
            have H1 := Lib.hid (fun (W : World) (h : SpSl W ao cap Lc) => poly_Eval Lc S ao cap W h)
            have H2 := Lib.hid (fun (W : World) (h : SpSl W ao2 cap2 M) => poly_Eval M T ao2 cap2 W h)
            have HR : Hid (rIn (pEval M T) (pEval Lc S)) := Lib.hid (pEval_narrow HSok.out HTok.out HTin.out HAL.out HLN.out)
            rw [← HN.out] at H1
            rw [HML.out] at H2
            generalize pEval Lc S = r1 at *
            generalize pEval M T = r2 at *
            have b8 := hS.blk (K8, .cells #[.int .i64 S.1, .int .i64 S.2] 33 (0, 0)) (by simp)
            have c0 := cell_two0 b8
            have c1 := cell_two1 b8
            go_wp2_with fail
            refine (H1.out _ hS.slc).mono ?_; rintro e w5 ⟨rfl, hbel⟩
            replace hS := ((hS.on hbel).al (.cells #[.int .i64 r1.1.1, .int .i64 r1.1.2] 33))
            replace HSL := Lib.hid ((HSL.out.on hbel).on (below_alloc (Below.refl _ _) (.cells #[.int .i64 r1.1.1, .int .i64 r1.1.2] 33)))
            clear c0 c1 b8 hbel
            have b11 := hS.blk (K11, .cells #[.int .i64 T.1, .int .i64 T.2] 33 (0, 0)) (by simp)
            have c0 := cell_two0 b11
            have c1 := cell_two1 b11
            go_wp2_with fail
            refine (H2.out _ HSL.out).mono ?_; rintro e w6 ⟨rfl, hbel⟩
            replace hS := ((hS.on hbel).al (.cells #[.int .i64 r2.1.1, .int .i64 r2.1.2] 33))
            replace HSL := Lib.hid ((HSL.out.on hbel).on (below_alloc (Below.refl _ _) (.cells #[.int .i64 r2.1.1, .int .i64 r2.1.2] 33)))
            clear c0 c1 b11 hbel
            by_cases e1 : r1.2 = 0
            · obtain ⟨g1, g2, g3⟩ := HR.out e1
              have q1 : (r1.2 == 0) = true := by simp [e1]
              have q2 : (r2.2 != 0) = false := by simp [g1]
              have HW := Lib.hid (fun W => law8_within (a := r2.1) (b := r1.1) g2 g3 W)
              clear e1 g1 g2 g3
              have b1 := hS.blk _ (List.mem_cons_self ..)
              have b2 := hS.blk _ (List.mem_cons_of_mem _ (List.mem_cons_self ..))
              have c0 := cell_two0 b1
              have c1 := cell_two1 b1
              have d0 := cell_two0 b2
              have d1 := cell_two1 b2
              go_wp2_with fail
              refine (HW.out _).mono ?_; rintro e w7 ⟨rfl, hbel⟩
              replace hS := hS.on hbel
              replace HSL := Lib.hid (HSL.out.on hbel)
              clear c0 c1 d0 d1 b1 b2 hbel
              go_wp2_with fail
              go_roundw
              case rel => exact ⟨0 + 1, by omega, by go_num, Lib.hid (hS.sub (by simp)), HSL⟩
              case measure => simp [intOf]
            · have q1 : (r1.2 == 0) = false := by simp [e1]
              clear e1
              go_wp2_with fail
              go_roundw
              case rel => exact ⟨0 + 1, by omega, by go_num, Lib.hid (hS.sub (by simp)), HSL⟩
              case measure => simp [intOf]
          · have hi : ∀ W, (Instr.index 38 (.agg #[.func (.func 11) #[] #[], .func (.func 12) #[] #[]]) (.int .i64 1)).run Try.prog W = .ok (.func (.func 12) #[] #[]) W := fun W => by kernel_rfl
            have H1 := Lib.hid (fun (W : World) (h : SpSl W ao cap Lc) => poly_Slope Lc S ao cap W h)
            have H2 := Lib.hid (fun (W : World) (h : SpSl W ao2 cap2 M) => poly_Slope M T ao2 cap2 W h)
            have HR : Hid (rIn (pSlope M T) (pSlope Lc S)) := Lib.hid (pSlope_narrow HSok.out HTok.out HTin.out HAL.out HLN.out)
            rw [← HN.out] at H1
            rw [HML.out] at H2
            generalize pSlope Lc S = r1 at *
            generalize pSlope M T = r2 at *
            have b8 := hS.blk (K8, .cells #[.int .i64 S.1, .int .i64 S.2] 33 (0, 0)) (by simp)
            have c0 := cell_two0 b8
            have c1 := cell_two1 b8
            go_wp2_with fail
            refine (H1.out _ hS.slc).mono ?_; rintro e w5 ⟨rfl, hbel⟩
            replace hS := ((hS.on hbel).al (.cells #[.int .i64 r1.1.1, .int .i64 r1.1.2] 33))
            replace HSL := Lib.hid ((HSL.out.on hbel).on (below_alloc (Below.refl _ _) (.cells #[.int .i64 r1.1.1, .int .i64 r1.1.2] 33)))
            clear c0 c1 b8 hbel
            have b11 := hS.blk (K11, .cells #[.int .i64 T.1, .int .i64 T.2] 33 (0, 0)) (by simp)
            have c0 := cell_two0 b11
            have c1 := cell_two1 b11
            go_wp2_with fail
            refine (H2.out _ HSL.out).mono ?_; rintro e w6 ⟨rfl, hbel⟩
            replace hS := ((hS.on hbel).al (.cells #[.int .i64 r2.1.1, .int .i64 r2.1.2] 33))
            replace HSL := Lib.hid ((HSL.out.on hbel).on (below_alloc (Below.refl _ _) (.cells #[.int .i64 r2.1.1, .int .i64 r2.1.2] 33)))
            clear c0 c1 b11 hbel
            by_cases e1 : r1.2 = 0
            · obtain ⟨g1, g2, g3⟩ := HR.out e1
              have q1 : (r1.2 == 0) = true := by simp [e1]
              have q2 : (r2.2 != 0) = false := by simp [g1]
              have HW := Lib.hid (fun W => law8_within (a := r2.1) (b := r1.1) g2 g3 W)
              clear e1 g1 g2 g3
              have b1 := hS.blk _ (List.mem_cons_self ..)
              have b2 := hS.blk _ (List.mem_cons_of_mem _ (List.mem_cons_self ..))
              have c0 := cell_two0 b1
              have c1 := cell_two1 b1
              have d0 := cell_two0 b2
              have d1 := cell_two1 b2
              go_wp2_with fail
              refine (HW.out _).mono ?_; rintro e w7 ⟨rfl, hbel⟩
              replace hS := hS.on hbel
              replace HSL := Lib.hid (HSL.out.on hbel)
              clear c0 c1 d0 d1 b1 b2 hbel
              go_wp2_with fail
              go_roundw
              case rel => exact ⟨1 + 1, by omega, by go_num, Lib.hid (hS.sub (by simp)), HSL⟩
              case measure => simp [intOf]
            · have q1 : (r1.2 == 0) = false := by simp [e1]
              clear e1
              go_wp2_with fail
              go_roundw
              case rel => exact ⟨1 + 1, by omega, by go_num, Lib.hid (hS.sub (by simp)), HSL⟩
              case measure => simp [intOf]
          · go_wp2_with fail
            go_ret
            exact ⟨rfl, hS.bel⟩
end Go.Proofs.Ytgpaillkekhmdaa.polyNarrows
