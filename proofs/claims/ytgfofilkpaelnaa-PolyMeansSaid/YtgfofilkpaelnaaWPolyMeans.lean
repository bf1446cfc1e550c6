/- The walk of monoclelaw08.PolyMeans. -/
import Derived.Test.YtgfofilkpaelnaaLawPL
import Derived.Test.YtgfofilkpaelnaaPolyMean
import Derived.Test.YtgfofilkpaelnaaLawPL0
namespace Go.Proofs.Ytgfofilkpaelnaa.polyMeans
open Go.RowKit Go.Shelf Mnc

/-- Two boxes, and the row of the coefficients. -/
structure MnB (w W : World) (p q : Int × Int) (B : Nat) (ao : Option Addr) (cap : Nat) (M : List (Int × Int)) : Prop where
  bel : Below w.heap.size w W
  lb : w.heap.size ≤ B
  bp : W.heap[B]? = some (.cells #[.int .i64 p.1, .int .i64 p.2] 24 (0, 0))
  bq : W.heap[B + 1]? = some (.cells #[.int .i64 q.1, .int .i64 q.2] 24 (0, 0))
  own : W.ownsRow w.heap.size 24 2 (.slice ao M.length cap) M.length (flat M)
  lt : ∀ g, (Value.slice ao M.length cap).ownBlock = some g → g < B
theorem MnB.form {w W : World} {p q : Int × Int} {B : Nat} {ao : Option Addr} {cap : Nat} {M : List (Int × Int)} (h : MnB w W p q B ao cap M) (hn : 0 < M.length) : ∃ g, ao = some ⟨g, 0, none⟩ ∧ w.heap.size ≤ g ∧ g < B := by
  have hlt := h.lt
  rcases h.own.2 with ⟨h', hx⟩ | ⟨g, cap', cur, h', hb, hg, _⟩
  · have := flat_len M
    rw [hx] at this
    simp at this
    omega
  · simp only [Value.slice.injEq] at h'
    obtain ⟨rfl, _, _⟩ := h'
    exact ⟨g, rfl, hb, hlt g rfl⟩
theorem flat_set1 (L : List (Int × Int)) (k : Nat) (x : Int × Int) (y : Int) (h : L[k]? = some x) : (flat L).set (k * 2 + 1) (.int .i64 y) = flat (L.set k (x.1, y)) := by
  induction L generalizing k with
  | nil => simp at h
  | cons a r ih =>
    cases k with
    | zero =>
      simp at h
      subst h
      rfl
    | succ k =>
      have e1 : (k + 1) * 2 + 1 = k * 2 + 1 + 1 + 1 := by omega
      rw [flat_cons, e1, List.set_cons_succ, List.set_cons_succ, ih k (by simpa using h), List.set_cons_succ, flat_cons]
theorem MnB.set {w W : World} {p q x : Int × Int} {B g k cap : Nat} {M : List (Int × Int)} (h : MnB w W p q B (some ⟨g, 0, none⟩) cap M) (hx : M[k]? = some x) : MnB w (W.setCell ⟨g, k * 2 + 1, none⟩ (.int .i64 x.1)) p q B (some ⟨g, 0, none⟩) cap (M.set k (pt x.1)) := by
  have hl := h.lt g rfl
  have hg := (h.own.lt g rfl).1
  have hs := (h.own.stored (k * 2 + 1) (.int .i64 x.1)).1
  rw [flat_set1 M k x x.1 hx] at hs
  refine ⟨h.bel.setCell hg _, h.lb, ?_, ?_, ?_, ?_⟩
  · rw [heap_setCell_other _ _ _ _ (by simp; omega)]; exact h.bp
  · rw [heap_setCell_other _ _ _ _ (by simp; omega)]; exact h.bq
  · rw [List.length_set]; exact hs
  · rw [List.length_set]; exact h.lt

theorem pt_map {L : List (Int × Int)} {k : Nat} {x : Int × Int} (h : L[k]? = some x) : ((L.take k).map (fun c => pt c.1) ++ L.drop k).set k (pt x.1) = (L.take (k + 1)).map (fun c => pt c.1) ++ L.drop (k + 1) := by
  have hk := (List.getElem?_eq_some_iff.1 h).1
  rw [drop_at h, set_mid (by simp; omega), List.take_add_one, h]
  simp
theorem mapped_at {L : List (Int × Int)} {k : Nat} {x : Int × Int} (h : L[k]? = some x) : ((L.take k).map (fun c => pt c.1) ++ L.drop k)[k]? = some x := by
  have hk := (List.getElem?_eq_some_iff.1 h).1
  rw [List.getElem?_append_right (by simp; omega)]
  simp
  rw [show k - min k L.length = 0 by omega]
  simpa using h

set_option maxRecDepth 100000 in
set_option maxHeartbeats 8000000 in
theorem walk (ds : List Dr) (s t : Int) (ad : Option Addr) (cd : Nat) (w : World) (hd : DrSl w ad cd ds) :
    Calls Try.prog 9 #[.slice ad ds.length cd, .int .i64 s, .int .i64 t] w fun e w' => e = .returned (.bool true) ∧ Below w.heap.size w w' := by
  have HD := Lib.hid hd
  have HSM := Lib.hid (coefs_sml hd.wf)
  have HLN := Lib.hid (coefs_len true ds)
  clear hd
  have hs1 := Int.tmod_lt_of_pos s (b := 68719476736) (by omega)
  have hs2 := Int.tmod_lt_of_pos (-s) (b := 68719476736) (by omega)
  rw [Int.neg_tmod] at hs2
  have ht1 := Int.tmod_lt_of_pos t (b := 68719476736) (by omega)
  have ht2 := Int.tmod_lt_of_pos (-t) (b := 68719476736) (by omega)
  rw [Int.neg_tmod] at ht2
  obtain ⟨S, hS⟩ : ∃ S, s.tmod 68719476736 = S := ⟨_, rfl⟩
  obtain ⟨T, hT⟩ : ∃ T, t.tmod 68719476736 = T := ⟨_, rfl⟩
  rw [hS] at hs1 hs2
  rw [hT] at ht1 ht2
  have bs : -68719476736 < S := by omega
  have bt : -68719476736 < T := by omega
  clear hs2 ht2
  go_enter Try.func9, Try.ntmps9
  go_wp2_with fail
  refine (law8_works _).mono ?_; rintro e w1 ⟨rfl, hbel⟩
  have HB1 := Lib.hid hbel
  clear hbel
  go_wp2_with fail
  refine (ref8_Coefs_own ds true ad cd _ (HD.out.on HB1.out)).mono ?_; rintro e w2 ⟨v, rfl, hown, hbel⟩
  obtain ⟨L, hL⟩ : ∃ L, L = coefs true ds := ⟨_, rfl⟩
  rw [← hL] at hown HSM HLN
  clear hL
  obtain ⟨ao, cap, hv, _⟩ := SpSl.of_own hown (by have := HLN.out; omega)
  subst hv
  have HM : Hid (MnB w ((w2.alloc (.cells #[.int .i64 S, .int .i64 S] 24)).alloc (.cells #[.int .i64 T, .int .i64 T] 24)) (S, S) (T, T) w2.heap.size ao cap L) := Lib.hid (by
    have hb2 := below_step HB1.out hbel
    have hk := below_alloc (below_alloc (Below.refl w2.heap.size w2) (.cells #[.int .i64 S, .int .i64 S] 24)) (.cells #[.int .i64 T, .int .i64 T] 24)
    exact ⟨below_step hb2 hk, hb2.size, heap_up _ (heap_at _ rfl), heap_at _ (by simp), owns_mono (own_on hown hk) HB1.out.size, fun g hg => (hown.lt g hg).2⟩)
  clear hown hbel
  obtain ⟨n, hn⟩ : ∃ n, n = L.length := ⟨_, rfl⟩
  have HN := Lib.hid hn
  rw [← hn]
  have hn8 : n ≤ 8 := by rw [hn]; exact HLN.out
  clear hn
  go_wp2_with fail
  obtain ⟨B, hB⟩ : ∃ B, B = w2.heap.size := ⟨_, rfl⟩
  rw [← hB] at HM
  simp only [← hB]
  generalize ((w2.alloc (.cells #[.int .i64 S, .int .i64 S] 24)).alloc (.cells #[.int .i64 T, .int .i64 T] 24)) = W0 at *
  clear hB
  go_loopw [36] (fun i wr => ∃ k : Nat, k ≤ n ∧ i = .int .i64 k ∧ Hid (MnB w wr (S, S) (T, T) B ao cap ((L.take k).map (fun c => pt c.1) ++ L.drop k))) (fun i _ => n - (intOf i).toNat)
  case atStart => exact ⟨0, by omega, rfl, Lib.hid (by simpa using HM.out)⟩
  case round =>
    clear HM
    obtain ⟨k, hk, rfl, HI⟩ := hrel
    rcases Nat.lt_or_ge k n with hk' | hk'
    · obtain ⟨x, hx⟩ : ∃ x, L[k]? = some x := ⟨_, List.getElem?_eq_getElem (by rw [← HN.out]; exact hk')⟩
      have hM := mapped_at hx
      have HP := Lib.hid (pt_map hx)
      obtain ⟨g, hg, hgw, hgB⟩ := HI.out.form (by simp; rw [← HN.out]; omega)
      subst hg
      have hown := HI.out.own
      have hlen : ((L.take k).map (fun c => pt c.1) ++ L.drop k).length = n := by simp; rw [← HN.out]; omega
      obtain ⟨f1, f2⟩ := flat_at _ k x hM
      rw [Nat.mul_comm 2 k] at f1 f2
      have c0 := (hown.cellAt (k * 2) (by omega)).trans f1
      have c1 := (hown.cellAt (k * 2 + 1) (by omega)).trans f2
      have z1 := hown.frozenAt (k * 2 + 1)
      have lg := (hown.lt g rfl).2
      have HI2 := Lib.hid (HI.out.set hM)
      rw [HP.out] at HI2
      clear hx hM hown hlen f1 f2
      go_wp2_with fail
      go_roundw
      case rel => exact ⟨k + 1, by omega, by go_num, HI2⟩
      case measure => simp [intOf]; omega
    · obtain rfl : k = n := by omega
      have e : (L.take k).map (fun c => pt c.1) ++ L.drop k = (L.map Prod.fst).map pt := by
        rw [HN.out, List.take_length, List.drop_length, List.append_nil, List.map_map]
        rfl
      rw [e] at HI
      obtain ⟨A, hA⟩ : ∃ A, A = L.map Prod.fst := ⟨_, rfl⟩
      rw [← hA] at HI
      have HA8 : Hid (A.length = k) := Lib.hid (by rw [hA, HN.out]; simp)
      have HAB : Hid (∀ x ∈ A, -137438953472 ≤ x ∧ x ≤ 137438953472) := Lib.hid (by
        intro x hx
        rw [hA] at hx
        obtain ⟨c, hc, rfl⟩ := List.mem_map.1 hx
        have := HSM.out c hc
        omega)
      clear hA e
      have hS : St w wr [(B, .cells #[.int .i64 S, .int .i64 S] 24 (0, 0)), (B + 1, .cells #[.int .i64 T, .int .i64 T] 24 (0, 0))] ao cap (A.map pt) := by
        obtain ⟨ao', cap', hv, hs⟩ := SpSl.of_own HI.out.own (by rw [List.length_map, HA8.out]; omega)
        simp only [Value.slice.injEq, true_and] at hv
        obtain ⟨rfl, rfl⟩ := hv
        exact ⟨HI.out.bel, fun p hp => by simp at hp; rcases hp with rfl | rfl; exact HI.out.bp; exact HI.out.bq, hs⟩
      have hAk : (A.map pt).length = k := by rw [List.length_map]; exact HA8.out
      have HMEAN := Lib.hid (fun h1 h2 h3 h4 h5 => mean (l := A) (s := S) (t := T) (by rw [HA8.out]; exact hn8) HAB.out ⟨by omega, by omega⟩ ⟨by omega, by omega⟩ h1 h2 h3 h4 h5)
      have HE1 := Lib.hid (fun (W : World) (bs : List (Nat × Obj)) (h : St w W bs ao cap (A.map pt)) => evalS (S, S) k h hAk)
      have HE2 := Lib.hid (fun (W : World) (bs : List (Nat × Obj)) (h : St w W bs ao cap (A.map pt)) => evalS (T, T) k h hAk)
      have HE3 := Lib.hid (fun (W : World) (bs : List (Nat × Obj)) (h : St w W bs ao cap (A.map pt)) => slopeS (min S T, max S T) k h hAk)
      generalize pEval (A.map pt) (S, S) = r1 at *
      generalize pEval (A.map pt) (T, T) = r2 at *
      generalize pSlope (A.map pt) (min S T, max S T) = r3 at *
      have HE4 := Lib.hid (fun (W : World) (bs : List (Nat × Obj)) (h : St w W bs ao cap (A.map pt)) => subS r2.1 r1.1 h)
      have HE5 := Lib.hid (fun (W : World) (bs : List (Nat × Obj)) (h : St w W bs ao cap (A.map pt)) => subS (T, T) (S, S) h)
      generalize sSub r2.1 r1.1 = r4 at *
      generalize sSub (T, T) (S, S) = r5 at *
      have HE6 := Lib.hid (fun (W : World) (bs : List (Nat × Obj)) (h : St w W bs ao cap (A.map pt)) => mulS r3.1 r5.1 h)
      generalize sMul r3.1 r5.1 = r6 at *
      have HE7 := Lib.hid (fun (W : World) (bs : List (Nat × Obj)) (h : St w W bs ao cap (A.map pt)) => meetS r4.1 r6.1 h)
      generalize sMeet r4.1 r6.1 = r7 at *
      have hS := hS
      clear HI HSM HLN HAB hAk HB1 HD
      have x0 := cell_two0 (hS.blk (B, .cells #[.int .i64 S, .int .i64 S] 24 (0, 0)) (by simp))
      have y0 := cell_two1 (hS.blk (B, .cells #[.int .i64 S, .int .i64 S] 24 (0, 0)) (by simp))
      go_wp2_with fail
      refine (HE1.out _ _ hS).mono ?_; rintro e w3 ⟨rfl, hS⟩
      clear x0 y0
      have hS := hS.al (.cells #[.int .i64 r1.1.1, .int .i64 r1.1.2] 24)
      have x0 := cell_two0 (hS.blk (B + 1, .cells #[.int .i64 T, .int .i64 T] 24 (0, 0)) (by simp))
      have y0 := cell_two1 (hS.blk (B + 1, .cells #[.int .i64 T, .int .i64 T] 24 (0, 0)) (by simp))
      go_wp2_with fail
      refine (HE2.out _ _ hS).mono ?_; rintro e w4 ⟨rfl, hS⟩
      clear x0 y0
      have hS := hS.al (.cells #[.int .i64 r2.1.1, .int .i64 r2.1.2] 24)
      go_wp2_with fail
      refine (HE3.out _ _ hS).mono ?_; rintro e w5 ⟨rfl, hS⟩
      have hS := hS.al (.cells #[.int .i64 r3.1.1, .int .i64 r3.1.2] 24)
      by_cases er1 : r1.2 = 0
      · have zr1 : (r1.2 == 0) = true := by simp [er1]
        have qr1 : (r1.2 != 0) = false := by simp [er1]
        have Er1 := Lib.hid er1
        clear er1
        by_cases er2 : r2.2 = 0
        · have zr2 : (r2.2 == 0) = true := by simp [er2]
          have qr2 : (r2.2 != 0) = false := by simp [er2]
          have Er2 := Lib.hid er2
          clear er2
          by_cases er3 : r3.2 = 0
          · have zr3 : (r3.2 == 0) = true := by simp [er3]
            have qr3 : (r3.2 != 0) = false := by simp [er3]
            have Er3 := Lib.hid er3
            clear er3
            have x0 := cell_two0 (hS.blk (w4.heap.size, .cells #[.int .i64 r2.1.1, .int .i64 r2.1.2] 24 (0, 0)) (by simp))
            have y0 := cell_two1 (hS.blk (w4.heap.size, .cells #[.int .i64 r2.1.1, .int .i64 r2.1.2] 24 (0, 0)) (by simp))
            have x1 := cell_two0 (hS.blk (w3.heap.size, .cells #[.int .i64 r1.1.1, .int .i64 r1.1.2] 24 (0, 0)) (by simp))
            have y1 := cell_two1 (hS.blk (w3.heap.size, .cells #[.int .i64 r1.1.1, .int .i64 r1.1.2] 24 (0, 0)) (by simp))
            go_wp2_with fail
            refine (HE4.out _ _ hS).mono ?_; rintro e w6 ⟨rfl, hS⟩
            clear x0 y0 x1 y1
            have hS := hS.al (.cells #[.int .i64 r4.1.1, .int .i64 r4.1.2] 24)
            have x0 := cell_two0 (hS.blk (B + 1, .cells #[.int .i64 T, .int .i64 T] 24 (0, 0)) (by simp))
            have y0 := cell_two1 (hS.blk (B + 1, .cells #[.int .i64 T, .int .i64 T] 24 (0, 0)) (by simp))
            have x1 := cell_two0 (hS.blk (B, .cells #[.int .i64 S, .int .i64 S] 24 (0, 0)) (by simp))
            have y1 := cell_two1 (hS.blk (B, .cells #[.int .i64 S, .int .i64 S] 24 (0, 0)) (by simp))
            go_wp2_with fail
            refine (HE5.out _ _ hS).mono ?_; rintro e w7 ⟨rfl, hS⟩
            clear x0 y0 x1 y1
            have hS := hS.al (.cells #[.int .i64 r5.1.1, .int .i64 r5.1.2] 24)
            have x0 := cell_two0 (hS.blk (w5.heap.size, .cells #[.int .i64 r3.1.1, .int .i64 r3.1.2] 24 (0, 0)) (by simp))
            have y0 := cell_two1 (hS.blk (w5.heap.size, .cells #[.int .i64 r3.1.1, .int .i64 r3.1.2] 24 (0, 0)) (by simp))
            have x1 := cell_two0 (hS.blk (w7.heap.size, .cells #[.int .i64 r5.1.1, .int .i64 r5.1.2] 24 (0, 0)) (by simp))
            have y1 := cell_two1 (hS.blk (w7.heap.size, .cells #[.int .i64 r5.1.1, .int .i64 r5.1.2] 24 (0, 0)) (by simp))
            go_wp2_with fail
            refine (HE6.out _ _ hS).mono ?_; rintro e w8 ⟨rfl, hS⟩
            clear x0 y0 x1 y1
            have hS := hS.al (.cells #[.int .i64 r6.1.1, .int .i64 r6.1.2] 24)
            by_cases er4 : r4.2 = 0
            · have zr4 : (r4.2 == 0) = true := by simp [er4]
              have qr4 : (r4.2 != 0) = false := by simp [er4]
              have Er4 := Lib.hid er4
              clear er4
              by_cases er5 : r5.2 = 0
              · have zr5 : (r5.2 == 0) = true := by simp [er5]
                have qr5 : (r5.2 != 0) = false := by simp [er5]
                have Er5 := Lib.hid er5
                clear er5
                by_cases er6 : r6.2 = 0
                · have zr6 : (r6.2 == 0) = true := by simp [er6]
                  have qr6 : (r6.2 != 0) = false := by simp [er6]
                  have Er6 := Lib.hid er6
                  clear er6
                  have e7 : r7.2 = 0 := HMEAN.out Er1.out Er2.out Er3.out Er4.out Er6.out
                  have z7 : (r7.2 == 0) = true := by simp [e7]
                  clear e7
                  have x0 := cell_two0 (hS.blk (w6.heap.size, .cells #[.int .i64 r4.1.1, .int .i64 r4.1.2] 24 (0, 0)) (by simp))
                  have y0 := cell_two1 (hS.blk (w6.heap.size, .cells #[.int .i64 r4.1.1, .int .i64 r4.1.2] 24 (0, 0)) (by simp))
                  have x1 := cell_two0 (hS.blk (w8.heap.size, .cells #[.int .i64 r6.1.1, .int .i64 r6.1.2] 24 (0, 0)) (by simp))
                  have y1 := cell_two1 (hS.blk (w8.heap.size, .cells #[.int .i64 r6.1.1, .int .i64 r6.1.2] 24 (0, 0)) (by simp))
                  go_wp2_with fail
                  refine (HE7.out _ _ hS).mono ?_; rintro e w9 ⟨rfl, hS⟩
                  clear x0 y0 x1 y1
                  go_wp2_with fail
                  go_ret
                  exact ⟨rfl, hS.bel⟩
                · have zr6 : (r6.2 == 0) = false := by simp [er6]
                  have qr6 : (r6.2 != 0) = true := by simp [er6]
                  clear er6
                  go_wp2_with fail
                  go_ret
                  exact ⟨rfl, hS.bel⟩
              · have zr5 : (r5.2 == 0) = false := by simp [er5]
                have qr5 : (r5.2 != 0) = true := by simp [er5]
                clear er5
                go_wp2_with fail
                go_ret
                exact ⟨rfl, hS.bel⟩
            · have zr4 : (r4.2 == 0) = false := by simp [er4]
              have qr4 : (r4.2 != 0) = true := by simp [er4]
              clear er4
              go_wp2_with fail
              go_ret
              exact ⟨rfl, hS.bel⟩
          · have zr3 : (r3.2 == 0) = false := by simp [er3]
            have qr3 : (r3.2 != 0) = true := by simp [er3]
            clear er3
            go_wp2_with fail
            go_ret
            exact ⟨rfl, hS.bel⟩
        · have zr2 : (r2.2 == 0) = false := by simp [er2]
          have qr2 : (r2.2 != 0) = true := by simp [er2]
          clear er2
          go_wp2_with fail
          go_ret
          exact ⟨rfl, hS.bel⟩
      · have zr1 : (r1.2 == 0) = false := by simp [er1]
        have qr1 : (r1.2 != 0) = true := by simp [er1]
        clear er1
        go_wp2_with fail
        go_ret
        exact ⟨rfl, hS.bel⟩
end Go.Proofs.Ytgfofilkpaelnaa.polyMeans
