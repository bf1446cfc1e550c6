/- The walk of monoclelaw08.PolyBegins. -/
import Derived.Test.YtgpaillkekhmdaaLawPW
import Derived.Test.YtgpaillkekhmdaaLawPL0
import Derived.Test.YtgpaillkekhmdaaRef8
import Derived.Test.YtgpaillkekhmdaaLawC
import Derived.Test.YtgpaillkekhmdaaLawR
import Derived.Deep.DeepCutAuto
namespace Go.Proofs.Ytgpaillkekhmdaa.polyBegins
open Go.RowKit Go.Shelf Mnc
attribute [local go_sem] RunS_value RunS_skip RunS_enter evS_tmp evS_const evS_global evS_func

structure Bg (W0 : World) (B K6 K8 : Nat) (ao : Option Addr) (cap : Nat) (M : List (Int × Int)) (n : Nat) (x : Dr) (U : Int × Int) (R : (Int × Int) × Int) (L : Nat → Bool) (s : Nat → Value) (w : World) : Prop where
  st : St W0 w [(W0.heap.size, .cells #[.int .i64 x.1, .int .u8 x.2.1, .int .u32 x.2.2] 25 (0, 0)), (K6, .cells #[.int .i64 R.1.1, .int .i64 R.1.2] 33 (0, 0)), (K8, .cells #[.int .i64 (cond (L 11) R.1.1 U.1), .int .i64 (cond (L 11) R.1.2 U.2)] 33 (0, 0))] ao cap M
  sz : B ≤ w.heap.size
  e0 : L 0 = true → s 67 = .slice ao n cap
  r1 : L 1 = true → L 4 = false → w.ownsRow B 33 2 (s 68) n (flat M)
  e2 : L 2 = true → s 69 = .agg #[.int .i64 0, .int .i64 0]
  r3 : L 3 = true → L 4 = false → ∃ g, s 70 = .slice (some ⟨g, 0, none⟩) 1 1 ∧ w.heap[g]? = some (.cells #[.int .i64 0, .int .i64 0] 33 (0, 0))
  r4 : L 4 = true → L 7 = false → w.ownsRow B 33 2 (s 71) (n + 1) (flat M ++ [.int .i64 0, .int .i64 0])
  e5 : L 5 = true → s 72 = .agg #[.int .i64 x.1, .int .u8 x.2.1, .int .u32 x.2.2]
  e6 : L 6 = true → s 73 = .agg #[.int .i64 (dSmall x.1 x.2.1 x.2.2).1, .int .i64 (dSmall x.1 x.2.1 x.2.2).2]
  e7 : L 7 = true → s 74 = .tuple #[.agg #[.int .i64 R.1.1, .int .i64 R.1.2], .int .i64 R.2]
  e8 : L 8 = true → s 66 = .tuple #[.agg #[.int .i64 R.1.1, .int .i64 R.1.2], .int .i64 R.2]
  e9 : L 9 = true → s 75 = .agg #[.int .i64 R.1.1, .int .i64 R.1.2]
  e10 : L 10 = true → s 76 = .int .i64 R.2
  e12 : L 12 = true → s 9 = .int .i64 R.2

set_option maxRecDepth 100000 in
set_option maxHeartbeats 8000000 in
theorem walk (ds : List Dr) (x : Dr) (ad : Option Addr) (cd : Nat) (w : World) (hd : DrSl w ad cd ds) (hx : x.wf) :
    Calls Try.prog 4 #[.slice ad ds.length cd, .agg #[.int .i64 x.1, .int .u8 x.2.1, .int .u32 x.2.2]] w fun e w' => e = .returned (.bool true) ∧ Below w.heap.size w w' := by
  have HD := Lib.hid hd
  have HSM := Lib.hid (coefs_sml hd.wf)
  have HOK := Lib.hid (coefs_okS (small := true) hd.wf)
  have HLN := Lib.hid (coefs_len true ds)
  have HX := Lib.hid hx
  clear hd hx
  have hb0 := below_alloc (Below.refl w.heap.size w) (.cells #[.int .i64 x.1, .int .u8 x.2.1, .int .u32 x.2.2] 25)
  have hbx := heap_at (w := w) (.cells #[.int .i64 x.1, .int .u8 x.2.1, .int .u32 x.2.2] 25) rfl
  go_enter Try.func4, Try.ntmps4
  go_wp2_with fail
  refine (law8_works _).mono ?_; rintro e w1 ⟨rfl, hbel⟩
  have HB1 := Lib.hid (below_step hb0 hbel)
  have HX1 := Lib.hid ((hbel.block _ (lt_of_block hbx)).trans hbx)
  clear hbel hb0 hbx
  go_wp2_with fail
  refine (ref8_Coefs_own ds true ad cd _ (HD.out.on HB1.out)).mono ?_; rintro e w2 ⟨v, rfl, hown, hbel⟩
  obtain ⟨Lc, hL⟩ : ∃ Lc, Lc = coefs true ds := ⟨_, rfl⟩
  rw [← hL] at hown HSM HLN HOK
  clear hL
  obtain ⟨ao, cap, hv, hs⟩ := SpSl.of_own hown (by have := HLN.out; omega)
  subst hv
  have hS : St w w2 [(w.heap.size, .cells #[.int .i64 x.1, .int .u8 x.2.1, .int .u32 x.2.2] 25 (0, 0))] ao cap Lc :=
    ⟨below_step HB1.out hbel, fun p hp => by simp at hp; subst hp; exact (hbel.block _ (lt_of_block HX1.out)).trans HX1.out, hs⟩
  have HLT := Lib.hid (fun g hg => (hown.lt g hg).2)
  clear hown hbel hs HB1 HX1 HD
  obtain ⟨n, hn⟩ : ∃ n, n = Lc.length := ⟨_, rfl⟩
  have HN := Lib.hid hn
  rw [← hn]
  have hn8 : n ≤ 8 := by rw [hn]; exact HLN.out
  clear hn
  have HE := Lib.hid (poly_Eval Lc (0, 0) ao cap w2 hS.slc)
  rw [← HN.out] at HE
  rw [pEval_at0 HLN.out HOK.out] at HE
  go_wp2_with fail
  refine HE.out.mono ?_; rintro e w3 ⟨rfl, hbel⟩
  have HBL := Lib.hid hbel.size
  have hS := hS.on hbel
  have HB3 := Lib.hid (lt_of_block (hS.blk _ (List.mem_cons_self ..)))
  clear hbel
  clear HE
  have HSL := Lib.hid (fun (W : World) (bs : List (Nat × Obj)) (h : St w W bs ao cap Lc) => slopeS (0, 0) n h HN.out.symm)
  rw [pSlope_at0 HLN.out (fun c hc => ⟨HOK.out c hc, by have := HSM.out c hc; omega, by have := HSM.out c hc; omega⟩)] at HSL
  have HLT3 := Lib.hid (show ∀ a, ao = some a → a.block < w3.heap.size from fun a ha => Nat.lt_of_lt_of_le (HLT.out a.block (by subst ha; rfl)) HBL.out)
  clear HLT HBL
  obtain ⟨V, hV⟩ : ∃ V, V = Lc.headD (0, 0) := ⟨_, rfl⟩
  obtain ⟨U, hU⟩ : ∃ U, U = Lc.tail.headD (0, 0) := ⟨_, rfl⟩
  rw [← hV]
  rw [← hU] at HSL
  have hS := hS.al (.cells #[.int .i64 V.1, .int .i64 V.2] 33)
  have HV := Lib.hid hV
  have HU := Lib.hid hU
  clear hV hU
  go_wp2_with fail
  refine (HSL.out _ _ hS).mono ?_; rintro e w4 ⟨rfl, hS⟩
  have HB4 := Lib.hid (lt_of_block (hS.blk _ (List.mem_cons_self ..)))
  clear HSL
  have hS := hS.al (.cells #[.int .i64 U.1, .int .i64 U.2] 33)
  have hS5 : St w (((w4.alloc (.cells #[.int .i64 U.1, .int .i64 U.2] 33)).alloc (.cells #[.int .i64 0, .int .i64 0] 33)).alloc (.cells #[.int .i64 0, .int .i64 0] 33)) [(w4.heap.size + 1 + 1, .cells #[.int .i64 0, .int .i64 0] 33 (0, 0)), (w4.heap.size + 1, .cells #[.int .i64 0, .int .i64 0] 33 (0, 0)), (w4.heap.size, .cells #[.int .i64 U.1, .int .i64 U.2] 33 (0, 0)), (w3.heap.size, .cells #[.int .i64 V.1, .int .i64 V.2] 33 (0, 0)), (w.heap.size, .cells #[.int .i64 x.1, .int .u8 x.2.1, .int .u32 x.2.2] 25 (0, 0))] ao cap Lc := by
    have h5 := (hS.al (.cells #[.int .i64 0, .int .i64 0] 33)).al (.cells #[.int .i64 0, .int .i64 0] 33)
    simp only [World.size_alloc] at h5
    exact h5
  have HS := Lib.hid hS5
  have HK06 := HB3
  have HK68 := HB4
  have HAK6 := HLT3
  clear hS hS5 HB3 HB4 HLT3
  go_upto_if 30 with (fail)
  generalize ((w4.alloc (.cells #[.int .i64 U.1, .int .i64 U.2] 33)).alloc (.cells #[.int .i64 0, .int .i64 0] 33)).alloc (.cells #[.int .i64 0, .int .i64 0] 33) = W5 at *
  generalize w4.heap.size = K8 at *
  generalize w3.heap.size = K6 at *
  have HAK : Hid (∀ a, ao = some a → a.block < K8) := Lib.hid (fun a ha => Nat.lt_trans (HAK6.out a ha) HK68.out)
  --M1
  go_cut [10] (fun a wx => a = .pointer (some ⟨K8 + 1, 0, none⟩) ∧ Hid (St w wx [(K8 + 1, .cells #[.int .i64 V.1, .int .i64 V.2] 33 (0, 0)), (K8 + 1 + 1, .cells #[.int .i64 0, .int .i64 0] 33 (0, 0)), (K8, .cells #[.int .i64 U.1, .int .i64 U.2] 33 (0, 0)), (K6, .cells #[.int .i64 V.1, .int .i64 V.2] 33 (0, 0)), (w.heap.size, .cells #[.int .i64 x.1, .int .u8 x.2.1, .int .u32 x.2.2] 25 (0, 0))] ao cap Lc))
  case first =>
    rcases Nat.lt_or_ge n 1 with hn1 | hn1
    · have hL0 : Lc = [] := List.eq_nil_of_length_eq_zero (by have := HN.out; omega)
      have hV0 : V = (0, 0) := by rw [HV.out, hL0]; rfl
      have HE : Hid (St w W5 [(K8 + 1, .cells #[.int .i64 V.1, .int .i64 V.2] 33 (0, 0)), (K8 + 1 + 1, .cells #[.int .i64 0, .int .i64 0] 33 (0, 0)), (K8, .cells #[.int .i64 U.1, .int .i64 U.2] 33 (0, 0)), (K6, .cells #[.int .i64 V.1, .int .i64 V.2] 33 (0, 0)), (w.heap.size, .cells #[.int .i64 x.1, .int .u8 x.2.1, .int .u32 x.2.2] 25 (0, 0))] ao cap Lc) := Lib.hid (by
        rw [hV0] at HS ⊢
        exact HS.out.sub (by simp))
      clear hL0 hV0 HS
      go_wp2_with fail
      go_meet
      exact ⟨rfl, HE⟩
    · have hV1 : Lc[0]? = some V := by
        have e := HN.out
        cases hl : Lc with
        | nil => rw [hl] at e; simp at e; omega
        | cons c r => rw [HV.out, hl]; rfl
      obtain ⟨g, off, hg⟩ : ∃ g off, ao = some ⟨g, off, none⟩ := by
        cases hao : ao with
        | none => have := (HS.out.slc.isNil hao).1; have := HN.out; omega
        | some a => exact ⟨a.block, a.off, congrArg some (HS.out.slc.isSome a hao)⟩
      subst hg
      have hg8 := HAK.out _ rfl
      obtain ⟨c0, c1⟩ := HS.out.slc.at hV1
      simp only [Nat.zero_mul, Nat.add_zero] at c0 c1
      have b := HS.out.blk (K8 + 1, .cells #[.int .i64 0, .int .i64 0] 33 (0, 0)) (by simp)
      have d0 := cell_two0 b
      have d1 := cell_two1 b
      have f0 := free_two (i := 0) b
      have f1 := free_two (i := 1) b
      have lb := lt_of_block b
      have HE := Lib.hid (St.set2 (HS.out.sub (bs' := [(K8 + 1, Obj.cells #[.int .i64 0, .int .i64 0] 33 (0, 0)), (K8 + 1 + 1, Obj.cells #[.int .i64 0, .int .i64 0] 33 (0, 0)), (K8, Obj.cells #[.int .i64 U.1, .int .i64 U.2] 33 (0, 0)), (K6, Obj.cells #[.int .i64 V.1, .int .i64 V.2] 33 (0, 0)), (w.heap.size, Obj.cells #[.int .i64 x.1, .int .u8 x.2.1, .int .u32 x.2.2] 25 (0, 0))]) (by simp)) (by have := HK06.out; have := HK68.out; omega) (by have := HK06.out; have := HK68.out; simp; omega) (fun a ha => by cases ha; simp only at hg8 ⊢; omega) 0 0 V.1 V.2 rfl)
      clear b HS hV1 hg8
      --M2
      go_wp2_with fail
      go_meet
      exact ⟨rfl, HE⟩
  case rest =>
    obtain ⟨rfl, HS⟩ := hcut
    go_upto_if 36 with (fail)
    --M3
    go_cut [11] (fun a wx => a = .pointer (some ⟨K8 + 1 + 1, 0, none⟩) ∧ Hid (St w wx [(K8 + 1, .cells #[.int .i64 V.1, .int .i64 V.2] 33 (0, 0)), (K8 + 1 + 1, .cells #[.int .i64 U.1, .int .i64 U.2] 33 (0, 0)), (K8, .cells #[.int .i64 U.1, .int .i64 U.2] 33 (0, 0)), (K6, .cells #[.int .i64 V.1, .int .i64 V.2] 33 (0, 0)), (w.heap.size, .cells #[.int .i64 x.1, .int .u8 x.2.1, .int .u32 x.2.2] 25 (0, 0))] ao cap Lc))
    case first =>
      rcases Nat.lt_or_ge n 2 with hn1 | hn1
      · have hL0 : Lc.tail = [] := List.eq_nil_of_length_eq_zero (by have := HN.out; simp; omega)
        have hV0 : U = (0, 0) := by rw [HU.out, hL0]; rfl
        have HE : Hid (St w wc [(K8 + 1, .cells #[.int .i64 V.1, .int .i64 V.2] 33 (0, 0)), (K8 + 1 + 1, .cells #[.int .i64 U.1, .int .i64 U.2] 33 (0, 0)), (K8, .cells #[.int .i64 U.1, .int .i64 U.2] 33 (0, 0)), (K6, .cells #[.int .i64 V.1, .int .i64 V.2] 33 (0, 0)), (w.heap.size, .cells #[.int .i64 x.1, .int .u8 x.2.1, .int .u32 x.2.2] 25 (0, 0))] ao cap Lc) := Lib.hid (by
          rw [hV0] at HS ⊢
          exact HS.out)
        clear hL0 hV0 HS
        go_wp2_with fail
        go_meet
        exact ⟨rfl, HE⟩
      · have hV1 : Lc[1]? = some U := by
          have e := HN.out
          cases hl : Lc with
          | nil => rw [hl] at e; simp at e; omega
          | cons c r =>
            cases hr : r with
            | nil => rw [hl, hr] at e; simp at e; omega
            | cons c2 r2 => rw [HU.out, hl, hr]; rfl
        obtain ⟨g, off, hg⟩ : ∃ g off, ao = some ⟨g, off, none⟩ := by
          cases hao : ao with
          | none => have := (HS.out.slc.isNil hao).1; have := HN.out; omega
          | some a => exact ⟨a.block, a.off, congrArg some (HS.out.slc.isSome a hao)⟩
        subst hg
        have hg8 := HAK.out _ rfl
        obtain ⟨c0, c1⟩ := HS.out.slc.at hV1
        simp only [Nat.one_mul] at c0 c1
        have b := HS.out.blk (K8 + 1 + 1, .cells #[.int .i64 0, .int .i64 0] 33 (0, 0)) (by simp)
        have d0 := cell_two0 b
        have d1 := cell_two1 b
        have f0 := free_two (i := 0) b
        have f1 := free_two (i := 1) b
        have lb := lt_of_block b
        have HE := Lib.hid ((St.set2 (HS.out.sub (bs' := [(K8 + 1 + 1, Obj.cells #[.int .i64 0, .int .i64 0] 33 (0, 0)), (K8 + 1, Obj.cells #[.int .i64 V.1, .int .i64 V.2] 33 (0, 0)), (K8, Obj.cells #[.int .i64 U.1, .int .i64 U.2] 33 (0, 0)), (K6, Obj.cells #[.int .i64 V.1, .int .i64 V.2] 33 (0, 0)), (w.heap.size, Obj.cells #[.int .i64 x.1, .int .u8 x.2.1, .int .u32 x.2.2] 25 (0, 0))]) (by simp)) (by have := HK06.out; have := HK68.out; omega) (by have := HK06.out; have := HK68.out; simp; omega) (fun a ha => by cases ha; simp only at hg8 ⊢; omega) 0 0 U.1 U.2 rfl).sub (bs' := [(K8 + 1, Obj.cells #[.int .i64 V.1, .int .i64 V.2] 33 (0, 0)), (K8 + 1 + 1, Obj.cells #[.int .i64 U.1, .int .i64 U.2] 33 (0, 0)), (K8, Obj.cells #[.int .i64 U.1, .int .i64 U.2] 33 (0, 0)), (K6, Obj.cells #[.int .i64 V.1, .int .i64 V.2] 33 (0, 0)), (w.heap.size, Obj.cells #[.int .i64 x.1, .int .u8 x.2.1, .int .u32 x.2.2] 25 (0, 0))]) (by simp))
        clear b HS hV1 hg8
        go_wp2_with fail
        go_meet
        exact ⟨rfl, HE⟩
    case rest =>
      obtain ⟨rfl, HS⟩ := hcut
      have b := HS.out.blk (K8 + 1, .cells #[.int .i64 V.1, .int .i64 V.2] 33 (0, 0)) (by simp)
      have c0 := cell_two0 b
      have c1 := cell_two1 b
      have b := HS.out.blk (K8 + 1 + 1, .cells #[.int .i64 U.1, .int .i64 U.2] 33 (0, 0)) (by simp)
      have c2 := cell_two0 b
      have c3 := cell_two1 b
      have b := HS.out.blk (K8, .cells #[.int .i64 U.1, .int .i64 U.2] 33 (0, 0)) (by simp)
      have c4 := cell_two0 b
      have c5 := cell_two1 b
      have b := HS.out.blk (K6, .cells #[.int .i64 V.1, .int .i64 V.2] 33 (0, 0)) (by simp)
      have c6 := cell_two0 b
      have c7 := cell_two1 b
      have hS := HS.out.sub (bs' := [(w.heap.size, Obj.cells #[.int .i64 x.1, .int .u8 x.2.1, .int .u32 x.2.2] 25 (0, 0)), (K6, Obj.cells #[.int .i64 V.1, .int .i64 V.2] 33 (0, 0)), (K8, Obj.cells #[.int .i64 U.1, .int .i64 U.2] 33 (0, 0))]) (by simp)
      clear b HS
      --M4
      simp only at c0 c1 c2 c3 c4 c5 c6 c7
      go_upto_region 13 with (fail)
      clear c0 c1 c2 c3 c4 c5 c6 c7
      --M5
      rcases Nat.lt_or_ge n 8 with hn1 | hn1
      · have hne : ((n : Int) == 8) = false := by
          have : (n : Int) ≠ 8 := by omega
          simpa using this
        have HN8 := Lib.hid hn1
        have d := hS.blk (w.heap.size, .cells #[.int .i64 x.1, .int .u8 x.2.1, .int .u32 x.2.2] 25 (0, 0)) (by simp)
        have d0 := cell_of_row _ _ 0 _ _ _ d
        have d1 := cell_of_row _ _ 1 _ _ _ d
        have d2 := cell_of_row _ _ 2 _ _ _ d
        clear d hn1
        go_wp2_with fail
        refine (draft_Small x.1 x.2.1 x.2.2 HX.out.1 HX.out.2 _).mono ?_; rintro e w5 ⟨rfl, hbel⟩
        have hS := hS.on hbel
        clear hbel d0 d1 d2
        have HE := Lib.hid (evalS (dSmall x.1 x.2.1 x.2.2) n hS HN.out.symm)
        have HM := Lib.hid (fun (hn : n < 8) hs => pEval_more (s := dSmall x.1 x.2.1 x.2.2) hs (by rw [← HN.out]; exact hn) HOK.out)
        obtain ⟨R, hR⟩ : ∃ R, pEval Lc (dSmall x.1 x.2.1 x.2.2) = R := ⟨_, rfl⟩
        rw [hR] at HE HM
        clear hR
        go_wp2_with fail
        refine HE.out.mono ?_; rintro e w6 ⟨rfl, hS⟩
        clear HE
        have b6 := hS.blk (K6, .cells #[.int .i64 V.1, .int .i64 V.2] 33 (0, 0)) (by simp)
        have f0 := free_two (i := 0) b6
        have f1 := free_two (i := 1) b6
        have c0 := cell_two0 b6
        have c1 := cell_two1 b6
        have l6 := lt_of_block b6
        have l8 := lt_of_block (hS.blk (K8, .cells #[.int .i64 U.1, .int .i64 U.2] 33 (0, 0)) (by simp))
        have HS8 := Lib.hid ((St.set2 (hS.sub (bs' := [(K6, Obj.cells #[.int .i64 V.1, .int .i64 V.2] 33 (0, 0)), (w.heap.size, Obj.cells #[.int .i64 x.1, .int .u8 x.2.1, .int .u32 x.2.2] 25 (0, 0)), (K8, Obj.cells #[.int .i64 U.1, .int .i64 U.2] 33 (0, 0))]) (by simp)) (Nat.le_of_lt HK06.out) (by have := HK06.out; have := HK68.out; simp; omega) (fun a ha => by have := HAK6.out a ha; omega) V.1 V.2 R.1.1 R.1.2 rfl).sub (bs' := [(w.heap.size, Obj.cells #[.int .i64 x.1, .int .u8 x.2.1, .int .u32 x.2.2] 25 (0, 0)), (K6, Obj.cells #[.int .i64 R.1.1, .int .i64 R.1.2] 33 (0, 0)), (K8, Obj.cells #[.int .i64 U.1, .int .i64 U.2] 33 (0, 0))]) (by simp))
        clear b6 hS
        go_upto_region 16 with (fail)
        clear f0 f1 c0 c1
        have HCL := Lib.hid (fun W h => clone_any Lc ao cap W h (by have := HLN.out; omega))
        rw [← HN.out] at HCL
        have hRm := HM.out HN8.out (dSmall_sml _ _ _ HX.out.2).1
        have HEV := Lib.hid (fun (W : World) ao2 cap2 (h : SpSl W ao2 cap2 (Lc ++ [(0, 0)])) => poly_Eval (Lc ++ [(0, 0)]) (dSmall x.1 x.2.1 x.2.2) ao2 cap2 W h)
        rw [hRm, show (Lc ++ [((0 : Int), (0 : Int))]).length = n + 1 by simp [HN.out]] at HEV
        clear hRm HM
        obtain ⟨B, hB⟩ : ∃ B, B = w6.heap.size := ⟨_, rfl⟩
        rw [← hB] at l6 l8
        have HSZ : Hid (B ≤ ((w6.setCell ⟨K6, 0, none⟩ (.int .i64 R.1.1)).setCell ⟨K6, 1, none⟩ (.int .i64 R.1.2)).drew.heap.size) := Lib.hid (by simp; omega)
        have HBW : Hid (w.heap.size ≤ B) := Lib.hid (by have := HK06.out; omega)
        have HBB : Hid (∀ (y z : Int), ∀ p ∈ [(w.heap.size, Obj.cells #[.int .i64 x.1, .int .u8 x.2.1, .int .u32 x.2.2] 25 (0, 0)), (K6, Obj.cells #[.int .i64 R.1.1, .int .i64 R.1.2] 33 (0, 0)), (K8, Obj.cells #[.int .i64 y, .int .i64 z] 33 (0, 0))], p.1 < B) := Lib.hid (fun y z => by have := HK06.out; have := HK68.out; simp; omega)
        have HBA : Hid (∀ a, ao = some a → a.block < B) := Lib.hid (fun a ha => by have := HAK6.out a ha; omega)
        have HAK8 : Hid (∀ a, ao = some a → a.block ≠ K8) := Lib.hid (fun a ha => by have := HAK.out a ha; omega)
        have HF : Hid (∀ (X : World) (v : Value), X.ownsRow B 33 2 v (n + 1) (flat Lc ++ [.int .i64 0, .int .i64 0]) → ∃ ao2 cap2, v = .slice ao2 (n + 1) cap2 ∧ SpSl X ao2 cap2 (Lc ++ [(0, 0)])) := Lib.hid (fun X v h => by
          have e : (Lc ++ [((0 : Int), (0 : Int))]).length = n + 1 := by simp [HN.out]
          have := SpSl.of_own (W := X) (base := B) (v := v) (l := Lc ++ [(0, 0)]) (by rw [e]; simpa [flat] using h) (by omega)
          rw [e] at this
          exact this)
        clear hB l6 l8
        obtain ⟨i0, hi, hz0, hz1, hz2⟩ := info_parts spanInfo
        generalize ((w6.setCell ⟨K6, 0, none⟩ (.int .i64 R.1.1)).setCell ⟨K6, 1, none⟩ (.int .i64 R.1.2)) = w7 at *
        --M6
        go_cut [9] (fun v wx => v = .int .i64 R.2 ∧ Hid (St w wx [(w.heap.size, .cells #[.int .i64 x.1, .int .u8 x.2.1, .int .u32 x.2.2] 25 (0, 0)), (K6, .cells #[.int .i64 R.1.1, .int .i64 R.1.2] 33 (0, 0)), (K8, .cells #[.int .i64 R.1.1, .int .i64 R.1.2] 33 (0, 0))] ao cap Lc))
        case first =>
          refine wp_region_inv (Bg w B K6 K8 ao cap Lc n x U R) (by kernel_rfl) (by kernel_rfl) ?_ ?_ ?_
          · exact ⟨HS8.out.drew, HSZ.out, fun h => absurd h Bool.false_ne_true, fun h => absurd h Bool.false_ne_true, fun h => absurd h Bool.false_ne_true, fun h => absurd h Bool.false_ne_true, fun h => absurd h Bool.false_ne_true, fun h => absurd h Bool.false_ne_true, fun h => absurd h Bool.false_ne_true, fun h => absurd h Bool.false_ne_true, fun h => absurd h Bool.false_ne_true, fun h => absurd h Bool.false_ne_true, fun h => absurd h Bool.false_ne_true, fun h => absurd h Bool.false_ne_true⟩
          · refine AllS.consN 1 (some 67) rfl rfl ?_ (AllS.consN 2 (some 68) rfl rfl ?_ (AllS.consN 3 (some 69) rfl rfl ?_ (AllS.consN 4 (some 70) rfl rfl ?_ (AllS.consN 5 (some 71) rfl rfl ?_ (AllS.consN 6 (some 72) rfl rfl ?_ (AllS.consN 7 (some 73) rfl rfl ?_ (AllS.consN 8 (some 74) rfl rfl ?_ (AllS.consN 9 (some 66) rfl rfl ?_ (AllS.consN 10 (some 75) rfl rfl ?_ (AllS.consN 11 (some 76) rfl rfl ?_ (AllS.consN 12 none rfl rfl ?_ (AllS.consN 13 (some 9) rfl rfl ?_ AllS.nil))))))))))))
            · intro L s w2 h hk hd hn
              have s5 : s 5 = _ := hk 5 (by kernel_rfl)
              refine stepS rfl fun K hK => ?_
              go_simp
              exact hK _ _ { h with e0 := fun _ => rfl }
            · intro L s w2 h hk hd hn
              have s67 := h.e0 hd.1
              refine stepS rfl fun K hK => ?_
              go_simp
              refine (HCL.out _ h.st.slc).mono ?_
              rintro e w3 ⟨v', rfl, hown, hb⟩
              exact ⟨_, rfl, hK _ _ { h with st := h.st.on hb, sz := Nat.le_trans h.sz hb.size, r3 := fun a b => let ⟨g, h1, h2⟩ := h.r3 a b; ⟨g, h1, (hb.block _ (lt_of_block h2)).trans h2⟩, r4 := fun a b => own_on (h.r4 a b) hb, r1 := fun _ _ => owns_mono hown h.sz }⟩
            · intro L s w2 h hk hd hn
              refine stepS rfl fun K hK => ?_
              go_simp
              exact hK _ _ { h with e2 := fun _ => rfl }
            · intro L s w2 h hk hd hn
              have s69 := h.e2 hd.1
              refine stepS rfl fun K hK => ?_
              go_simp
              have hb := below_alloc (Below.refl w2.heap.size w2) (.cells #[.int .i64 0, .int .i64 0] 33)
              exact hK _ _ { h with st := h.st.on hb, sz := Nat.le_trans h.sz hb.size, r1 := fun a b => own_on (h.r1 a b) hb, r4 := fun a b => own_on (h.r4 a b) hb, r3 := fun _ _ => ⟨_, rfl, heap_at _ rfl⟩ }
            · intro L s w2 h hk hd hn
              obtain ⟨g, s70, hg⟩ := h.r3 hd.2.1 hn
              refine stepS_append _ _ 30 rfl rfl B 33 i0 (.agg #[.int .i64 0, .int .i64 0]) 2 16 Try.underlying30 hi hz0 hz1 hz2 rfl (by decide) _ n (flat Lc) rfl (h.r1 hd.1 hn) ⟨g, 0, none⟩ 1 1 [.int .i64 0, .int .i64 0] s70 rfl (row_two hg) (by simp [Value.oneCell']) (by unfold maxLen; omega) (by omega) h.sz ?_
              intro v' w3 hown hgrow _
              exact { h with st := h.st.grown hgrow HBW.out (by intro k hk; exact ((h.r1 hd.1 hn).lt k hk).1) (HBB.out _ _) HBA.out, sz := Nat.le_trans h.sz hgrow.size, r1 := fun _ a => absurd a.symm Bool.false_ne_true, r3 := fun _ a => absurd a.symm Bool.false_ne_true, r4 := fun _ _ => hown }
            · intro L s w2 h hk hd hn
              have s3 : s 3 = _ := hk 3 (by kernel_rfl)
              have d := h.st.blk _ (List.mem_cons_self ..)
              have d0 := cell_of_row _ _ 0 _ _ _ d
              have d1 := cell_of_row _ _ 1 _ _ _ d
              have d2 := cell_of_row _ _ 2 _ _ _ d
              refine stepS rfl fun K hK => ?_
              go_simp
              exact hK _ _ { h with e5 := fun _ => rfl }
            · intro L s w2 h hk hd hn
              have s72 := h.e5 hd.1
              refine stepS rfl fun K hK => ?_
              go_simp
              refine (draft_Small x.1 x.2.1 x.2.2 HX.out.1 HX.out.2 _).mono ?_
              rintro e w3 ⟨rfl, hb⟩
              exact ⟨_, rfl, hK _ _ { h with st := h.st.on hb, sz := Nat.le_trans h.sz hb.size, r1 := fun a b => own_on (h.r1 a b) hb, r3 := fun a b => let ⟨g, h1, h2⟩ := h.r3 a b; ⟨g, h1, (hb.block _ (lt_of_block h2)).trans h2⟩, r4 := fun a b => own_on (h.r4 a b) hb, e6 := fun _ => rfl }⟩
            · intro L s w2 h hk hd hn
              obtain ⟨ao2, cap2, s71, hS2⟩ := HF.out _ _ (h.r4 hd.1 hn)
              have s73 := h.e6 hd.2.1
              refine stepS rfl fun K hK => ?_
              go_simp
              refine (HEV.out _ _ _ hS2).mono ?_
              rintro e w3 ⟨rfl, hb⟩
              exact ⟨_, rfl, hK _ _ { h with st := h.st.on hb, sz := Nat.le_trans h.sz hb.size, r1 := fun a b => own_on (h.r1 a b) hb, r3 := fun a b => let ⟨g, h1, h2⟩ := h.r3 a b; ⟨g, h1, (hb.block _ (lt_of_block h2)).trans h2⟩, r4 := fun _ a => absurd a.symm Bool.false_ne_true, e7 := fun _ => rfl }⟩
            · intro L s w2 h hk hd hn
              have s74 := h.e7 hd.1
              refine stepS rfl fun K hK => ?_
              go_simp
              exact hK _ _ { h with e8 := fun _ => rfl }
            · intro L s w2 h hk hd hn
              have s66 := h.e8 hd.1
              refine stepS rfl fun K hK => ?_
              go_simp
              exact hK _ _ { h with e9 := fun _ => rfl }
            · intro L s w2 h hk hd hn
              have s66 := h.e8 hd.1
              refine stepS rfl fun K hK => ?_
              go_simp
              exact hK _ _ { h with e10 := fun _ => rfl }
            · intro L s w2 h hk hd hn
              have s8 : s 8 = _ := hk 8 (by kernel_rfl)
              have s75 := h.e9 hd.1
              have hst := h.st
              rw [hn] at hst
              simp only [cond_false] at hst
              have b8 := hst.blk _ (List.mem_cons_of_mem _ (List.mem_cons_of_mem _ (List.mem_cons_self ..)))
              have f0 := free_two (i := 0) b8
              have f1 := free_two (i := 1) b8
              have q0 := cell_two0 b8
              have q1 := cell_two1 b8
              have l8 := lt_of_block b8
              have hst2 := St.set2 (hst.sub (bs' := [(K8, Obj.cells #[.int .i64 U.1, .int .i64 U.2] 33 (0, 0)), (w.heap.size, Obj.cells #[.int .i64 x.1, .int .u8 x.2.1, .int .u32 x.2.2] 25 (0, 0)), (K6, Obj.cells #[.int .i64 R.1.1, .int .i64 R.1.2] 33 (0, 0))]) (by simp)) (Nat.le_of_lt (Nat.lt_trans HK06.out HK68.out)) (by have := HK06.out; have := HK68.out; simp; omega) HAK8.out U.1 U.2 R.1.1 R.1.2 rfl
              have hst3 := hst2.sub (bs' := [(w.heap.size, Obj.cells #[.int .i64 x.1, .int .u8 x.2.1, .int .u32 x.2.2] 25 (0, 0)), (K6, Obj.cells #[.int .i64 R.1.1, .int .i64 R.1.2] 33 (0, 0)), (K8, Obj.cells #[.int .i64 R.1.1, .int .i64 R.1.2] 33 (0, 0))]) (by simp)
              clear hst hst2 b8
              refine stepS rfl fun K hK => ?_
              go_simp
              exact hK _ _ { h with st := hst3, sz := by simpa using h.sz, r1 := fun _ a => absurd (a.symm.trans (hd.2.2.2.2.2.2.1)) Bool.false_ne_true, r3 := fun _ a => absurd (a.symm.trans (hd.2.2.2.2.2.2.1)) Bool.false_ne_true, r4 := fun _ a => absurd (a.symm.trans (hd.2.1)) Bool.false_ne_true }
            · intro L s w2 h hk hd hn
              have s76 := h.e10 hd.1
              refine stepS rfl fun K hK => ?_
              go_simp
              exact hK _ _ { h with e12 := fun _ => rfl }
          · intro L s w2 h hk hl
            rename_i J K' hR hM
            refine hM _ _ (Met.intro (hR _ _ ?_))
            repeat apply Exists.intro
            refine ⟨⟨h.e12 (hl 12 (by decide)), Lib.hid (by have hst := h.st; rw [hl 11 (by decide)] at hst; exact hst)⟩, ?_⟩
            refine congrArg (fun l => (⟨List.toArray l, []⟩ : Act)) ?_
            show [s 0, s 1, s 2, s 3, s 4, s 5, s 6, s 7, s 8, s 9, s 10, s 11, s 12, s 13, s 14, s 15, s 16, s 17, s 18, s 19, s 20, s 21, s 22, s 23, s 24, s 25, s 26, s 27, s 28, s 29, s 30, s 31, s 32, s 33, s 34, s 35, s 36, s 37, s 38, s 39, s 40, s 41, s 42, s 43, s 44, s 45, s 46, s 47, s 48, s 49, s 50, s 51, s 52, s 53, s 54, s 55, s 56, s 57, s 58, s 59, s 60, s 61, s 62, s 63, s 64, s 65, s 66, s 67, s 68, s 69, s 70, s 71, s 72, s 73, s 74, s 75, s 76, s 77, s 78, s 79, s 80, s 81, s 82, s 83, s 84] = _
            exact lc (hk 0 (by kernel_rfl)) (lc (hk 1 (by kernel_rfl)) (lc (hk 2 (by kernel_rfl)) (lc (hk 3 (by kernel_rfl)) (lc (hk 4 (by kernel_rfl)) (lc (hk 5 (by kernel_rfl)) (lc (hk 6 (by kernel_rfl)) (lc (hk 7 (by kernel_rfl)) (lc (hk 8 (by kernel_rfl)) (lc rfl (lc (hk 10 (by kernel_rfl)) (lc (hk 11 (by kernel_rfl)) (lc (hk 12 (by kernel_rfl)) (lc (hk 13 (by kernel_rfl)) (lc (hk 14 (by kernel_rfl)) (lc (hk 15 (by kernel_rfl)) (lc (hk 16 (by kernel_rfl)) (lc (hk 17 (by kernel_rfl)) (lc (hk 18 (by kernel_rfl)) (lc (hk 19 (by kernel_rfl)) (lc (hk 20 (by kernel_rfl)) (lc (hk 21 (by kernel_rfl)) (lc (hk 22 (by kernel_rfl)) (lc (hk 23 (by kernel_rfl)) (lc (hk 24 (by kernel_rfl)) (lc (hk 25 (by kernel_rfl)) (lc (hk 26 (by kernel_rfl)) (lc (hk 27 (by kernel_rfl)) (lc (hk 28 (by kernel_rfl)) (lc (hk 29 (by kernel_rfl)) (lc (hk 30 (by kernel_rfl)) (lc (hk 31 (by kernel_rfl)) (lc (hk 32 (by kernel_rfl)) (lc (hk 33 (by kernel_rfl)) (lc (hk 34 (by kernel_rfl)) (lc (hk 35 (by kernel_rfl)) (lc (hk 36 (by kernel_rfl)) (lc (hk 37 (by kernel_rfl)) (lc (hk 38 (by kernel_rfl)) (lc (hk 39 (by kernel_rfl)) (lc (hk 40 (by kernel_rfl)) (lc (hk 41 (by kernel_rfl)) (lc (hk 42 (by kernel_rfl)) (lc (hk 43 (by kernel_rfl)) (lc (hk 44 (by kernel_rfl)) (lc (hk 45 (by kernel_rfl)) (lc (hk 46 (by kernel_rfl)) (lc (hk 47 (by kernel_rfl)) (lc (hk 48 (by kernel_rfl)) (lc (hk 49 (by kernel_rfl)) (lc (hk 50 (by kernel_rfl)) (lc (hk 51 (by kernel_rfl)) (lc (hk 52 (by kernel_rfl)) (lc (hk 53 (by kernel_rfl)) (lc (hk 54 (by kernel_rfl)) (lc (hk 55 (by kernel_rfl)) (lc (hk 56 (by kernel_rfl)) (lc (hk 57 (by kernel_rfl)) (lc (hk 58 (by kernel_rfl)) (lc (hk 59 (by kernel_rfl)) (lc (hk 60 (by kernel_rfl)) (lc (hk 61 (by kernel_rfl)) (lc (hk 62 (by kernel_rfl)) (lc (hk 63 (by kernel_rfl)) (lc (hk 64 (by kernel_rfl)) (lc (hk 65 (by kernel_rfl)) (lc rfl (lc rfl (lc rfl (lc rfl (lc rfl (lc rfl (lc rfl (lc rfl (lc rfl (lc rfl (lc rfl (lc (hk 77 (by kernel_rfl)) (lc (hk 78 (by kernel_rfl)) (lc (hk 79 (by kernel_rfl)) (lc (hk 80 (by kernel_rfl)) (lc (hk 81 (by kernel_rfl)) (lc (hk 82 (by kernel_rfl)) (lc (hk 83 (by kernel_rfl)) (lc (hk 84 (by kernel_rfl)) rfl))))))))))))))))))))))))))))))))))))))))))))))))))))))))))))))))))))))))))))))))))))

        case rest =>
          obtain ⟨rfl, HS⟩ := hcut
          have b := HS.out.blk (K6, .cells #[.int .i64 R.1.1, .int .i64 R.1.2] 33 (0, 0)) (by simp)
          have c0 := cell_two0 b
          have c1 := cell_two1 b
          have b := HS.out.blk (K8, .cells #[.int .i64 R.1.1, .int .i64 R.1.2] 33 (0, 0)) (by simp)
          have c2 := cell_two0 b
          have c3 := cell_two1 b
          have HB := Lib.hid HS.out.bel
          clear b HS
          --M7
          go_wp2_with fail
          go_ret
          exact ⟨rfl, HB.out⟩
      · have hne : ((n : Int) == 8) = true := by
          have : (n : Int) = 8 := by omega
          simpa using this
        have HB := Lib.hid hS.bel
        clear hS hn1
        go_wp2_with fail
        go_ret
        exact ⟨rfl, HB.out⟩
end Go.Proofs.Ytgpaillkekhmdaa.polyBegins
