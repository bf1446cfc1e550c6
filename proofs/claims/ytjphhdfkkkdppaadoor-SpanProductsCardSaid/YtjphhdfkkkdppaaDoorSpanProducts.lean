/- Proved: monoclelaw02.SpanProducts returns true for every input: Mul, Sqr and Pow of package span agree with the reference. Condition: the powers of ten lie as the program's text lays them (the card ties it). -/
import Derived.Test.YtjphhdfkkkdppaaDoorLift
import Derived.Test.YtjphhdfkkkdppaaDoorOpen
import Derived.Test.YtjphhdfkkkdppaaDoorWSpanProducts
namespace Go.Proofs.YtjphhdfkkkdppaaDoor.spanProducts
open Go.ChangeShapes Go.WideShapes Go.ChangeAt Go.RowKit Mnc

theorem wf_u8 {n : Int} (h : (Lit.int .u8 n).wf = true) : 0 ≤ n ∧ n < 256 := by
  simp only [Lit.wf, Bool.and_eq_true, decide_eq_true_eq] at h
  have h : 0 ≤ n ∧ n ≤ 255 := h
  omega
theorem wf_u32 {n : Int} (h : (Lit.int .u32 n).wf = true) : 0 ≤ n ∧ n < 4294967296 := by
  simp only [Lit.wf, Bool.and_eq_true, decide_eq_true_eq] at h
  have h : 0 ≤ n ∧ n ≤ 4294967295 := h
  omega
theorem kinds_Two : kindsOf Tryd.prog 8 40 = some [.i64, .i64, .i64, .i64, .i64, .u8, .u32, .i64, .u8, .u32] := by kernel_rfl
set_option maxRecDepth 100000 in
theorem lifted (os : Os) (started : os.Started) (H : Type) (enc : TypeId × Value → H) :
    ReturnsInHanded {} Tryd.checked os 5 .any (fun w args => (Rows.spanProductsSpec.pre enc Tryd.prog Tryd.f5 [] false w args ∧ laidMetH Tryd.prog laidL w) ∧ sizedMet enc Tryd.prog Tryd.f5 (OpenSpec.ofChange Rows.spanProductsSpec) false w args)
      (Rows.spanProductsSpec.post enc Tryd.prog Tryd.f5 false true false false) := by
  refine returnsInHanded_of_change_and (C := Tryd.checked) (X := fun w _ => laidMetH Tryd.prog laidL w) (fun _ _ _ hh h => h.of_heap hh) own started (by kernel_rfl) Tryd.func5
    (ChangeSpec.witness_shaped (enc := enc) (C := Tryd.checked) (os := os) (X := fun w _ => laidMetH Tryd.prog laidL w) false (World.doorLaid Tryd.prog 400 os) #[.agg #[.int .i64 0, .int .i64 0, .int .i64 0, .int .i64 0, .int .i64 0, .int .u8 0, .int .u32 0, .int .i64 0, .int .u8 0, .int .u32 0], .int .i64 0] 8 rfl (World.shaped_of_RefB (by kernel_rfl) (by kernel_rfl)) (by kernel_rfl) (by kernel_rfl) (by kernel_rfl) (door_met os _)) ?_
  intro W base args ds gs before hval0 hW _ _ hL _
  have hval : ∀ (j : Nat) t v, Tryd.f5.params[j]? = some t → args[j]? = some v → Value.okWide Tryd.prog W .any base t v := hval0
  have hW' := hW
  obtain ⟨p, q, hA0, hV, rfl, hfz, hnd⟩ := hW
  have hA : DataW.TrodAll enc Tryd.prog W 0 (fun _ => true) true Tryd.f5.params.toList args.toList ds p := hA0
  rw [Tryd.params5] at hA hval
  obtain ⟨v0, vs0, d0, ds0, p0, q0, hargs, rfl, rfl, h0, r0⟩ := trodAll_cons hA
  obtain ⟨v1, vs1, d1, ds1, p1, q1, rfl, rfl, rfl, h1, r1⟩ := trodAll_cons r0
  obtain ⟨rfl, rfl, rfl⟩ := trodAll_nil r1
  obtain rfl : args = #[v0, v1] := by cases args; simp_all
  obtain ⟨rfl, rfl⟩ := trodVars_none hV
  obtain ⟨rfl, ⟨l0, hl0, rfl, wfs0⟩, back0⟩ := open_struct kinds_Two Tryd.underlying40 (hval 0 40 v0 rfl rfl) h0
  obtain ⟨n0_0, l0_0, rfl, hl0_0⟩ := map_cons_inv hl0
  obtain ⟨n0_1, l0_1, rfl, hl0_1⟩ := map_cons_inv hl0_0
  obtain ⟨n0_2, l0_2, rfl, hl0_2⟩ := map_cons_inv hl0_1
  obtain ⟨n0_3, l0_3, rfl, hl0_3⟩ := map_cons_inv hl0_2
  obtain ⟨n0_4, l0_4, rfl, hl0_4⟩ := map_cons_inv hl0_3
  obtain ⟨n0_5, l0_5, rfl, hl0_5⟩ := map_cons_inv hl0_4
  obtain ⟨n0_6, l0_6, rfl, hl0_6⟩ := map_cons_inv hl0_5
  obtain ⟨n0_7, l0_7, rfl, hl0_7⟩ := map_cons_inv hl0_6
  obtain ⟨n0_8, l0_8, rfl, hl0_8⟩ := map_cons_inv hl0_7
  obtain ⟨n0_9, l0_9, rfl, hl0_9⟩ := map_cons_inv hl0_8
  obtain rfl := map_nil_inv hl0_9
  obtain ⟨a1, rfl, rfl, rfl, w1⟩ := open_int Tryd.underlying3 (hval 1 3 v1 rfl rfl) h1
  clear hA0 hval0
  simp only [List.append_nil] at hW'
  refine (law2_SpanProducts ⟨(n0_0, n0_1), (n0_2, n0_3), n0_4, n0_5, n0_6, n0_7, n0_8, n0_9⟩ ⟨wf_u8 (wfs0 (.u8, n0_5) (by simp)), wf_u32 (wfs0 (.u32, n0_6) (by simp)), wf_u8 (wfs0 (.u8, n0_8) (by simp)), wf_u32 (wfs0 (.u32, n0_9) (by simp))⟩ a1 W (pows_of_laid hL)).mono fun e W' ⟨he, hg⟩ => ?_
  subst he
  exact ⟨_, rfl, post_below (pa := []) (pv := []) hW' (fun _ _ _ => (trodAll_cons_mk (shut_bool Tryd.underlying4 _) trodAll_mk0)) (fun sp _ => (trodAll_cons_mk (back0 _ _ _ _) (trodAll_cons_mk (shut_int Tryd.underlying3 w1) trodAll_mk0))) (fun _ _ => rfl) rfl
    hg (ok_one (by kernel_rfl) rfl (okWide_bool_mk Tryd.underlying4 _))⟩

theorem over : Rows.spanProductsRow.holds Tryd.pinned (OpenSpec.ofChange Rows.spanProductsSpec) :=
  OpenClaim.holds_of_wide 5 Tryd.f5 rfl rfl rfl rfl rfl rfl rfl ⟨rfl, rfl, rfl, rfl, rfl⟩ rfl rfl rfl rfl rfl (by kernel_rfl) Tryd.func5 (by kernel_rfl)
    (of_decide_eq_true (by kernel_rfl)) (by unfold Func.isWrapper; first | (rw [if_pos (by decide +kernel)]; kernel_rfl) | (rw [if_neg (by decide +kernel)]; exact ⟨rfl, rfl⟩))
    (fun os started H enc _ => lifted os started H enc)

theorem proved : Rows.SpanProductsCardSaid :=
  Claim7.holds_tied_plain_at .later [] [.data] true _ false
    over (fun _ h => by cases h) (by kernel_rfl) (fun _ h => by cases h) spanProducts_row_tie rfl ⟨rfl, rfl⟩ (by kernel_rfl) rfl
    (fun f fn hf hfn => by
      obtain rfl : f = 5 := Option.some.inj ((show Tryd.prog.funcNamed "monocle/monoclelaw02.SpanProducts" = some 5 by kernel_rfl).symm.trans hf) |>.symm
      obtain rfl : fn = Tryd.f5 := (Option.some.inj (Tryd.func5.symm.trans hfn)).symm
      exact ⟨by kernel_rfl, fun j t ht => by
        rw [Tryd.params5] at ht
        rcases j with _ | _ | j
        · obtain rfl : t = _ := by simpa using ht.symm
          kernel_rfl
        · obtain rfl : t = _ := by simpa using ht.symm
          kernel_rfl
        · simp at ht⟩)
    (by kernel_rfl)
end Go.Proofs.YtjphhdfkkkdppaaDoor.spanProducts
