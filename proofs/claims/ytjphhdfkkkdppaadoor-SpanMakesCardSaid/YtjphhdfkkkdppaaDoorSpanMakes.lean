/- Proved: monoclelaw02.SpanMakes returns true for every input: Check, Of, Point and Dec of package span agree with the reference. Condition: the powers of ten lie as the program's text lays them (the card ties it). -/
import Derived.Test.YtjphhdfkkkdppaaDoorLift
import Derived.Test.YtjphhdfkkkdppaaDoorOpen
import Derived.Test.YtjphhdfkkkdppaaDoorWSpanMakes
namespace Go.Proofs.YtjphhdfkkkdppaaDoor.spanMakes
open Go.ChangeShapes Go.WideShapes Go.ChangeAt Go.RowKit Mnc

theorem wf_u8 {n : Int} (h : (Lit.int .u8 n).wf = true) : 0 ≤ n ∧ n < 256 := by
  simp only [Lit.wf, Bool.and_eq_true, decide_eq_true_eq] at h
  have h : 0 ≤ n ∧ n ≤ 255 := h
  omega
theorem wf_u32 {n : Int} (h : (Lit.int .u32 n).wf = true) : 0 ≤ n ∧ n < 4294967296 := by
  simp only [Lit.wf, Bool.and_eq_true, decide_eq_true_eq] at h
  have h : 0 ≤ n ∧ n ≤ 4294967295 := h
  omega
theorem kinds_Span : kindsOf Tryd.prog 8 23 = some [.i64, .i64] := by kernel_rfl
theorem kinds_Draft : kindsOf Tryd.prog 8 26 = some [.i64, .u8, .u32] := by kernel_rfl
set_option maxRecDepth 100000 in
theorem lifted (os : Os) (started : os.Started) (H : Type) (enc : TypeId × Value → H) :
    ReturnsInHanded {} Tryd.checked os 3 .any (fun w args => (Rows.spanMakesSpec.pre enc Tryd.prog Tryd.f3 [] false w args ∧ laidMetH Tryd.prog laidL w) ∧ sizedMet enc Tryd.prog Tryd.f3 (OpenSpec.ofChange Rows.spanMakesSpec) false w args)
      (Rows.spanMakesSpec.post enc Tryd.prog Tryd.f3 false true false false) := by
  refine returnsInHanded_of_change_and (C := Tryd.checked) (X := fun w _ => laidMetH Tryd.prog laidL w) (fun _ _ _ hh h => h.of_heap hh) own started (by kernel_rfl) Tryd.func3
    (ChangeSpec.witness_shaped (enc := enc) (C := Tryd.checked) (os := os) (X := fun w _ => laidMetH Tryd.prog laidL w) false (World.doorLaid Tryd.prog 400 os) #[.agg #[.int .i64 0, .int .i64 0], .int .i64 0, .int .i64 0, .agg #[.int .i64 0, .int .u8 0, .int .u32 0]] 8 rfl (World.shaped_of_RefB (by kernel_rfl) (by kernel_rfl)) (by kernel_rfl) (by kernel_rfl) (by kernel_rfl) (door_met os _)) ?_
  intro W base args ds gs before hval0 hW _ _ hL _
  have hval : ∀ (j : Nat) t v, Tryd.f3.params[j]? = some t → args[j]? = some v → Value.okWide Tryd.prog W .any base t v := hval0
  have hW' := hW
  obtain ⟨p, q, hA0, hV, rfl, hfz, hnd⟩ := hW
  have hA : DataW.TrodAll enc Tryd.prog W 0 (fun _ => true) true Tryd.f3.params.toList args.toList ds p := hA0
  rw [Tryd.params3] at hA hval
  obtain ⟨v0, vs0, d0, ds0, p0, q0, hargs, rfl, rfl, h0, r0⟩ := trodAll_cons hA
  obtain ⟨v1, vs1, d1, ds1, p1, q1, rfl, rfl, rfl, h1, r1⟩ := trodAll_cons r0
  obtain ⟨v2, vs2, d2, ds2, p2, q2, rfl, rfl, rfl, h2, r2⟩ := trodAll_cons r1
  obtain ⟨v3, vs3, d3, ds3, p3, q3, rfl, rfl, rfl, h3, r3⟩ := trodAll_cons r2
  obtain ⟨rfl, rfl, rfl⟩ := trodAll_nil r3
  obtain rfl : args = #[v0, v1, v2, v3] := by cases args; simp_all
  obtain ⟨rfl, rfl⟩ := trodVars_none hV
  obtain ⟨rfl, ⟨l0, hl0, rfl, wfs0⟩, back0⟩ := open_struct kinds_Span Tryd.underlying23 (hval 0 23 v0 rfl rfl) h0
  obtain ⟨n0_0, l0_0, rfl, hl0_0⟩ := map_cons_inv hl0
  obtain ⟨n0_1, l0_1, rfl, hl0_1⟩ := map_cons_inv hl0_0
  obtain rfl := map_nil_inv hl0_1
  obtain ⟨a1, rfl, rfl, rfl, w1⟩ := open_int Tryd.underlying3 (hval 1 3 v1 rfl rfl) h1
  obtain ⟨a2, rfl, rfl, rfl, w2⟩ := open_int Tryd.underlying3 (hval 2 3 v2 rfl rfl) h2
  obtain ⟨rfl, ⟨l3, hl3, rfl, wfs3⟩, back3⟩ := open_struct kinds_Draft Tryd.underlying26 (hval 3 26 v3 rfl rfl) h3
  obtain ⟨n3_0, l3_0, rfl, hl3_0⟩ := map_cons_inv hl3
  obtain ⟨n3_1, l3_1, rfl, hl3_1⟩ := map_cons_inv hl3_0
  obtain ⟨n3_2, l3_2, rfl, hl3_2⟩ := map_cons_inv hl3_1
  obtain rfl := map_nil_inv hl3_2
  clear hA0 hval0
  simp only [List.append_nil] at hW'
  refine (law2_SpanMakes (n0_0, n0_1) a1 a2 (wf_i64 w1) n3_0 n3_1 n3_2 ⟨wf_u8 (wfs3 (.u8, n3_1) (by simp)), wf_u32 (wfs3 (.u32, n3_2) (by simp))⟩ W (pows_of_laid hL)).mono fun e W' ⟨he, hg⟩ => ?_
  subst he
  exact ⟨_, rfl, post_below (pa := []) (pv := []) hW' (fun _ _ _ => (trodAll_cons_mk (shut_bool Tryd.underlying4 _) trodAll_mk0)) (fun sp _ => (trodAll_cons_mk (back0 _ _ _ _) (trodAll_cons_mk (shut_int Tryd.underlying3 w1) (trodAll_cons_mk (shut_int Tryd.underlying3 w2) (trodAll_cons_mk (back3 _ _ _ _) trodAll_mk0))))) (fun _ _ => rfl) rfl
    hg (ok_one (by kernel_rfl) rfl (okWide_bool_mk Tryd.underlying4 _))⟩

theorem over : Rows.spanMakesRow.holds Tryd.pinned (OpenSpec.ofChange Rows.spanMakesSpec) :=
  OpenClaim.holds_of_wide 3 Tryd.f3 rfl rfl rfl rfl rfl rfl rfl ⟨rfl, rfl, rfl, rfl, rfl⟩ rfl rfl rfl rfl rfl (by kernel_rfl) Tryd.func3 (by kernel_rfl)
    (of_decide_eq_true (by kernel_rfl)) (by unfold Func.isWrapper; first | (rw [if_pos (by decide +kernel)]; kernel_rfl) | (rw [if_neg (by decide +kernel)]; exact ⟨rfl, rfl⟩))
    (fun os started H enc _ => lifted os started H enc)

theorem proved : Rows.SpanMakesCardSaid :=
  Claim7.holds_tied_plain_at .later [] [.data] true _ false
    over (fun _ h => by cases h) (by kernel_rfl) (fun _ h => by cases h) spanMakes_row_tie rfl ⟨rfl, rfl⟩ (by kernel_rfl) rfl
    (fun f fn hf hfn => by
      obtain rfl : f = 3 := Option.some.inj ((show Tryd.prog.funcNamed "monocle/monoclelaw02.SpanMakes" = some 3 by kernel_rfl).symm.trans hf) |>.symm
      obtain rfl : fn = Tryd.f3 := (Option.some.inj (Tryd.func3.symm.trans hfn)).symm
      exact ⟨by kernel_rfl, fun j t ht => by
        rw [Tryd.params3] at ht
        rcases j with _ | _ | _ | _ | j
        · obtain rfl : t = _ := by simpa using ht.symm
          kernel_rfl
        · obtain rfl : t = _ := by simpa using ht.symm
          kernel_rfl
        · obtain rfl : t = _ := by simpa using ht.symm
          kernel_rfl
        · obtain rfl : t = _ := by simpa using ht.symm
          kernel_rfl
        · simp at ht⟩)
    (by kernel_rfl)
end Go.Proofs.YtjphhdfkkkdppaaDoor.spanMakes
