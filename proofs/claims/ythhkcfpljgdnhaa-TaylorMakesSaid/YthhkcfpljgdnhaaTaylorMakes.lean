/- Proved: monoclelaw21.TaylorMakes returns true for every input: Check, Place, Const, U and V equal the reference: for drafted models, such with a change, and any numbers and intervals. No condition. -/
import Derived.Test.YthhkcfpljgdnhaaLiftT
import Derived.Test.YthhkcfpljgdnhaaWTayMakes
namespace Go.Proofs.Ythhkcfpljgdnhaa.taylorMakes
open Go.ChangeShapes Go.WideShapes Go.ChangeAt Go.RowKit Mnc

theorem okParams : (Try.f4.params.toList.all fun t => Try.prog.readableRec t && decide (t < Try.prog.types.size)) = true := by kernel_rfl

set_option maxRecDepth 100000 in
theorem lifted (os : Os) (started : os.Started) (H : Type) (enc : TypeId × Value → H) :
    ReturnsInHanded {} Try.checked os 4 .any (Rows.taylorMakesSpec.pre6 enc Try.prog Try.f4 Rows.taylorMakesRow.domain false) (Rows.taylorMakesSpec.post enc Try.prog Try.f4 false true false false) := by
  refine returnsInHanded_of_change (C := Try.checked) own started (by kernel_rfl) Try.func4
    (ChangeSpec.witness6 (enc := enc) (C := Try.checked) false ⟨#[], #[.int .i64 0, .int .i64 0, .agg #[.int .i64 0, .int .i64 0], .agg #[.int .i16 0, .slice none 0 0, .int .u16 0], .agg #[.int .u8 0, .int .i64 0, .int .i64 0], .agg #[.int .u8 0, .int .u8 0]], []⟩ 8 (by kernel_rfl) (by kernel_rfl) (by kernel_rfl) (by kernel_rfl)) ?_
  intro W base args ds gs before hval0 hW hcnd _
  have hval : ∀ (j : Nat) t v, Try.f4.params[j]? = some t → args[j]? = some v → Value.okWide Try.prog W .any base t v := hval0
  have hW' := hW
  obtain ⟨p, q, hA0, hV, rfl, hfz, hnd⟩ := hW
  have hA : DataW.TrodAll enc Try.prog W 0 (fun _ => true) true Try.f4.params.toList args.toList ds p := hA0
  have hAk := hA
  have hlt : ∀ x ∈ p, x.block < W.heap.size := fun x hx => hW'.lt x (by simp [hx])
  rw [Try.params4] at hA hval
  obtain ⟨v0, vs0, d0, ds0, p0, q0, hargs, rfl, rfl, h0, r0⟩ := trodAll_cons hA
  obtain ⟨v1, vs1, d1, ds1, p1, q1, rfl, rfl, rfl, h1, r1⟩ := trodAll_cons r0
  obtain ⟨v2, vs2, d2, ds2, p2, q2, rfl, rfl, rfl, h2, r2⟩ := trodAll_cons r1
  obtain ⟨v3, vs3, d3, ds3, p3, q3, rfl, rfl, rfl, h3, r3⟩ := trodAll_cons r2
  obtain ⟨v4, vs4, d4, ds4, p4, q4, rfl, rfl, rfl, h4, r4⟩ := trodAll_cons r3
  obtain ⟨v5, vs5, d5, ds5, p5, q5, rfl, rfl, rfl, h5, r5⟩ := trodAll_cons r4
  obtain ⟨rfl, rfl, rfl⟩ := trodAll_nil r5
  obtain rfl : args = #[v0, v1, v2, v3, v4, v5] := by cases args; simp_all
  obtain ⟨rfl, rfl⟩ := trodVars_none hV
  obtain ⟨a0, rfl, rfl, rfl, w0⟩ := open_int Try.underlying3 (hval 0 3 v0 rfl rfl) h0
  obtain ⟨a1, rfl, rfl, rfl, w1⟩ := open_int Try.underlying3 (hval 1 3 v1 rfl rfl) h1
  obtain ⟨rfl, ⟨l2, hl2, rfl, wfs2⟩, back2⟩ := open_struct kinds_Span21 Try.underlying25 (hval 2 25 v2 rfl rfl) h2
  obtain ⟨n2_0, l2_0, rfl, hl2_0⟩ := map_cons_inv hl2
  obtain ⟨n2_1, l2_1, rfl, hl2_1⟩ := map_cons_inv hl2_0
  obtain rfl := map_nil_inv hl2_1
  have wf2_0 := wf_i64 (wfs2 (.i64, n2_0) (by simp))
  have wf2_1 := wf_i64 (wfs2 (.i64, n2_1) (by simp))
  obtain ⟨c3, z3, ao3, cap3, ts3, rfl, hc3, hz3, ht3⟩ := open_draft (hval 3 45 v3 rfl rfl) h3
  obtain ⟨rfl, ⟨l4, hl4, rfl, wfs4⟩, back4⟩ := open_struct kinds_Bend Try.underlying47 (hval 4 47 v4 rfl rfl) h4
  obtain ⟨n4_0, l4_0, rfl, hl4_0⟩ := map_cons_inv hl4
  obtain ⟨n4_1, l4_1, rfl, hl4_1⟩ := map_cons_inv hl4_0
  obtain ⟨n4_2, l4_2, rfl, hl4_2⟩ := map_cons_inv hl4_1
  obtain rfl := map_nil_inv hl4_2
  have wf4_0 := wf_u8 (wfs4 (.u8, n4_0) (by simp))
  have wf4_1 := wf_i64 (wfs4 (.i64, n4_1) (by simp))
  have wf4_2 := wf_i64 (wfs4 (.i64, n4_2) (by simp))
  obtain ⟨rfl, ⟨ps5, hps5, rfl, wfs5⟩, back5⟩ := open_one (c := 2) (k := .u8) (by kernel_rfl : kindsOf Try.prog 8 48 = some _) Try.underlying48 (hval 5 48 v5 rfl rfl) h5
  clear hA0 hval0
  obtain ⟨x, y, rfl⟩ := two_of hps5
  refine (taylorMakes_walk a0 a1 (n2_0, n2_1) c3 z3 ts3 ao3 cap3 n4_0 n4_1 n4_2 x y ⟨hc3, hz3, b8 wf4_0, b8 (wf_u8 (wfs5 x (by simp))), b8 (wf_u8 (wfs5 y (by simp)))⟩ W ht3).mono fun e W' ⟨he, hg⟩ => ?_
  subst he
  exact ⟨_, rfl, post_below (pv := []) hW' (fun _ _ _ => (trodAll_cons_mk (shut_bool Try.underlying4 _) trodAll_mk0))
    (fun sp hsp => trodAll_stays laidOut hg sp _ _ _ _ (fun t ht => by simpa using (List.all_eq_true.1 okParams) t ht) hAk hlt (fun x hx => hsp x (by simpa using hx))) (fun _ _ => rfl) rfl
    hg (ok_one (by kernel_rfl) rfl (okWide_bool_mk Try.underlying4 _))⟩

theorem proved : Rows.TaylorMakesSaid :=
  OpenClaim.holds_of_wide 4 Try.f4 rfl rfl rfl rfl rfl rfl rfl ⟨rfl, rfl, rfl, rfl, rfl⟩ rfl rfl rfl rfl rfl (by kernel_rfl) Try.func4 (by kernel_rfl)
    (of_decide_eq_true (by kernel_rfl)) (by unfold Func.isWrapper; first | (rw [if_pos (by decide +kernel)]; kernel_rfl) | (rw [if_neg (by decide +kernel)]; exact ⟨rfl, rfl⟩))
    (fun os started H enc _ => lifted os started H enc)
end Go.Proofs.Ythhkcfpljgdnhaa.taylorMakes
