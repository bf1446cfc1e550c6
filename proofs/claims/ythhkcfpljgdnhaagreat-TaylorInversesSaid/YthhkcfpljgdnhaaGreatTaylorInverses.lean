/- Proved: monoclelaw21.TaylorInverses returns true for every input: Inverse equals the reference: for drafted models, such whose constant is from 1 to 2, and such with a change. No condition. -/
import Derived.Test.YthhkcfpljgdnhaaGreatLiftX
import Derived.Test.YthhkcfpljgdnhaaGreatWTayInverses
namespace Go.Proofs.YthhkcfpljgdnhaaGreat.taylorInverses
open Go.ChangeShapes Go.WideShapes Go.ChangeAt Go.RowKit Mnc

theorem okParams:(Tryz.f4.params.toList.all fun t=>Tryz.prog.readableRec t && decide (t<Tryz.prog.types.size))=true:=by kernel_rfl

set_option maxRecDepth 100000 in
theorem lifted (os:Os) (started:os.Started) (H:Type) (enc:TypeId×Value->H) :
  ReturnsInHanded {} Tryz.checked os 4 .any (Rows.taylorInversesSpec.pre6 enc Tryz.prog Tryz.f4 Rows.taylorInversesRow.domain false) (Rows.taylorInversesSpec.post enc Tryz.prog Tryz.f4 false true false false):=by
 refine returnsInHanded_of_change (C:=Tryz.checked) own started (by kernel_rfl) Tryz.func4
  (ChangeSpec.witness6 (enc:=enc) (C:=Tryz.checked) false ⟨#[],#[.agg #[.int .i16 0,.slice none 0 0,.int .u16 0],.agg #[.int .u8 0,.int .i64 0,.int .i64 0]],[]⟩ 8 (by kernel_rfl) (by kernel_rfl) (by kernel_rfl) (by kernel_rfl)) ?_
 intro W base args ds gs before hval0 hW hcnd _
 have hval:∀(j:Nat) t v,Tryz.f4.params[j]?=some t->args[j]?=some v->Value.okWide Tryz.prog W .any base t v:=hval0
 have hW':=hW
 obtain ⟨p,q,hA0,hV,rfl,hfz,hnd⟩:=hW
 have hA:DataW.TrodAll enc Tryz.prog W 0 (fun _=>true) true Tryz.f4.params.toList args.toList ds p:=hA0
 have hAk:=hA
 have hlt:∀x∈p,x.block<W.heap.size:=fun x hx=>hW'.lt x (by simp [hx])
 rw [Tryz.params4] at hA hval
 obtain ⟨v0,vs0,d0,ds0,p0,q0,hargs,rfl,rfl,h0,r0⟩:=trodAll_cons hA
 obtain ⟨v1,vs1,d1,ds1,p1,q1,rfl,rfl,rfl,h1,r1⟩:=trodAll_cons r0
 obtain ⟨rfl,rfl,rfl⟩:=trodAll_nil r1
 obtain rfl:args=#[v0,v1]:=by cases args;simp_all
 obtain ⟨rfl,rfl⟩:=trodVars_none hV
 obtain ⟨c0,z0,ao0,cap0,ts0,rfl,hc0,hz0,ht0⟩:=open_draft (hval 0 26 v0 rfl rfl) h0
 obtain ⟨rfl,⟨l1,hl1,rfl,wfs1⟩,back1⟩:=open_struct kinds_Bend Tryz.underlying28 (hval 1 28 v1 rfl rfl) h1
 obtain ⟨n1_0,l1_0,rfl,hl1_0⟩:=map_cons_inv hl1
 obtain ⟨n1_1,l1_1,rfl,hl1_1⟩:=map_cons_inv hl1_0
 obtain ⟨n1_2,l1_2,rfl,hl1_2⟩:=map_cons_inv hl1_1
 obtain rfl:=map_nil_inv hl1_2
 have wf1_0:=wf_u8 (wfs1 (.u8,n1_0) (by simp))
 have wf1_1:=wf_i64 (wfs1 (.i64,n1_1) (by simp))
 have wf1_2:=wf_i64 (wfs1 (.i64,n1_2) (by simp))
 clear hA0 hval0
 refine (taylorInverses_walk c0 z0 ts0 ao0 cap0 n1_0 n1_1 n1_2 ⟨hc0,hz0,b8 wf1_0⟩ W ht0).mono fun e W' ⟨he,hg⟩=>?_
 subst he
 exact ⟨_,rfl,post_below (pv:=[]) hW' (fun _ _ _=>(trodAll_cons_mk (shut_bool Tryz.underlying4 _) trodAll_mk0))
  (fun sp hsp=>trodAll_stays laidOut hg sp _ _ _ _ (fun t ht=>by simpa using (List.all_eq_true.1 okParams) t ht) hAk hlt (fun x hx=>hsp x (by simpa using hx))) (fun _ _=>rfl) rfl
  hg (ok_one (by kernel_rfl) rfl (okWide_bool_mk Tryz.underlying4 _))⟩

theorem proved:Rows.TaylorInversesSaid :=
 OpenClaim.holds_of_wide 4 Tryz.f4 rfl rfl rfl rfl rfl rfl rfl ⟨rfl,rfl,rfl,rfl,rfl⟩ rfl rfl rfl rfl rfl (by kernel_rfl) Tryz.func4 (by kernel_rfl)
  (of_decide_eq_true (by kernel_rfl)) (by unfold Func.isWrapper;first | (rw [if_pos (by decide +kernel)];kernel_rfl) | (rw [if_neg (by decide +kernel)];exact ⟨rfl,rfl⟩))
  (fun os started H enc _=>lifted os started H enc)
end Go.Proofs.YthhkcfpljgdnhaaGreat.taylorInverses
