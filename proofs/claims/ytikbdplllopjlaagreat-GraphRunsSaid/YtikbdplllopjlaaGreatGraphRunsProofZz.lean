/- GraphRuns: Whether any program may be, how it ends, on any fuel, whatever comes in, and what it puts out, is the page's, or refused. No condition. -/
import Derived.Test.YtikbdplllopjlaaGreatGRunsLZz
set_option linter.unusedVariables false
set_option linter.unusedSimpArgs false
set_option maxHeartbeats 8000000
set_option maxRecDepth 100000
open Go.Proofs.Tryz
namespace Go.Proofs.YtikbdplllopjlaaGreat
open Go.ChangeShapes Go.WideShapes Go.ChangeAt Go.RowKit
theorem Ct:ownKnob prog.godebug=none:=by kernel_rfl
theorem xD:laidOutB prog=true:=by kernel_rfl
theorem yI(os:Os)(started:os.Started)(H:Type)(enc:TypeId×Value->H):
  ReturnsInHanded {} Tryz.checked os 3 .any (Rows.graphRunsSpec.pre6 enc prog Tryz.f3 Rows.graphRunsRow.domain false) (Rows.graphRunsSpec.post enc prog Tryz.f3 false true false false):=by
 refine returnsInHanded_of_change_sized (C:=Tryz.checked) Ct started (by kernel_rfl) func3
  (ChangeSpec.witness6 (enc:=enc) (C:=Tryz.checked) false ⟨#[],#[.agg #[.slice none 0 0,.slice none 0 0,.int .i64 0]],[]⟩ 8 (by kernel_rfl) (by kernel_rfl) (by kernel_rfl) (by kernel_rfl)) ?_
 intro W ai args ds gs before Tq hW _ Ih _;have hval:∀(j:Nat)t v,Tryz.f3.params[j]? =some t->args[j]? =some v->Value.okWide prog W .any ai t v:=Tq;have hsz:(DataW.weightsEach prog (Tryz.f3.params.toList++Rows.graphRunsSpec.plain.varTypes prog) (ds++gs)).all (·<=reachBytes)=true:=Ih;have YB:=hW;obtain⟨p,q,WD,hV,rfl,_,_⟩:=hW;have hA:DataW.TrodAll enc prog W 0 (λ_=>true) true Tryz.f3.params.toList args.toList ds p:=WD;rw[Tryz.params3]at hA hval hsz;obtain⟨v0,d0,rfl,rfl,h0⟩:=trodAll_one hA;obtain⟨rfl,rfl⟩:=trodVars_none hV;have hv:=hval 0 25 v0 rfl rfl;clear WD Tq;simp only[List.append_nil]at YB;have hlt:∀x∈p,x.block<W.heap.size:=λx hx=>by simpa using YB.lt x hx
 have XD:Calls prog 3 #[v0] W λe w'=>e= .returned (.bool true)/\Below W.heap.size W w':=by
  obtain⟨cs,hcs,_⟩:=okWide_struct underlying25 hv;obtain⟨ps,inp,PA,IA,pc,ic,fu,rfl,Tw,Z7,x7,hsz',hic1,hic2,gZ,haf⟩:=Ju hcs h0 hsz;exact Nn ps inp PA IA pc ic fu W.heap.size W (aN _) Tw gZ ⟨hic1,hic2⟩ Z7 x7 hsz'
 refine XD.mono λe W'⟨he,hb⟩=>?_;subst he;exact⟨_,rfl,_,_,_,[],p,[],YB,trodAll_mk1 (shut_bool underlying4 true),trodAll_mk1 (WideElems.Trod_stays xD (by kernel_rfl) (of_decide_eq_true (by kernel_rfl)) h0 (λx hx=>hb.same (hlt x hx)) (λx hx=>by simpa using hlt x hx)),rfl,hb.frame _,λh=>by cases h⟩
theorem graphRuns_holds:Rows.GraphRunsSaid:=
 OpenClaim.holds_of_wide 3 Tryz.f3 rfl rfl rfl rfl rfl rfl rfl ⟨rfl,rfl,rfl,rfl,rfl⟩ rfl rfl rfl rfl rfl (by kernel_rfl) func3 (by kernel_rfl)
  (of_decide_eq_true (by kernel_rfl)) (by unfold Func.isWrapper;first|(rw[if_pos (by decide+kernel)];kernel_rfl)|(rw[if_neg (by decide+kernel)];exact⟨rfl,rfl⟩)) (λos started H enc _=>yI os started H enc)
end Go.Proofs.YtikbdplllopjlaaGreat
