/- VirtRuns: Whether any program may be, how it ends, on any fuel, whatever comes in, and what it puts out, is the page's, or refused. No condition. -/
import Derived.Test.YtinmgbodgecoeaaGreatQ18Zz
set_option linter.unusedSimpArgs false
set_option linter.unusedVariables false
set_option maxHeartbeats 8000000
set_option maxRecDepth 100000
open Go.Proofs.Tryz
namespace Go.Proofs.YtinmgbodgecoeaaGreat
open Go.ChangeShapes Go.WideShapes Go.ChangeAt Go.RowKit
theorem Ed:ownKnob prog.godebug=none:=by kernel_rfl
theorem xB:laidOutB prog=true:=by kernel_rfl
theorem yX(os:Os)(started:os.Started)(H:Type)(enc:TypeId×Value->H):
  ReturnsInHanded {} Tryz.checked os 3 .any (Rows.virtRunsSpec.pre6 enc prog Tryz.f3 Rows.virtRunsRow.domain false) (Rows.virtRunsSpec.post enc prog Tryz.f3 false true false false):=by
 refine returnsInHanded_of_change_sized (C:=Tryz.checked) Ed started (by kernel_rfl) func3
  (ChangeSpec.witness6 (enc:=enc) (C:=Tryz.checked) false ⟨#[],#[.agg #[.slice none 0 0,.slice none 0 0,.int .i64 0]],[]⟩ 8 (by kernel_rfl) (by kernel_rfl) (by kernel_rfl) (by kernel_rfl)) ?_
 intro W ai args ds gs before hval0 hW _ hsz0 _;have hval:∀(j:Nat)t v,Tryz.f3.params[j]? =some t->args[j]? =some v->Value.okWide prog W .any ai t v:=hval0;have hsz:(DataW.weightsEach prog (Tryz.f3.params.toList++Rows.virtRunsSpec.plain.varTypes prog) (ds++gs)).all (·<=reachBytes)=true:=hsz0;have hW':=hW;obtain⟨p,q,hA0,hV,rfl,_,_⟩:=hW;have hA:DataW.TrodAll enc prog W 0 (λ_=>true) true Tryz.f3.params.toList args.toList ds p:=hA0;rw[Tryz.params3]at hA hval hsz;obtain⟨v0,d0,rfl,rfl,h0⟩:=trodAll_one hA;obtain⟨rfl,rfl⟩:=trodVars_none hV;have hv:=hval 0 25 v0 rfl rfl;clear hA0 hval0;simp only[List.append_nil]at hW';have hlt:∀x∈p,x.block<W.heap.size:=λx hx=>by simpa using hW'.lt x hx
 have Y1:Calls prog 3 #[v0] W λe w'=>e= .returned (.bool true)/\Below W.heap.size W w':=by
  obtain⟨cs,hcs,_⟩:=okWide_struct underlying25 hv;obtain⟨ps,inp,PA,IA,pc,ic,fu,rfl,hps,hpn,hil,hsz',hic1,hic2,hin,pK⟩:=Iq hcs h0 hsz;exact LO ps inp PA IA pc ic fu W.heap.size W (aY _) hps hin ⟨hic1,hic2⟩ hpn hil hsz'
 refine Y1.mono λe W'⟨he,hb⟩=>?_;subst he;exact⟨_,rfl,_,_,_,[],p,[],hW',trodAll_mk1 (shut_bool underlying4 true),trodAll_mk1 (WideElems.Trod_stays xB (by kernel_rfl) (of_decide_eq_true (by kernel_rfl)) h0 (λx hx=>hb.same (hlt x hx)) (λx hx=>by simpa using hlt x hx)),rfl,hb.frame _,λh=>by cases h⟩
theorem virtRuns_holds:Rows.VirtRunsSaid:=
 OpenClaim.holds_of_wide 3 Tryz.f3 rfl rfl rfl rfl rfl rfl rfl ⟨rfl,rfl,rfl,rfl,rfl⟩ rfl rfl rfl rfl rfl (by kernel_rfl) func3 (by kernel_rfl)
  (of_decide_eq_true (by kernel_rfl)) (by unfold Func.isWrapper;first|(rw[if_pos (by decide+kernel)];kernel_rfl)|(rw[if_neg (by decide+kernel)];exact⟨rfl,rfl⟩)) (λos started H enc _=>yX os started H enc)
end Go.Proofs.YtinmgbodgecoeaaGreat
