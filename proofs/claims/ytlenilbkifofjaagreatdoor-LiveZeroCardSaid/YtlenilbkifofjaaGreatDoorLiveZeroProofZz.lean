/- LiveZero: What is live ahead of the first instruction, beyond the parameters, may as well be made 0 there: nothing changes, by the page's own machine. Its laid variable is tied to the program's text (the card). No condition. -/
import Derived.Test.YtlenilbkifofjaaGreatDoorLzUZz
import Derived.Test.YtlenilbkifofjaaGreatDoorQ14Zz
import Derived.Test.YtlenilbkifofjaaGreatDoorTie
import Derived.Test.YtlenilbkifofjaaGreatDoorCards
import Derived.ProofKit
import Derived.LaidMore
import Derived.OpenShut
import Derived.Stop.Joined
import Derived.SevenTiedAt
set_option linter.unusedVariables false
set_option linter.unusedSimpArgs false
set_option maxHeartbeats 8000000
set_option maxRecDepth 100000
namespace Go.Proofs.YtlenilbkifofjaaGreatDoor
open Go.ChangeShapes Go.WideShapes Go.ChangeAt Go.WideMaps Go.WideElems Go.RowKit
theorem liveZero_own:ownKnob Tryz.prog.godebug=none:=by kernel_rfl
theorem liveZero_laidOut:laidOutB Tryz.prog=true:=by kernel_rfl
theorem liveZero_tab:(Rows.laid_math_bits_deBruijn64tab:DataW Unit)= .agg (Lib.deBruijn64tab.map fun n=> .lit (.int .u8 (n:Nat))):=by kernel_rfl
theorem liveZero_glob:Tryz.prog.globalNamed "math/bits.deBruijn64tab" =some 0:=by kernel_rfl
theorem liveZero_type:(Tryz.prog.globals[0]?).map (·.type)=some 132:=by kernel_rfl
theorem liveZero_laid{W:World}(h:laidMetH Tryz.prog [("math/bits.deBruijn64tab",Rows.laid_math_bits_deBruijn64tab)] W):TabAt 0 Lib.deBruijn64tab W∧0<W.heap.size:=by
 rw[MakeChecks.laidMetH_plain _ _ _ (by kernel_rfl)]at h;obtain⟨ps,⟨g0,t0,cs0,f0,p0,q0,hg0,ht0,hv0,hd0,_⟩,_⟩:=h;obtain rfl:=Option.some.inj (liveZero_glob.symm.trans hg0);obtain rfl:=Option.some.inj (liveZero_type.symm.trans ht0);obtain⟨xs,m1,rfl,hx,hlen,hn,hel⟩:=DataW.trod_array Tryz.underlying132 hd0;rw[liveZero_tab]at hx;simp only[Prod.mk.injEq,DataW.agg.injEq]at hx;have c1:Tryz.prog.cellsOf 5=1:=by kernel_rfl
 have key:TabAt 0 Lib.deBruijn64tab W:=fun j hj=>by
  have hj64:j<64:=by simpa [Lib.deBruijn64tab]using hj
  have h1:=hel j hj64;obtain⟨y,hy⟩:∃y,xs[j]? =some y:=⟨_,List.getElem?_eq_getElem (by omega)⟩
  rw[c1,hy,Nat.mul_one]at h1;obtain⟨k,e1,e2,_⟩:=DataW.trod_int Tryz.underlying5 h1;have h3:=congrArg (fun l=>l[j]?) hx.1;simp only[List.getElem?_map,hy,List.getElem?_eq_getElem hj,Option.map_some,e2]at h3;have h4:k=((Lib.deBruijn64tab.getD j 0:Nat):Int):=by
   rw[List.getD_eq_getElem?_getD,List.getElem?_eq_getElem hj];exact(congrArg (fun d:DataW Unit=>match d with|DataW.lit (Lit.int _ n)=>n|_=>0) (Option.some.inj h3)).symm
  have h5:cs0[j]? =some (.int .u8 k):=by
   have:=congrArg (fun l=>l[0]?) e1;simp only[List.getElem?_take,List.getElem?_drop]at this;simpa using this
  rw[World.var?_cell hg0 hv0 j,h5,h4]
 refine⟨key,?_⟩;have h0:=key 0 (by decide);rcases Nat.lt_or_ge 0 W.heap.size with h|h
 ·exact h
 ·unfold World.cell? at h0;rw[Array.getElem?_eq_none h]at h0;cases h0
theorem liveZero_door(os:Os)(args:Array Value):laidMetH Tryz.prog [("math/bits.deBruijn64tab",Rows.laid_math_bits_deBruijn64tab)] ((World.doorLaid Tryz.prog 400 os).forCall (fun _ _=>0) ⟨#[],args,[]⟩).memory:=
 laidMetH_of_parts3 (fuel:=80) (laidMet_of_run' 80 (by kernel_rfl) (by kernel_rfl)) (by kernel_rfl) (by kernel_rfl)
theorem liveZero_lifted(os:Os)(started:os.Started)(H:Type)(enc:TypeId×Value→H):
  ReturnsInHanded {} Tryz.checked os 3 .any (fun w args=>(Rows.liveZeroSpec.pre enc Tryz.prog Tryz.f3 [] false w args∧laidMetH Tryz.prog [("math/bits.deBruijn64tab",Rows.laid_math_bits_deBruijn64tab)] w)∧sizedMet enc Tryz.prog Tryz.f3 (OpenSpec.ofChange Rows.liveZeroSpec) false w args)
   (Rows.liveZeroSpec.post enc Tryz.prog Tryz.f3 false true false false):=by
 refine returnsInHanded_of_change_and (C:=Tryz.checked) (X:=fun w _=>laidMetH Tryz.prog [("math/bits.deBruijn64tab",Rows.laid_math_bits_deBruijn64tab)] w) (fun _ _ _ hh h=>h.of_heap hh) liveZero_own started (by kernel_rfl) Tryz.func3
  (ChangeSpec.witness_shaped (enc:=enc) (C:=Tryz.checked) (os:=os) (X:=fun w _=>laidMetH Tryz.prog [("math/bits.deBruijn64tab",Rows.laid_math_bits_deBruijn64tab)] w) false (World.doorLaid Tryz.prog 400 os) #[.agg #[.slice none 0 0,.slice none 0 0,.int .i64 0]] 8 rfl (World.shaped_of_RefB (by kernel_rfl) (by kernel_rfl)) (by kernel_rfl) (by kernel_rfl) (by kernel_rfl) (liveZero_door os _)) ?_
 intro W base args ds gs before hval0 hW _ hsz0 hL _;have hval:∀(j:Nat)t v,Tryz.f3.params[j]? =some t→args[j]? =some v→Value.okWide Tryz.prog W .any base t v:=hval0;have hsz:(DataW.weightsEach Tryz.prog (Tryz.f3.params.toList++Rows.liveZeroSpec.plain.varTypes Tryz.prog) (ds++gs)).all (·≤reachBytes)=true:=hsz0;have hW':=hW;obtain⟨p,q,hA0,hV,rfl,_,_⟩:=hW;have hA:DataW.TrodAll enc Tryz.prog W 0 (fun _=>true) true Tryz.f3.params.toList args.toList ds p:=hA0;rw[Tryz.params3]at hA hval hsz;obtain⟨v0,d0,rfl,rfl,h0⟩:=trodAll_one hA;obtain⟨rfl,rfl⟩:=trodVars_none hV;have hv:=hval 0 25 v0 rfl rfl;obtain⟨hT,hg⟩:=liveZero_laid hL;clear hA0 hval0;simp only[List.append_nil]at hW';have hlt:∀x∈p,x.block<W.heap.size:=fun x hx=>by simpa using hW'.lt x hx
 have hwalk:Calls Tryz.prog 3 #[v0] W fun e w'=>e= .returned (.bool true)∧Below W.heap.size W w':=by
  obtain⟨cs,hcs,_⟩:=okWide_struct Tryz.underlying25 hv;obtain⟨ps,inp,PA,IA,pc,ic,fu,rfl,hps,hpn,hil,hsz',hic1,hic2,hin,haf⟩:=ask14F_read hcs h0 hsz;exact lzero_law ps inp PA IA pc ic fu W.heap.size W (Nat.le_refl _) hps hin ⟨hic1,hic2⟩ hpn hil hsz' hT hg
 refine hwalk.mono fun e W'⟨he,hb⟩=>?_;subst he;exact⟨_,rfl,_,_,_,[],p,[],hW',trodAll_mk1 (shut_bool Tryz.underlying4 true),trodAll_mk1 (WideElems.Trod_stays liveZero_laidOut (by kernel_rfl) (of_decide_eq_true (by kernel_rfl)) h0 (fun x hx=>hb.same (hlt x hx)) (fun x hx=>by simpa using hlt x hx)),rfl,hb.frame _,fun h=>by cases h⟩
theorem liveZero_row:Rows.LiveZeroSaid:=
 OpenClaim.holds_of_wide 3 Tryz.f3 rfl rfl rfl rfl rfl rfl rfl ⟨rfl,rfl,rfl,rfl,rfl⟩ rfl rfl rfl rfl rfl (by kernel_rfl) Tryz.func3 (by kernel_rfl)
  (of_decide_eq_true (by kernel_rfl)) (by unfold Func.isWrapper;first|(rw[if_pos (by decide+kernel)];kernel_rfl)|(rw[if_neg (by decide+kernel)];exact⟨rfl,rfl⟩)) (fun os started H enc _=>liveZero_lifted os started H enc)
theorem liveZero_holds:Rows.LiveZeroCardSaid:=
 Claim7.holds_tied_plain_at .later [] [.data] true (true,"6f6f58192694eddbb7daafdcb53ce19982da8a4f1f7c8cb97c4b2ad0af256784") false
  liveZero_row (fun _ h=>by cases h) (by kernel_rfl) (fun _ h=>by cases h) liveZero_row_tie rfl ⟨rfl,rfl⟩ (by kernel_rfl) rfl (fun f fn hf hfn=>by
   obtain rfl:f=3:=Option.some.inj ((show Tryz.prog.funcNamed "gantlet/gantletlaw16.LiveZero" =some 3 by kernel_rfl).symm.trans hf)|>.symm;obtain rfl:fn=Tryz.f3:=(Option.some.inj (Tryz.func3.symm.trans hfn)).symm;exact⟨by kernel_rfl,fun j t ht=>by
    rw[Tryz.params3]at ht;have hm:t∈[25]:=by simpa using Array.mem_of_getElem? ht
    have hall:([25].all fun u=>!Tryz.prog.wantsStandIn u)=true:=by kernel_rfl
    exact(show Tryz.prog.wantsStandIn t=false by simpa using List.all_eq_true.1 hall t hm)⟩) (by kernel_rfl)
end Go.Proofs.YtlenilbkifofjaaGreatDoor
