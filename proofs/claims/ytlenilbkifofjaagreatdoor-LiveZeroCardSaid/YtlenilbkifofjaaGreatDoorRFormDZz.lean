/- The page's Form, whole. Conditions: as stated. -/
import Derived.Test.YtlenilbkifofjaaGreatDoorRFormCZz
set_option linter.unusedVariables false
set_option linter.unusedSimpArgs false
set_option maxHeartbeats 8000000
set_option maxRecDepth 100000
namespace Go.Proofs.YtlenilbkifofjaaGreatDoor
open Go.RowKit
theorem rform_8(nl ng:Int)(pl:List Int)(PA:Option Addr)(pc:Nat)(dst a b n:Int)(arg:List Int)(A:Option Addr)(c B:Nat)(w:World)(hB:B≤w.heap.size)(hx:LongsAt w B arg (.slice A arg.length c))(hp:LongsAt w B pl (.slice PA pl.length pc)):
  Calls Tryz.prog 27 #[insV ⟨8,dst,a,b,n,arg⟩ A c,.int .i64 nl,.int .i64 ng,.slice PA pl.length pc] w fun e w'=>FormSays (formR nl ng pl ⟨8,dst,a,b,n,arg⟩) (shapeR ⟨8,dst,a,b,n,arg⟩) w e w':=by
 have HX:=Lib.hid hx;have HP:=Lib.hid hp;unfold insV;simp only;clear hx hp;have HS:=Lib.hid (fun W=>rsmall_any b W);cases hi:immB b with
 |false=>
  have HI:=Lib.hid hi;rw[hi]at HS;clear hi;have HV:=Lib.hid (show formR nl ng pl ⟨8,dst,a,b,n,arg⟩=false from by simp[formR,namedI,preR,wantI,fieldsI,freeI,argsR,HI.out]);rw[HV.out];go_enter Tryz.func27,Tryz.ntmps27;refine wp_letter (fun Q hQ=>?_);have HQ:=Lib.hid hQ;clear hQ;go_wp2_with fail;go_region
  all_goals go_wp2_with fail
  all_goals refine(HS.out _).mono ?_
  all_goals rintro e w1 ⟨rfl,rfl⟩
  all_goals go_wp2_with fail
  all_goals refine HQ.out _ _ _ ?_
  all_goals refine bodyPost_ret (v:= .tuple #[.agg #[.bool true,.bool true,.bool false,.bool false],.bool false]) (by simp[results,Tryz.results27,go_sem]) rfl ⟨_,_,_,_,rfl,fun h=>(by cases h),?_⟩
  all_goals exact(form_rows (by first|exact Or.inl rfl|exact Or.inr rfl)).2.2.2.2
 |true=>
  have HI:=Lib.hid hi;rw[hi]at HS;clear hi;have HV:=Lib.hid (show formR nl ng pl ⟨8,dst,a,b,n,arg⟩=(eqI ⟨8,dst,a,b,n,arg⟩ ⟨8,dst,a,b,n,arg⟩&& (((arg.length:Int)==0)&& opR ⟨8,dst,a,b,n,arg⟩))from by simp[formR,namedI,preR,wantI,fieldsI,freeI,argsR,HI.out]);rw[HV.out];have HSH:=Lib.hid (show(true,true,false,false)=shapeR ⟨8,dst,a,b,n,arg⟩from by simp[shapeR,fieldsI,namedI]);go_enter Tryz.func27,Tryz.ntmps27;refine wp_letter (fun Q hQ=>?_);have HQ:=Lib.hid hQ;clear hQ;go_wp2_with fail;go_region
  all_goals go_wp2_with fail
  all_goals refine(HS.out _).mono ?_
  all_goals rintro e w1 ⟨rfl,rfl⟩
  all_goals go_wp2_with fail
  all_goals refine wp_world (fun W hW=>?_)
  all_goals obtain⟨hrx,hrr,hry,hrs,hbw⟩:=form_rows (by first|exact Or.inl hW|exact Or.inr hW)
  all_goals refine rfe_region w.heap.size (w.heap.size+1+1) (w.heap.size+1+1+1) (w.heap.size+1) ⟨8,dst,a,b,n,arg⟩ ⟨8,dst,a,b,n,arg⟩ A c true true false false _ _ _ 0 W hrx hry hrs hrr (fun W' hW'=>reqins_any ⟨8,dst,a,b,n,arg⟩ ⟨8,dst,a,b,n,arg⟩ rfl A c B W' (by have:=hW'.size;have:=hbw.size;omega) (HX.out.below ((hbw.trans (hW'.mono hbw.size)).mono hB) (Nat.le_refl _))) (fun W' hW'=>rop_any ⟨8,dst,a,b,n,arg⟩ A c W') rfl _ _ _ _ _ _ _ _ _ _ _ _ _ _ _ _ _ _ _ _ _ _ _ _ _ _ _ _ _ _ _ _ _ _ _ _ _ _ _ _ _ _ _ _ _ _ _ _ _ _ _ _ _ _ _ _ _ _ _ _ _ _ _ _ _ _ _ _ _ _ _ _ _ _ _ _ _ _ _ _ _ _ _ _ _ _ _ _ _ _ _ _ _ _ _ _ _ _ _ _ _ _ _ _ _ _ _ _ _ _ _ _ _ _ _ _ _ _ _ _ _ _ _ _ _ _ _ _ _ _ _ _ _ _ _ _ _ _ _ _ _ _ _ _ _ _ _ _ _ _ _ _ _ _ _ _ _ _ _ _ _ _ _ _ _ _ _ _ _ _ _ _ _ _ _ _ _ _ _ _ _ _ _ _ _ _ (fun W' Y hw' hr'=>?_)
  all_goals have hbw':=(Wr.of_below (F:=fun _=>False) hbw).trans hw' (fun i hi=>Or.inr (by omega))
  all_goals have k0:=hr'.cell (j:=0) rfl
  all_goals have k1:=hr'.cell (j:=1) rfl
  all_goals have k2:=hr'.cell (j:=2) rfl
  all_goals have k3:=hr'.cell (j:=3) rfl
  all_goals clear hW hrx hrr hry hrs hw' hr'
  all_goals go_wp2_with fail
  all_goals refine HQ.out _ _ _ ?_
  all_goals exact bodyPost_ret (v:= .tuple #[.agg #[.bool true,.bool true,.bool false,.bool false],.bool (eqI ⟨8,dst,a,b,n,arg⟩ ⟨8,dst,a,b,n,arg⟩&& (((arg.length:Int)==0)&& opR ⟨8,dst,a,b,n,arg⟩))]) (by simp[results,Tryz.results27,go_sem,k0,k1,k2,k3]) rfl ⟨_,_,_,_,rfl,fun _=>HSH.out,hbw'.below (Nat.le_refl _) (fun _ h=>h.elim)⟩
theorem rform_9(nl ng:Int)(pl:List Int)(PA:Option Addr)(pc:Nat)(dst a b n:Int)(arg:List Int)(A:Option Addr)(c B:Nat)(w:World)(hB:B≤w.heap.size)(hx:LongsAt w B arg (.slice A arg.length c))(hp:LongsAt w B pl (.slice PA pl.length pc)):
  Calls Tryz.prog 27 #[insV ⟨9,dst,a,b,n,arg⟩ A c,.int .i64 nl,.int .i64 ng,.slice PA pl.length pc] w fun e w'=>FormSays (formR nl ng pl ⟨9,dst,a,b,n,arg⟩) (shapeR ⟨9,dst,a,b,n,arg⟩) w e w':=by
 have HX:=Lib.hid hx;have HP:=Lib.hid hp;unfold insV;simp only;clear hx hp;have HS:=Lib.hid (fun W=>rsmall_any b W);cases hi:immB b with
 |false=>
  have HI:=Lib.hid hi;rw[hi]at HS;clear hi;have HV:=Lib.hid (show formR nl ng pl ⟨9,dst,a,b,n,arg⟩=false from by simp[formR,namedI,preR,wantI,fieldsI,freeI,argsR,HI.out]);rw[HV.out];go_enter Tryz.func27,Tryz.ntmps27;refine wp_letter (fun Q hQ=>?_);have HQ:=Lib.hid hQ;clear hQ;go_wp2_with fail;go_region
  all_goals go_wp2_with fail
  all_goals refine(HS.out _).mono ?_
  all_goals rintro e w1 ⟨rfl,rfl⟩
  all_goals go_wp2_with fail
  all_goals refine HQ.out _ _ _ ?_
  all_goals refine bodyPost_ret (v:= .tuple #[.agg #[.bool true,.bool true,.bool false,.bool false],.bool false]) (by simp[results,Tryz.results27,go_sem]) rfl ⟨_,_,_,_,rfl,fun h=>(by cases h),?_⟩
  all_goals exact(form_rows (by first|exact Or.inl rfl|exact Or.inr rfl)).2.2.2.2
 |true=>
  have HI:=Lib.hid hi;rw[hi]at HS;clear hi;have HV:=Lib.hid (show formR nl ng pl ⟨9,dst,a,b,n,arg⟩=(eqI ⟨9,dst,a,b,n,arg⟩ ⟨9,dst,a,b,n,arg⟩&& (((arg.length:Int)==0)&& opR ⟨9,dst,a,b,n,arg⟩))from by simp[formR,namedI,preR,wantI,fieldsI,freeI,argsR,HI.out]);rw[HV.out];have HSH:=Lib.hid (show(true,true,false,false)=shapeR ⟨9,dst,a,b,n,arg⟩from by simp[shapeR,fieldsI,namedI]);go_enter Tryz.func27,Tryz.ntmps27;refine wp_letter (fun Q hQ=>?_);have HQ:=Lib.hid hQ;clear hQ;go_wp2_with fail;go_region
  all_goals go_wp2_with fail
  all_goals refine(HS.out _).mono ?_
  all_goals rintro e w1 ⟨rfl,rfl⟩
  all_goals go_wp2_with fail
  all_goals refine wp_world (fun W hW=>?_)
  all_goals obtain⟨hrx,hrr,hry,hrs,hbw⟩:=form_rows (by first|exact Or.inl hW|exact Or.inr hW)
  all_goals refine rfe_region w.heap.size (w.heap.size+1+1) (w.heap.size+1+1+1) (w.heap.size+1) ⟨9,dst,a,b,n,arg⟩ ⟨9,dst,a,b,n,arg⟩ A c true true false false _ _ _ 0 W hrx hry hrs hrr (fun W' hW'=>reqins_any ⟨9,dst,a,b,n,arg⟩ ⟨9,dst,a,b,n,arg⟩ rfl A c B W' (by have:=hW'.size;have:=hbw.size;omega) (HX.out.below ((hbw.trans (hW'.mono hbw.size)).mono hB) (Nat.le_refl _))) (fun W' hW'=>rop_any ⟨9,dst,a,b,n,arg⟩ A c W') rfl _ _ _ _ _ _ _ _ _ _ _ _ _ _ _ _ _ _ _ _ _ _ _ _ _ _ _ _ _ _ _ _ _ _ _ _ _ _ _ _ _ _ _ _ _ _ _ _ _ _ _ _ _ _ _ _ _ _ _ _ _ _ _ _ _ _ _ _ _ _ _ _ _ _ _ _ _ _ _ _ _ _ _ _ _ _ _ _ _ _ _ _ _ _ _ _ _ _ _ _ _ _ _ _ _ _ _ _ _ _ _ _ _ _ _ _ _ _ _ _ _ _ _ _ _ _ _ _ _ _ _ _ _ _ _ _ _ _ _ _ _ _ _ _ _ _ _ _ _ _ _ _ _ _ _ _ _ _ _ _ _ _ _ _ _ _ _ _ _ _ _ _ _ _ _ _ _ _ _ _ _ _ _ _ _ _ (fun W' Y hw' hr'=>?_)
  all_goals have hbw':=(Wr.of_below (F:=fun _=>False) hbw).trans hw' (fun i hi=>Or.inr (by omega))
  all_goals have k0:=hr'.cell (j:=0) rfl
  all_goals have k1:=hr'.cell (j:=1) rfl
  all_goals have k2:=hr'.cell (j:=2) rfl
  all_goals have k3:=hr'.cell (j:=3) rfl
  all_goals clear hW hrx hrr hry hrs hw' hr'
  all_goals go_wp2_with fail
  all_goals refine HQ.out _ _ _ ?_
  all_goals exact bodyPost_ret (v:= .tuple #[.agg #[.bool true,.bool true,.bool false,.bool false],.bool (eqI ⟨9,dst,a,b,n,arg⟩ ⟨9,dst,a,b,n,arg⟩&& (((arg.length:Int)==0)&& opR ⟨9,dst,a,b,n,arg⟩))]) (by simp[results,Tryz.results27,go_sem,k0,k1,k2,k3]) rfl ⟨_,_,_,_,rfl,fun _=>HSH.out,hbw'.below (Nat.le_refl _) (fun _ h=>h.elim)⟩
theorem rform_10(nl ng:Int)(pl:List Int)(PA:Option Addr)(pc:Nat)(dst a b n:Int)(arg:List Int)(A:Option Addr)(c B:Nat)(w:World)(hB:B≤w.heap.size)(hx:LongsAt w B arg (.slice A arg.length c))(hp:LongsAt w B pl (.slice PA pl.length pc)):
  Calls Tryz.prog 27 #[insV ⟨10,dst,a,b,n,arg⟩ A c,.int .i64 nl,.int .i64 ng,.slice PA pl.length pc] w fun e w'=>FormSays (formR nl ng pl ⟨10,dst,a,b,n,arg⟩) (shapeR ⟨10,dst,a,b,n,arg⟩) w e w':=by
 have HX:=Lib.hid hx;have HP:=Lib.hid hp;unfold insV;simp only;have hpl:=(SliceAt.len hp).2;by_cases h0:n<0
 ·have e0:decide (n<0)=true:=by simpa using h0
  have H0:=Lib.hid h0;clear h0 hx hp;have HV:=Lib.hid (show formR nl ng pl ⟨10,dst,a,b,n,arg⟩=false from by have:=H0.out;simp[formR,namedI,preR,wantI,fieldsI,freeI,argsR];omega);rw[HV.out];go_enter Tryz.func27,Tryz.ntmps27;refine wp_letter (fun Q hQ=>?_);have HQ:=Lib.hid hQ;clear hQ;go_wp2_with fail
  all_goals refine HQ.out _ _ _ ?_
  all_goals refine bodyPost_ret (v:= .tuple #[.agg #[.bool false,.bool false,.bool false,.bool true],.bool false]) (by simp[results,Tryz.results27,go_sem]) rfl ⟨_,_,_,_,rfl,fun h=>(by cases h),?_⟩
  all_goals exact(form_rows (by first|exact Or.inl rfl|exact Or.inr rfl)).2.2.2.2
 ·have e0:decide (n<0)=false:=by simpa using h0
  by_cases h1:(pl.length:Int)≤n
  ·have e1:decide ((pl.length:Int)≤n)=true:=by simpa using h1
   have H1:=Lib.hid h1;clear h0 h1 hx hp;have HV:=Lib.hid (show formR nl ng pl ⟨10,dst,a,b,n,arg⟩=false from by have:=H1.out;simp[formR,namedI,preR,wantI,fieldsI,freeI,argsR];omega);rw[HV.out];go_enter Tryz.func27,Tryz.ntmps27;refine wp_letter (fun Q hQ=>?_);have HQ:=Lib.hid hQ;clear hQ;go_wp2_with fail
   all_goals refine HQ.out _ _ _ ?_
   all_goals refine bodyPost_ret (v:= .tuple #[.agg #[.bool false,.bool false,.bool false,.bool true],.bool false]) (by simp[results,Tryz.results27,go_sem]) rfl ⟨_,_,_,_,rfl,fun h=>(by cases h),?_⟩
   all_goals exact(form_rows (by first|exact Or.inl rfl|exact Or.inr rfl)).2.2.2.2
  ·have e1:decide ((pl.length:Int)≤n)=false:=by simpa using h1
   obtain⟨m,rfl⟩:=Int.eq_ofNat_of_zero_le (show 0≤n by omega);have hml:m<pl.length:=by omega
   obtain⟨sb,so,rfl,hsb,g0,hin0⟩:=hp.at hml;have hg:pl.getD m 0=pl[m]:=by rw[List.getD_eq_getElem?_getD,List.getElem?_eq_getElem hml];rfl
   obtain⟨v,hv⟩:∃v,v=pl[m]:=⟨_,rfl⟩
   rw[←hv]at g0 hg;clear hv hin0;have hs0:sb<w.heap.size:=by omega
   have hs1:sb<w.heap.size+1:=by omega
   have hs2:sb<w.heap.size+1+1:=by omega
   have hs3:sb<w.heap.size+1+1+1:=by omega
   have hs4:sb<w.heap.size+1+1+1+1:=by omega
   have hm0:(0:Int)≤(m:Int):=by omega
   have hm1:(m:Int)<(pl.length:Int):=by omega
   by_cases hd:dst= -1
   ·subst hd;have HAR:argsR pl ⟨10,-1,a,b,(m:Int),arg⟩=pl.getD m 0:=by simp[argsR]
    rw[hg]at HAR;have H1:=Lib.hid (And.intro hml HAR);clear h0 h1 hml hg hx hp HAR;have HV:=Lib.hid (show formR nl ng pl ⟨10,-1,a,b,(m:Int),arg⟩=(eqI ⟨10,-1,a,b,(m:Int),arg⟩ ⟨10,-1,0,0,(m:Int),arg⟩&& (((arg.length:Int)==v)&& opR ⟨10,-1,a,b,(m:Int),arg⟩))from by unfold formR;rw[H1.out.2];unfold preR;simp[namedI,wantI,fieldsI,freeI,H1.out.1]);rw[HV.out];have HSH:=Lib.hid (show(false,false,false,true)=shapeR ⟨10,-1,a,b,(m:Int),arg⟩from by simp[shapeR,fieldsI,namedI]);go_enter Tryz.func27,Tryz.ntmps27;refine wp_letter (fun Q hQ=>?_);have HQ:=Lib.hid hQ;clear hQ;go_wp2_with fail
    all_goals refine wp_world (fun W hW=>?_)
    all_goals obtain⟨hrx,hrr,hry,hrs,hbw⟩:=form_rows (by first|exact Or.inl hW|exact Or.inr hW)
    all_goals refine rfe_region w.heap.size (w.heap.size+1+1) (w.heap.size+1+1+1) (w.heap.size+1) ⟨10,-1,a,b,(m:Int),arg⟩ ⟨10,-1,0,0,(m:Int),arg⟩ A c false false false true _ _ _ v W hrx hry hrs hrr (fun W' hW'=>reqins_any ⟨10,-1,a,b,(m:Int),arg⟩ ⟨10,-1,0,0,(m:Int),arg⟩ rfl A c B W' (by have:=hW'.size;have:=hbw.size;omega) (HX.out.below ((hbw.trans (hW'.mono hbw.size)).mono hB) (Nat.le_refl _))) (fun W' hW'=>rop_any ⟨10,-1,a,b,(m:Int),arg⟩ A c W') rfl _ _ _ _ _ _ _ _ _ _ _ _ _ _ _ _ _ _ _ _ _ _ _ _ _ _ _ _ _ _ _ _ _ _ _ _ _ _ _ _ _ _ _ _ _ _ _ _ _ _ _ _ _ _ _ _ _ _ _ _ _ _ _ _ _ _ _ _ _ _ _ _ _ _ _ _ _ _ _ _ _ _ _ _ _ _ _ _ _ _ _ _ _ _ _ _ _ _ _ _ _ _ _ _ _ _ _ _ _ _ _ _ _ _ _ _ _ _ _ _ _ _ _ _ _ _ _ _ _ _ _ _ _ _ _ _ _ _ _ _ _ _ _ _ _ _ _ _ _ _ _ _ _ _ _ _ _ _ _ _ _ _ _ _ _ _ _ _ _ _ _ _ _ _ _ _ _ _ _ _ _ _ _ _ _ _ (fun W' Y hw' hr'=>?_)
    all_goals have hbw':=(Wr.of_below (F:=fun _=>False) hbw).trans hw' (fun i hi=>Or.inr (by omega))
    all_goals have k0:=hr'.cell (j:=0) rfl
    all_goals have k1:=hr'.cell (j:=1) rfl
    all_goals have k2:=hr'.cell (j:=2) rfl
    all_goals have k3:=hr'.cell (j:=3) rfl
    all_goals clear hW hrx hrr hry hrs hw' hr'
    all_goals go_wp2_with fail
    all_goals refine HQ.out _ _ _ ?_
    all_goals exact bodyPost_ret (v:= .tuple #[.agg #[.bool false,.bool false,.bool false,.bool true],.bool (eqI ⟨10,-1,a,b,(m:Int),arg⟩ ⟨10,-1,0,0,(m:Int),arg⟩&& (((arg.length:Int)==v)&& opR ⟨10,-1,a,b,(m:Int),arg⟩))]) (by simp[results,Tryz.results27,go_sem,k0,k1,k2,k3]) rfl ⟨_,_,_,_,rfl,fun _=>HSH.out,hbw'.below (Nat.le_refl _) (fun _ h=>h.elim)⟩
   ·have HD:=Lib.hid hd;have e2:(dst != -1)=true:=by simpa using hd
    have HAR:argsR pl ⟨10,dst,a,b,(m:Int),arg⟩=pl.getD m 0:=by simp[argsR]
    rw[hg]at HAR;have H1:=Lib.hid (And.intro hml HAR);clear h0 h1 hml hg hx hp HAR hd;have HV:=Lib.hid (show formR nl ng pl ⟨10,dst,a,b,(m:Int),arg⟩=(eqI ⟨10,dst,a,b,(m:Int),arg⟩ ⟨10,dst,0,0,(m:Int),arg⟩&& (((arg.length:Int)==v)&& opR ⟨10,dst,a,b,(m:Int),arg⟩))from by unfold formR;rw[H1.out.2];unfold preR;simp[namedI,wantI,fieldsI,freeI,H1.out.1,HD.out]);rw[HV.out];have HSH:=Lib.hid (show(true,false,false,true)=shapeR ⟨10,dst,a,b,(m:Int),arg⟩from by simp[shapeR,fieldsI,namedI,HD.out]);go_enter Tryz.func27,Tryz.ntmps27;refine wp_letter (fun Q hQ=>?_);have HQ:=Lib.hid hQ;clear hQ;go_wp2_with fail
    all_goals refine wp_world (fun W hW=>?_)
    all_goals obtain⟨hrx,hrr,hry,hrs,hbw⟩:=form_rows (by first|exact Or.inl hW|exact Or.inr hW)
    all_goals refine rfe_region w.heap.size (w.heap.size+1+1) (w.heap.size+1+1+1) (w.heap.size+1) ⟨10,dst,a,b,(m:Int),arg⟩ ⟨10,dst,0,0,(m:Int),arg⟩ A c true false false true _ _ _ v W hrx hry hrs hrr (fun W' hW'=>reqins_any ⟨10,dst,a,b,(m:Int),arg⟩ ⟨10,dst,0,0,(m:Int),arg⟩ rfl A c B W' (by have:=hW'.size;have:=hbw.size;omega) (HX.out.below ((hbw.trans (hW'.mono hbw.size)).mono hB) (Nat.le_refl _))) (fun W' hW'=>rop_any ⟨10,dst,a,b,(m:Int),arg⟩ A c W') rfl _ _ _ _ _ _ _ _ _ _ _ _ _ _ _ _ _ _ _ _ _ _ _ _ _ _ _ _ _ _ _ _ _ _ _ _ _ _ _ _ _ _ _ _ _ _ _ _ _ _ _ _ _ _ _ _ _ _ _ _ _ _ _ _ _ _ _ _ _ _ _ _ _ _ _ _ _ _ _ _ _ _ _ _ _ _ _ _ _ _ _ _ _ _ _ _ _ _ _ _ _ _ _ _ _ _ _ _ _ _ _ _ _ _ _ _ _ _ _ _ _ _ _ _ _ _ _ _ _ _ _ _ _ _ _ _ _ _ _ _ _ _ _ _ _ _ _ _ _ _ _ _ _ _ _ _ _ _ _ _ _ _ _ _ _ _ _ _ _ _ _ _ _ _ _ _ _ _ _ _ _ _ _ _ _ _ (fun W' Y hw' hr'=>?_)
    all_goals have hbw':=(Wr.of_below (F:=fun _=>False) hbw).trans hw' (fun i hi=>Or.inr (by omega))
    all_goals have k0:=hr'.cell (j:=0) rfl
    all_goals have k1:=hr'.cell (j:=1) rfl
    all_goals have k2:=hr'.cell (j:=2) rfl
    all_goals have k3:=hr'.cell (j:=3) rfl
    all_goals clear hW hrx hrr hry hrs hw' hr'
    all_goals go_wp2_with fail
    all_goals refine HQ.out _ _ _ ?_
    all_goals exact bodyPost_ret (v:= .tuple #[.agg #[.bool true,.bool false,.bool false,.bool true],.bool (eqI ⟨10,dst,a,b,(m:Int),arg⟩ ⟨10,dst,0,0,(m:Int),arg⟩&& (((arg.length:Int)==v)&& opR ⟨10,dst,a,b,(m:Int),arg⟩))]) (by simp[results,Tryz.results27,go_sem,k0,k1,k2,k3]) rfl ⟨_,_,_,_,rfl,fun _=>HSH.out,hbw'.below (Nat.le_refl _) (fun _ h=>h.elim)⟩
theorem rform_11(nl ng:Int)(pl:List Int)(PA:Option Addr)(pc:Nat)(dst a b n:Int)(arg:List Int)(A:Option Addr)(c B:Nat)(w:World)(hB:B≤w.heap.size)(hx:LongsAt w B arg (.slice A arg.length c))(hp:LongsAt w B pl (.slice PA pl.length pc)):
  Calls Tryz.prog 27 #[insV ⟨11,dst,a,b,n,arg⟩ A c,.int .i64 nl,.int .i64 ng,.slice PA pl.length pc] w fun e w'=>FormSays (formR nl ng pl ⟨11,dst,a,b,n,arg⟩) (shapeR ⟨11,dst,a,b,n,arg⟩) w e w':=by
 have HX:=Lib.hid hx;have HP:=Lib.hid hp;unfold insV;simp only;clear hx hp;have HV:=Lib.hid (show formR nl ng pl ⟨11,dst,a,b,n,arg⟩=(eqI ⟨11,dst,a,b,n,arg⟩ ⟨11,-1,a,0,0,arg⟩&& (((arg.length:Int)==0)&& opR ⟨11,dst,a,b,n,arg⟩))from by simp[formR,namedI,preR,wantI,fieldsI,freeI,argsR]);rw[HV.out];have HSH:=Lib.hid (show(false,true,false,false)=shapeR ⟨11,dst,a,b,n,arg⟩from by simp[shapeR,fieldsI,namedI]);go_enter Tryz.func27,Tryz.ntmps27;refine wp_letter (fun Q hQ=>?_);have HQ:=Lib.hid hQ;clear hQ;go_wp2_with fail
 all_goals refine wp_world (fun W hW=>?_)
 all_goals obtain⟨hrx,hrr,hry,hrs,hbw⟩:=form_rows (by first|exact Or.inl hW|exact Or.inr hW)
 all_goals refine rfe_region w.heap.size (w.heap.size+1+1) (w.heap.size+1+1+1) (w.heap.size+1) ⟨11,dst,a,b,n,arg⟩ ⟨11,-1,a,0,0,arg⟩ A c false true false false _ _ _ 0 W hrx hry hrs hrr (fun W' hW'=>reqins_any ⟨11,dst,a,b,n,arg⟩ ⟨11,-1,a,0,0,arg⟩ rfl A c B W' (by have:=hW'.size;have:=hbw.size;omega) (HX.out.below ((hbw.trans (hW'.mono hbw.size)).mono hB) (Nat.le_refl _))) (fun W' hW'=>rop_any ⟨11,dst,a,b,n,arg⟩ A c W') rfl _ _ _ _ _ _ _ _ _ _ _ _ _ _ _ _ _ _ _ _ _ _ _ _ _ _ _ _ _ _ _ _ _ _ _ _ _ _ _ _ _ _ _ _ _ _ _ _ _ _ _ _ _ _ _ _ _ _ _ _ _ _ _ _ _ _ _ _ _ _ _ _ _ _ _ _ _ _ _ _ _ _ _ _ _ _ _ _ _ _ _ _ _ _ _ _ _ _ _ _ _ _ _ _ _ _ _ _ _ _ _ _ _ _ _ _ _ _ _ _ _ _ _ _ _ _ _ _ _ _ _ _ _ _ _ _ _ _ _ _ _ _ _ _ _ _ _ _ _ _ _ _ _ _ _ _ _ _ _ _ _ _ _ _ _ _ _ _ _ _ _ _ _ _ _ _ _ _ _ _ _ _ _ _ _ _ (fun W' Y hw' hr'=>?_)
 all_goals have hbw':=(Wr.of_below (F:=fun _=>False) hbw).trans hw' (fun i hi=>Or.inr (by omega))
 all_goals have k0:=hr'.cell (j:=0) rfl
 all_goals have k1:=hr'.cell (j:=1) rfl
 all_goals have k2:=hr'.cell (j:=2) rfl
 all_goals have k3:=hr'.cell (j:=3) rfl
 all_goals clear hW hrx hrr hry hrs hw' hr'
 all_goals go_wp2_with fail
 all_goals refine HQ.out _ _ _ ?_
 all_goals exact bodyPost_ret (v:= .tuple #[.agg #[.bool false,.bool true,.bool false,.bool false],.bool (eqI ⟨11,dst,a,b,n,arg⟩ ⟨11,-1,a,0,0,arg⟩&& (((arg.length:Int)==0)&& opR ⟨11,dst,a,b,n,arg⟩))]) (by simp[results,Tryz.results27,go_sem,k0,k1,k2,k3]) rfl ⟨_,_,_,_,rfl,fun _=>HSH.out,hbw'.below (Nat.le_refl _) (fun _ h=>h.elim)⟩
theorem rform_12(nl ng:Int)(pl:List Int)(PA:Option Addr)(pc:Nat)(dst a b n:Int)(arg:List Int)(A:Option Addr)(c B:Nat)(w:World)(hB:B≤w.heap.size)(hx:LongsAt w B arg (.slice A arg.length c))(hp:LongsAt w B pl (.slice PA pl.length pc)):
  Calls Tryz.prog 27 #[insV ⟨12,dst,a,b,n,arg⟩ A c,.int .i64 nl,.int .i64 ng,.slice PA pl.length pc] w fun e w'=>FormSays (formR nl ng pl ⟨12,dst,a,b,n,arg⟩) (shapeR ⟨12,dst,a,b,n,arg⟩) w e w':=by
 have HX:=Lib.hid hx;have HP:=Lib.hid hp;unfold insV;simp only;clear hx hp;have HV:=Lib.hid (show formR nl ng pl ⟨12,dst,a,b,n,arg⟩=(eqI ⟨12,dst,a,b,n,arg⟩ ⟨12,dst,0,0,0,arg⟩&& (((arg.length:Int)==0)&& opR ⟨12,dst,a,b,n,arg⟩))from by simp[formR,namedI,preR,wantI,fieldsI,freeI,argsR]);rw[HV.out];have HSH:=Lib.hid (show(true,false,false,false)=shapeR ⟨12,dst,a,b,n,arg⟩from by simp[shapeR,fieldsI,namedI]);go_enter Tryz.func27,Tryz.ntmps27;refine wp_letter (fun Q hQ=>?_);have HQ:=Lib.hid hQ;clear hQ;go_wp2_with fail
 all_goals refine wp_world (fun W hW=>?_)
 all_goals obtain⟨hrx,hrr,hry,hrs,hbw⟩:=form_rows (by first|exact Or.inl hW|exact Or.inr hW)
 all_goals refine rfe_region w.heap.size (w.heap.size+1+1) (w.heap.size+1+1+1) (w.heap.size+1) ⟨12,dst,a,b,n,arg⟩ ⟨12,dst,0,0,0,arg⟩ A c true false false false _ _ _ 0 W hrx hry hrs hrr (fun W' hW'=>reqins_any ⟨12,dst,a,b,n,arg⟩ ⟨12,dst,0,0,0,arg⟩ rfl A c B W' (by have:=hW'.size;have:=hbw.size;omega) (HX.out.below ((hbw.trans (hW'.mono hbw.size)).mono hB) (Nat.le_refl _))) (fun W' hW'=>rop_any ⟨12,dst,a,b,n,arg⟩ A c W') rfl _ _ _ _ _ _ _ _ _ _ _ _ _ _ _ _ _ _ _ _ _ _ _ _ _ _ _ _ _ _ _ _ _ _ _ _ _ _ _ _ _ _ _ _ _ _ _ _ _ _ _ _ _ _ _ _ _ _ _ _ _ _ _ _ _ _ _ _ _ _ _ _ _ _ _ _ _ _ _ _ _ _ _ _ _ _ _ _ _ _ _ _ _ _ _ _ _ _ _ _ _ _ _ _ _ _ _ _ _ _ _ _ _ _ _ _ _ _ _ _ _ _ _ _ _ _ _ _ _ _ _ _ _ _ _ _ _ _ _ _ _ _ _ _ _ _ _ _ _ _ _ _ _ _ _ _ _ _ _ _ _ _ _ _ _ _ _ _ _ _ _ _ _ _ _ _ _ _ _ _ _ _ _ _ _ _ (fun W' Y hw' hr'=>?_)
 all_goals have hbw':=(Wr.of_below (F:=fun _=>False) hbw).trans hw' (fun i hi=>Or.inr (by omega))
 all_goals have k0:=hr'.cell (j:=0) rfl
 all_goals have k1:=hr'.cell (j:=1) rfl
 all_goals have k2:=hr'.cell (j:=2) rfl
 all_goals have k3:=hr'.cell (j:=3) rfl
 all_goals clear hW hrx hrr hry hrs hw' hr'
 all_goals go_wp2_with fail
 all_goals refine HQ.out _ _ _ ?_
 all_goals exact bodyPost_ret (v:= .tuple #[.agg #[.bool true,.bool false,.bool false,.bool false],.bool (eqI ⟨12,dst,a,b,n,arg⟩ ⟨12,dst,0,0,0,arg⟩&& (((arg.length:Int)==0)&& opR ⟨12,dst,a,b,n,arg⟩))]) (by simp[results,Tryz.results27,go_sem,k0,k1,k2,k3]) rfl ⟨_,_,_,_,rfl,fun _=>HSH.out,hbw'.below (Nat.le_refl _) (fun _ h=>h.elim)⟩
theorem rform_13(nl ng:Int)(pl:List Int)(PA:Option Addr)(pc:Nat)(dst a b n:Int)(arg:List Int)(A:Option Addr)(c B:Nat)(w:World)(hB:B≤w.heap.size)(hx:LongsAt w B arg (.slice A arg.length c))(hp:LongsAt w B pl (.slice PA pl.length pc)):
  Calls Tryz.prog 27 #[insV ⟨13,dst,a,b,n,arg⟩ A c,.int .i64 nl,.int .i64 ng,.slice PA pl.length pc] w fun e w'=>FormSays (formR nl ng pl ⟨13,dst,a,b,n,arg⟩) (shapeR ⟨13,dst,a,b,n,arg⟩) w e w':=by
 have HX:=Lib.hid hx;have HP:=Lib.hid hp;unfold insV;simp only;clear hx hp;have HV:=Lib.hid (show formR nl ng pl ⟨13,dst,a,b,n,arg⟩=(eqI ⟨13,dst,a,b,n,arg⟩ ⟨13,-1,a,0,0,arg⟩&& (((arg.length:Int)==0)&& opR ⟨13,dst,a,b,n,arg⟩))from by simp[formR,namedI,preR,wantI,fieldsI,freeI,argsR]);rw[HV.out];have HSH:=Lib.hid (show(false,true,false,false)=shapeR ⟨13,dst,a,b,n,arg⟩from by simp[shapeR,fieldsI,namedI]);go_enter Tryz.func27,Tryz.ntmps27;refine wp_letter (fun Q hQ=>?_);have HQ:=Lib.hid hQ;clear hQ;go_wp2_with fail
 all_goals refine wp_world (fun W hW=>?_)
 all_goals obtain⟨hrx,hrr,hry,hrs,hbw⟩:=form_rows (by first|exact Or.inl hW|exact Or.inr hW)
 all_goals refine rfe_region w.heap.size (w.heap.size+1+1) (w.heap.size+1+1+1) (w.heap.size+1) ⟨13,dst,a,b,n,arg⟩ ⟨13,-1,a,0,0,arg⟩ A c false true false false _ _ _ 0 W hrx hry hrs hrr (fun W' hW'=>reqins_any ⟨13,dst,a,b,n,arg⟩ ⟨13,-1,a,0,0,arg⟩ rfl A c B W' (by have:=hW'.size;have:=hbw.size;omega) (HX.out.below ((hbw.trans (hW'.mono hbw.size)).mono hB) (Nat.le_refl _))) (fun W' hW'=>rop_any ⟨13,dst,a,b,n,arg⟩ A c W') rfl _ _ _ _ _ _ _ _ _ _ _ _ _ _ _ _ _ _ _ _ _ _ _ _ _ _ _ _ _ _ _ _ _ _ _ _ _ _ _ _ _ _ _ _ _ _ _ _ _ _ _ _ _ _ _ _ _ _ _ _ _ _ _ _ _ _ _ _ _ _ _ _ _ _ _ _ _ _ _ _ _ _ _ _ _ _ _ _ _ _ _ _ _ _ _ _ _ _ _ _ _ _ _ _ _ _ _ _ _ _ _ _ _ _ _ _ _ _ _ _ _ _ _ _ _ _ _ _ _ _ _ _ _ _ _ _ _ _ _ _ _ _ _ _ _ _ _ _ _ _ _ _ _ _ _ _ _ _ _ _ _ _ _ _ _ _ _ _ _ _ _ _ _ _ _ _ _ _ _ _ _ _ _ _ _ _ (fun W' Y hw' hr'=>?_)
 all_goals have hbw':=(Wr.of_below (F:=fun _=>False) hbw).trans hw' (fun i hi=>Or.inr (by omega))
 all_goals have k0:=hr'.cell (j:=0) rfl
 all_goals have k1:=hr'.cell (j:=1) rfl
 all_goals have k2:=hr'.cell (j:=2) rfl
 all_goals have k3:=hr'.cell (j:=3) rfl
 all_goals clear hW hrx hrr hry hrs hw' hr'
 all_goals go_wp2_with fail
 all_goals refine HQ.out _ _ _ ?_
 all_goals exact bodyPost_ret (v:= .tuple #[.agg #[.bool false,.bool true,.bool false,.bool false],.bool (eqI ⟨13,dst,a,b,n,arg⟩ ⟨13,-1,a,0,0,arg⟩&& (((arg.length:Int)==0)&& opR ⟨13,dst,a,b,n,arg⟩))]) (by simp[results,Tryz.results27,go_sem,k0,k1,k2,k3]) rfl ⟨_,_,_,_,rfl,fun _=>HSH.out,hbw'.below (Nat.le_refl _) (fun _ h=>h.elim)⟩
theorem rform_14(nl ng:Int)(pl:List Int)(PA:Option Addr)(pc:Nat)(dst a b n:Int)(arg:List Int)(A:Option Addr)(c B:Nat)(w:World)(hB:B≤w.heap.size)(hx:LongsAt w B arg (.slice A arg.length c))(hp:LongsAt w B pl (.slice PA pl.length pc)):
  Calls Tryz.prog 27 #[insV ⟨14,dst,a,b,n,arg⟩ A c,.int .i64 nl,.int .i64 ng,.slice PA pl.length pc] w fun e w'=>FormSays (formR nl ng pl ⟨14,dst,a,b,n,arg⟩) (shapeR ⟨14,dst,a,b,n,arg⟩) w e w':=by
 have HX:=Lib.hid hx;have HP:=Lib.hid hp;unfold insV;simp only;clear hx hp;have HV:=Lib.hid (show formR nl ng pl ⟨14,dst,a,b,n,arg⟩=(eqI ⟨14,dst,a,b,n,arg⟩ ⟨14,-1,0,0,n,arg⟩&& (((arg.length:Int)==0)&& opR ⟨14,dst,a,b,n,arg⟩))from by simp[formR,namedI,preR,wantI,fieldsI,freeI,argsR]);rw[HV.out];have HSH:=Lib.hid (show(false,false,false,false)=shapeR ⟨14,dst,a,b,n,arg⟩from by simp[shapeR,fieldsI,namedI]);go_enter Tryz.func27,Tryz.ntmps27;refine wp_letter (fun Q hQ=>?_);have HQ:=Lib.hid hQ;clear hQ;go_wp2_with fail
 all_goals refine wp_world (fun W hW=>?_)
 all_goals obtain⟨hrx,hrr,hry,hrs,hbw⟩:=form_rows (by first|exact Or.inl hW|exact Or.inr hW)
 all_goals refine rfe_region w.heap.size (w.heap.size+1+1) (w.heap.size+1+1+1) (w.heap.size+1) ⟨14,dst,a,b,n,arg⟩ ⟨14,-1,0,0,n,arg⟩ A c false false false false _ _ _ 0 W hrx hry hrs hrr (fun W' hW'=>reqins_any ⟨14,dst,a,b,n,arg⟩ ⟨14,-1,0,0,n,arg⟩ rfl A c B W' (by have:=hW'.size;have:=hbw.size;omega) (HX.out.below ((hbw.trans (hW'.mono hbw.size)).mono hB) (Nat.le_refl _))) (fun W' hW'=>rop_any ⟨14,dst,a,b,n,arg⟩ A c W') rfl _ _ _ _ _ _ _ _ _ _ _ _ _ _ _ _ _ _ _ _ _ _ _ _ _ _ _ _ _ _ _ _ _ _ _ _ _ _ _ _ _ _ _ _ _ _ _ _ _ _ _ _ _ _ _ _ _ _ _ _ _ _ _ _ _ _ _ _ _ _ _ _ _ _ _ _ _ _ _ _ _ _ _ _ _ _ _ _ _ _ _ _ _ _ _ _ _ _ _ _ _ _ _ _ _ _ _ _ _ _ _ _ _ _ _ _ _ _ _ _ _ _ _ _ _ _ _ _ _ _ _ _ _ _ _ _ _ _ _ _ _ _ _ _ _ _ _ _ _ _ _ _ _ _ _ _ _ _ _ _ _ _ _ _ _ _ _ _ _ _ _ _ _ _ _ _ _ _ _ _ _ _ _ _ _ _ (fun W' Y hw' hr'=>?_)
 all_goals have hbw':=(Wr.of_below (F:=fun _=>False) hbw).trans hw' (fun i hi=>Or.inr (by omega))
 all_goals have k0:=hr'.cell (j:=0) rfl
 all_goals have k1:=hr'.cell (j:=1) rfl
 all_goals have k2:=hr'.cell (j:=2) rfl
 all_goals have k3:=hr'.cell (j:=3) rfl
 all_goals clear hW hrx hrr hry hrs hw' hr'
 all_goals go_wp2_with fail
 all_goals refine HQ.out _ _ _ ?_
 all_goals exact bodyPost_ret (v:= .tuple #[.agg #[.bool false,.bool false,.bool false,.bool false],.bool (eqI ⟨14,dst,a,b,n,arg⟩ ⟨14,-1,0,0,n,arg⟩&& (((arg.length:Int)==0)&& opR ⟨14,dst,a,b,n,arg⟩))]) (by simp[results,Tryz.results27,go_sem,k0,k1,k2,k3]) rfl ⟨_,_,_,_,rfl,fun _=>HSH.out,hbw'.below (Nat.le_refl _) (fun _ h=>h.elim)⟩
theorem rform_15(nl ng:Int)(pl:List Int)(PA:Option Addr)(pc:Nat)(dst a b n:Int)(arg:List Int)(A:Option Addr)(c B:Nat)(w:World)(hB:B≤w.heap.size)(hx:LongsAt w B arg (.slice A arg.length c))(hp:LongsAt w B pl (.slice PA pl.length pc)):
  Calls Tryz.prog 27 #[insV ⟨15,dst,a,b,n,arg⟩ A c,.int .i64 nl,.int .i64 ng,.slice PA pl.length pc] w fun e w'=>FormSays (formR nl ng pl ⟨15,dst,a,b,n,arg⟩) (shapeR ⟨15,dst,a,b,n,arg⟩) w e w':=by
 have HX:=Lib.hid hx;have HP:=Lib.hid hp;unfold insV;simp only;clear hx hp;have HV:=Lib.hid (show formR nl ng pl ⟨15,dst,a,b,n,arg⟩=(eqI ⟨15,dst,a,b,n,arg⟩ ⟨15,-1,0,0,n,arg⟩&& (((arg.length:Int)==0)&& opR ⟨15,dst,a,b,n,arg⟩))from by simp[formR,namedI,preR,wantI,fieldsI,freeI,argsR]);rw[HV.out];have HSH:=Lib.hid (show(false,false,false,false)=shapeR ⟨15,dst,a,b,n,arg⟩from by simp[shapeR,fieldsI,namedI]);go_enter Tryz.func27,Tryz.ntmps27;refine wp_letter (fun Q hQ=>?_);have HQ:=Lib.hid hQ;clear hQ;go_wp2_with fail
 all_goals refine wp_world (fun W hW=>?_)
 all_goals obtain⟨hrx,hrr,hry,hrs,hbw⟩:=form_rows (by first|exact Or.inl hW|exact Or.inr hW)
 all_goals refine rfe_region w.heap.size (w.heap.size+1+1) (w.heap.size+1+1+1) (w.heap.size+1) ⟨15,dst,a,b,n,arg⟩ ⟨15,-1,0,0,n,arg⟩ A c false false false false _ _ _ 0 W hrx hry hrs hrr (fun W' hW'=>reqins_any ⟨15,dst,a,b,n,arg⟩ ⟨15,-1,0,0,n,arg⟩ rfl A c B W' (by have:=hW'.size;have:=hbw.size;omega) (HX.out.below ((hbw.trans (hW'.mono hbw.size)).mono hB) (Nat.le_refl _))) (fun W' hW'=>rop_any ⟨15,dst,a,b,n,arg⟩ A c W') rfl _ _ _ _ _ _ _ _ _ _ _ _ _ _ _ _ _ _ _ _ _ _ _ _ _ _ _ _ _ _ _ _ _ _ _ _ _ _ _ _ _ _ _ _ _ _ _ _ _ _ _ _ _ _ _ _ _ _ _ _ _ _ _ _ _ _ _ _ _ _ _ _ _ _ _ _ _ _ _ _ _ _ _ _ _ _ _ _ _ _ _ _ _ _ _ _ _ _ _ _ _ _ _ _ _ _ _ _ _ _ _ _ _ _ _ _ _ _ _ _ _ _ _ _ _ _ _ _ _ _ _ _ _ _ _ _ _ _ _ _ _ _ _ _ _ _ _ _ _ _ _ _ _ _ _ _ _ _ _ _ _ _ _ _ _ _ _ _ _ _ _ _ _ _ _ _ _ _ _ _ _ _ _ _ _ _ (fun W' Y hw' hr'=>?_)
 all_goals have hbw':=(Wr.of_below (F:=fun _=>False) hbw).trans hw' (fun i hi=>Or.inr (by omega))
 all_goals have k0:=hr'.cell (j:=0) rfl
 all_goals have k1:=hr'.cell (j:=1) rfl
 all_goals have k2:=hr'.cell (j:=2) rfl
 all_goals have k3:=hr'.cell (j:=3) rfl
 all_goals clear hW hrx hrr hry hrs hw' hr'
 all_goals go_wp2_with fail
 all_goals refine HQ.out _ _ _ ?_
 all_goals exact bodyPost_ret (v:= .tuple #[.agg #[.bool false,.bool false,.bool false,.bool false],.bool (eqI ⟨15,dst,a,b,n,arg⟩ ⟨15,-1,0,0,n,arg⟩&& (((arg.length:Int)==0)&& opR ⟨15,dst,a,b,n,arg⟩))]) (by simp[results,Tryz.results27,go_sem,k0,k1,k2,k3]) rfl ⟨_,_,_,_,rfl,fun _=>HSH.out,hbw'.below (Nat.le_refl _) (fun _ h=>h.elim)⟩
theorem rform_16(nl ng:Int)(pl:List Int)(PA:Option Addr)(pc:Nat)(dst a b n:Int)(arg:List Int)(A:Option Addr)(c B:Nat)(w:World)(hB:B≤w.heap.size)(hx:LongsAt w B arg (.slice A arg.length c))(hp:LongsAt w B pl (.slice PA pl.length pc)):
  Calls Tryz.prog 27 #[insV ⟨16,dst,a,b,n,arg⟩ A c,.int .i64 nl,.int .i64 ng,.slice PA pl.length pc] w fun e w'=>FormSays (formR nl ng pl ⟨16,dst,a,b,n,arg⟩) (shapeR ⟨16,dst,a,b,n,arg⟩) w e w':=by
 have HX:=Lib.hid hx;have HP:=Lib.hid hp;unfold insV;simp only;clear hx hp;have HV:=Lib.hid (show formR nl ng pl ⟨16,dst,a,b,n,arg⟩=(eqI ⟨16,dst,a,b,n,arg⟩ ⟨16,-1,a,0,n,arg⟩&& (((arg.length:Int)==0)&& opR ⟨16,dst,a,b,n,arg⟩))from by simp[formR,namedI,preR,wantI,fieldsI,freeI,argsR]);rw[HV.out];have HSH:=Lib.hid (show(false,true,false,false)=shapeR ⟨16,dst,a,b,n,arg⟩from by simp[shapeR,fieldsI,namedI]);go_enter Tryz.func27,Tryz.ntmps27;refine wp_letter (fun Q hQ=>?_);have HQ:=Lib.hid hQ;clear hQ;go_wp2_with fail;go_region
 all_goals go_wp2_with fail
 all_goals refine wp_world (fun W hW=>?_)
 all_goals obtain⟨hrx,hrr,hry,hrs,hbw⟩:=form_rows (by first|exact Or.inl hW|exact Or.inr hW)
 all_goals refine rfe_region w.heap.size (w.heap.size+1+1) (w.heap.size+1+1+1) (w.heap.size+1) ⟨16,dst,a,b,n,arg⟩ ⟨16,-1,a,0,n,arg⟩ A c false true false false _ _ _ 0 W hrx hry hrs hrr (fun W' hW'=>reqins_any ⟨16,dst,a,b,n,arg⟩ ⟨16,-1,a,0,n,arg⟩ rfl A c B W' (by have:=hW'.size;have:=hbw.size;omega) (HX.out.below ((hbw.trans (hW'.mono hbw.size)).mono hB) (Nat.le_refl _))) (fun W' hW'=>rop_any ⟨16,dst,a,b,n,arg⟩ A c W') rfl _ _ _ _ _ _ _ _ _ _ _ _ _ _ _ _ _ _ _ _ _ _ _ _ _ _ _ _ _ _ _ _ _ _ _ _ _ _ _ _ _ _ _ _ _ _ _ _ _ _ _ _ _ _ _ _ _ _ _ _ _ _ _ _ _ _ _ _ _ _ _ _ _ _ _ _ _ _ _ _ _ _ _ _ _ _ _ _ _ _ _ _ _ _ _ _ _ _ _ _ _ _ _ _ _ _ _ _ _ _ _ _ _ _ _ _ _ _ _ _ _ _ _ _ _ _ _ _ _ _ _ _ _ _ _ _ _ _ _ _ _ _ _ _ _ _ _ _ _ _ _ _ _ _ _ _ _ _ _ _ _ _ _ _ _ _ _ _ _ _ _ _ _ _ _ _ _ _ _ _ _ _ _ _ _ _ (fun W' Y hw' hr'=>?_)
 all_goals have hbw':=(Wr.of_below (F:=fun _=>False) hbw).trans hw' (fun i hi=>Or.inr (by omega))
 all_goals have k0:=hr'.cell (j:=0) rfl
 all_goals have k1:=hr'.cell (j:=1) rfl
 all_goals have k2:=hr'.cell (j:=2) rfl
 all_goals have k3:=hr'.cell (j:=3) rfl
 all_goals clear hW hrx hrr hry hrs hw' hr'
 all_goals go_wp2_with fail
 all_goals refine HQ.out _ _ _ ?_
 all_goals exact bodyPost_ret (v:= .tuple #[.agg #[.bool false,.bool true,.bool false,.bool false],.bool (eqI ⟨16,dst,a,b,n,arg⟩ ⟨16,-1,a,0,n,arg⟩&& (((arg.length:Int)==0)&& opR ⟨16,dst,a,b,n,arg⟩))]) (by simp[results,Tryz.results27,go_sem,k0,k1,k2,k3]) rfl ⟨_,_,_,_,rfl,fun _=>HSH.out,hbw'.below (Nat.le_refl _) (fun _ h=>h.elim)⟩
theorem rform_17(nl ng:Int)(pl:List Int)(PA:Option Addr)(pc:Nat)(dst a b n:Int)(arg:List Int)(A:Option Addr)(c B:Nat)(w:World)(hB:B≤w.heap.size)(hx:LongsAt w B arg (.slice A arg.length c))(hp:LongsAt w B pl (.slice PA pl.length pc)):
  Calls Tryz.prog 27 #[insV ⟨17,dst,a,b,n,arg⟩ A c,.int .i64 nl,.int .i64 ng,.slice PA pl.length pc] w fun e w'=>FormSays (formR nl ng pl ⟨17,dst,a,b,n,arg⟩) (shapeR ⟨17,dst,a,b,n,arg⟩) w e w':=by
 have HX:=Lib.hid hx;have HP:=Lib.hid hp;unfold insV;simp only;clear hx hp;have HV:=Lib.hid (show formR nl ng pl ⟨17,dst,a,b,n,arg⟩=(eqI ⟨17,dst,a,b,n,arg⟩ ⟨17,-1,a,0,0,arg⟩&& (((arg.length:Int)==0)&& opR ⟨17,dst,a,b,n,arg⟩))from by simp[formR,namedI,preR,wantI,fieldsI,freeI,argsR]);rw[HV.out];have HSH:=Lib.hid (show(false,true,false,false)=shapeR ⟨17,dst,a,b,n,arg⟩from by simp[shapeR,fieldsI,namedI]);go_enter Tryz.func27,Tryz.ntmps27;refine wp_letter (fun Q hQ=>?_);have HQ:=Lib.hid hQ;clear hQ;go_wp2_with fail
 all_goals refine wp_world (fun W hW=>?_)
 all_goals obtain⟨hrx,hrr,hry,hrs,hbw⟩:=form_rows (by first|exact Or.inl hW|exact Or.inr hW)
 all_goals refine rfe_region w.heap.size (w.heap.size+1+1) (w.heap.size+1+1+1) (w.heap.size+1) ⟨17,dst,a,b,n,arg⟩ ⟨17,-1,a,0,0,arg⟩ A c false true false false _ _ _ 0 W hrx hry hrs hrr (fun W' hW'=>reqins_any ⟨17,dst,a,b,n,arg⟩ ⟨17,-1,a,0,0,arg⟩ rfl A c B W' (by have:=hW'.size;have:=hbw.size;omega) (HX.out.below ((hbw.trans (hW'.mono hbw.size)).mono hB) (Nat.le_refl _))) (fun W' hW'=>rop_any ⟨17,dst,a,b,n,arg⟩ A c W') rfl _ _ _ _ _ _ _ _ _ _ _ _ _ _ _ _ _ _ _ _ _ _ _ _ _ _ _ _ _ _ _ _ _ _ _ _ _ _ _ _ _ _ _ _ _ _ _ _ _ _ _ _ _ _ _ _ _ _ _ _ _ _ _ _ _ _ _ _ _ _ _ _ _ _ _ _ _ _ _ _ _ _ _ _ _ _ _ _ _ _ _ _ _ _ _ _ _ _ _ _ _ _ _ _ _ _ _ _ _ _ _ _ _ _ _ _ _ _ _ _ _ _ _ _ _ _ _ _ _ _ _ _ _ _ _ _ _ _ _ _ _ _ _ _ _ _ _ _ _ _ _ _ _ _ _ _ _ _ _ _ _ _ _ _ _ _ _ _ _ _ _ _ _ _ _ _ _ _ _ _ _ _ _ _ _ _ (fun W' Y hw' hr'=>?_)
 all_goals have hbw':=(Wr.of_below (F:=fun _=>False) hbw).trans hw' (fun i hi=>Or.inr (by omega))
 all_goals have k0:=hr'.cell (j:=0) rfl
 all_goals have k1:=hr'.cell (j:=1) rfl
 all_goals have k2:=hr'.cell (j:=2) rfl
 all_goals have k3:=hr'.cell (j:=3) rfl
 all_goals clear hW hrx hrr hry hrs hw' hr'
 all_goals go_wp2_with fail
 all_goals refine HQ.out _ _ _ ?_
 all_goals exact bodyPost_ret (v:= .tuple #[.agg #[.bool false,.bool true,.bool false,.bool false],.bool (eqI ⟨17,dst,a,b,n,arg⟩ ⟨17,-1,a,0,0,arg⟩&& (((arg.length:Int)==0)&& opR ⟨17,dst,a,b,n,arg⟩))]) (by simp[results,Tryz.results27,go_sem,k0,k1,k2,k3]) rfl ⟨_,_,_,_,rfl,fun _=>HSH.out,hbw'.below (Nat.le_refl _) (fun _ h=>h.elim)⟩
theorem rform_none(nl ng:Int)(pl:List Int)(PA:Option Addr)(pc:Nat)(op dst a b n:Int)(arg:List Int)(A:Option Addr)(c B:Nat)(w:World)(hB:B≤w.heap.size)(hx:LongsAt w B arg (.slice A arg.length c))(hp:LongsAt w B pl (.slice PA pl.length pc))(h1:op≠1)(h2:op≠2)(h3:op≠3)(h4:op≠4)(h5:op≠5)(h6:op≠6)(h7:op≠7)(h8:op≠8)(h9:op≠9)(h10:op≠10)(h11:op≠11)(h12:op≠12)(h13:op≠13)(h14:op≠14)(h15:op≠15)(h16:op≠16)(h17:op≠17):
  Calls Tryz.prog 27 #[insV ⟨op,dst,a,b,n,arg⟩ A c,.int .i64 nl,.int .i64 ng,.slice PA pl.length pc] w fun e w'=>FormSays (formR nl ng pl ⟨op,dst,a,b,n,arg⟩) (shapeR ⟨op,dst,a,b,n,arg⟩) w e w':=by
 unfold insV;simp only;have HV:=Lib.hid (show formR nl ng pl ⟨op,dst,a,b,n,arg⟩=false from by simp[formR,namedI,h1,h2,h3,h4,h5,h6,h7,h8,h9,h10,h11,h12,h13,h14,h15,h16,h17]);have e1:(op==1)=false:=by simpa using h1
 have e2:(op==2)=false:=by simpa using h2
 have e3:(op==3)=false:=by simpa using h3
 have e4:(op==4)=false:=by simpa using h4
 have e5:(op==5)=false:=by simpa using h5
 have e6:(op==6)=false:=by simpa using h6
 have e7:(op==7)=false:=by simpa using h7
 have e8:(op==8)=false:=by simpa using h8
 have e9:(op==9)=false:=by simpa using h9
 have e10:(op==10)=false:=by simpa using h10
 have e11:(op==11)=false:=by simpa using h11
 have e12:(op==12)=false:=by simpa using h12
 have e13:(op==13)=false:=by simpa using h13
 have e14:(op==14)=false:=by simpa using h14
 have e15:(op==15)=false:=by simpa using h15
 have e16:(op==16)=false:=by simpa using h16
 have e17:(op==17)=false:=by simpa using h17
 clear hx hp h1 h2 h3 h4 h5 h6 h7 h8 h9 h10 h11 h12 h13 h14 h15 h16 h17;rw[HV.out];go_enter Tryz.func27,Tryz.ntmps27;refine wp_letter (fun Q hQ=>?_);have HQ:=Lib.hid hQ;clear hQ;go_wp2_with fail;refine HQ.out _ _ _ ?_;refine bodyPost_ret (v:= .tuple #[.agg #[.bool false,.bool false,.bool false,.bool false],.bool false]) (by simp[results,Tryz.results27,go_sem]) rfl ⟨_,_,_,_,rfl,fun h=>(by cases h),?_⟩;exact(form_rows (by first|exact Or.inl rfl|exact Or.inr rfl)).2.2.2.2
theorem rform_any(nl ng:Int)(pl:List Int)(PA:Option Addr)(pc:Nat)(x:InsS)(A:Option Addr)(c B:Nat)(w:World)(hB:B≤w.heap.size)(hx:LongsAt w B x.arg (.slice A x.arg.length c))(hp:LongsAt w B pl (.slice PA pl.length pc)):
  Calls Tryz.prog 27 #[insV x A c,.int .i64 nl,.int .i64 ng,.slice PA pl.length pc] w fun e w'=>FormSays (formR nl ng pl x) (shapeR x) w e w':=by
 obtain⟨op,dst,a,b,n,arg⟩:=x;simp only at hx;have h:op=1∨op=2∨op=3∨op=4∨op=5∨op=6∨op=7∨op=8∨op=9∨op=10∨op=11∨op=12∨op=13∨op=14∨op=15∨op=16∨op=17∨(op≠1∧op≠2∧op≠3∧op≠4∧op≠5∧op≠6∧op≠7∧op≠8∧op≠9∧op≠10∧op≠11∧op≠12∧op≠13∧op≠14∧op≠15∧op≠16∧op≠17):=by omega
 rcases h with rfl|rfl|rfl|rfl|rfl|rfl|rfl|rfl|rfl|rfl|rfl|rfl|rfl|rfl|rfl|rfl|rfl|⟨h1,h2,h3,h4,h5,h6,h7,h8,h9,h10,h11,h12,h13,h14,h15,h16,h17⟩
 ·exact rform_1 nl ng pl PA pc dst a b n arg A c B w hB hx hp
 ·exact rform_2 nl ng pl PA pc dst a b n arg A c B w hB hx hp
 ·exact rform_3 nl ng pl PA pc dst a b n arg A c B w hB hx hp
 ·exact rform_4 nl ng pl PA pc dst a b n arg A c B w hB hx hp
 ·exact rform_5 nl ng pl PA pc dst a b n arg A c B w hB hx hp
 ·exact rform_6 nl ng pl PA pc dst a b n arg A c B w hB hx hp
 ·exact rform_7 nl ng pl PA pc dst a b n arg A c B w hB hx hp
 ·exact rform_8 nl ng pl PA pc dst a b n arg A c B w hB hx hp
 ·exact rform_9 nl ng pl PA pc dst a b n arg A c B w hB hx hp
 ·exact rform_10 nl ng pl PA pc dst a b n arg A c B w hB hx hp
 ·exact rform_11 nl ng pl PA pc dst a b n arg A c B w hB hx hp
 ·exact rform_12 nl ng pl PA pc dst a b n arg A c B w hB hx hp
 ·exact rform_13 nl ng pl PA pc dst a b n arg A c B w hB hx hp
 ·exact rform_14 nl ng pl PA pc dst a b n arg A c B w hB hx hp
 ·exact rform_15 nl ng pl PA pc dst a b n arg A c B w hB hx hp
 ·exact rform_16 nl ng pl PA pc dst a b n arg A c B w hB hx hp
 ·exact rform_17 nl ng pl PA pc dst a b n arg A c B w hB hx hp
 ·exact rform_none nl ng pl PA pc op dst a b n arg A c B w hB hx hp h1 h2 h3 h4 h5 h6 h7 h8 h9 h10 h11 h12 h13 h14 h15 h16 h17
end Go.Proofs.YtlenilbkifofjaaGreatDoor
