/- The page's Form, whole. Conditions: as stated. -/
import Derived.Test.YtinmgbodgecoeaaGreatRFormCZz
set_option linter.unusedSimpArgs false
set_option linter.unusedVariables false
set_option maxHeartbeats 8000000
set_option maxRecDepth 100000
open Go.Proofs.Tryz
namespace Go.Proofs.YtinmgbodgecoeaaGreat
open Go.RowKit
theorem Rx(nl ng:Int)(pl:List Int)(PA:Option Addr)(pc:Nat)(dst a b n:Int)(arg:List Int)(A:Option Addr)(c B:Nat)(w:World)(hB:B<=w.heap.size)(hx:aD w B arg (.slice A arg.length c))(hp:aD w B pl (.slice PA pl.length pc)):
  Calls prog 36 #[cH ⟨8,dst,a,b,n,arg⟩ A c,.int .i64 nl,.int .i64 ng,.slice PA pl.length pc] w λe w'=>dJ (bD nl ng pl ⟨8,dst,a,b,n,arg⟩) (bE ⟨8,dst,a,b,n,arg⟩) w e w':=by
 have HX:=ae hx;have HP:=ae hp;unfold cH;simp only;clear hx hp;have HS:=ae (λW=>uG b W);cases hi:sK b with
 |false=>
  have HI:=ae hi;rw[hi]at HS;clear hi;have HV:=ae (show bD nl ng pl ⟨8,dst,a,b,n,arg⟩=false from by simp[bD,aP,lU,gA,aI,eN,fS,HI.out]);rw[HV.out];go_enter func36,ntmps36;refine aj λQ HQ=>?_;go_wp2_with fail;go_region
  all_goals go_wp2_with fail
  all_goals refine(HS _).mono ?_
  all_goals rintro e w1 ⟨rfl,rfl⟩
  all_goals go_wp2_with fail
  all_goals refine HQ _ _ _ ?_
  all_goals refine aS (v:= .tuple #[.agg #[.bool true,.bool true,.bool false,.bool false],.bool false]) (by simp[results,results36,go_sem]) rfl ⟨_,_,_,_,rfl,λh=>(by cases h),?_⟩
  all_goals exact(bM (by first|exact aK rfl|exact bu rfl)).2.2.2.2
 |true=>
  have HI:=ae hi;rw[hi]at HS;clear hi;have HV:=ae (show bD nl ng pl ⟨8,dst,a,b,n,arg⟩=(p9 ⟨8,dst,a,b,n,arg⟩ ⟨8,dst,a,b,n,arg⟩&& (((arg.length:Int)==0)&& pR ⟨8,dst,a,b,n,arg⟩))from by simp[bD,aP,lU,gA,aI,eN,fS,HI.out]);rw[HV.out];have qZ:=ae (show(true,true,false,false)=bE ⟨8,dst,a,b,n,arg⟩from by simp[bE,aI,aP]);go_enter func36,ntmps36;refine aj λQ HQ=>?_;go_wp2_with fail;go_region
  all_goals go_wp2_with fail
  all_goals refine(HS _).mono ?_
  all_goals rintro e w1 ⟨rfl,rfl⟩
  all_goals go_wp2_with fail
  all_goals refine cO (λW hW=>?_)
  all_goals obtain⟨hrx,jv,nQ,hrs,aJ⟩:=bM (by first|exact aK hW|exact bu hW)
  all_goals refine cC w.heap.size (w.heap.size+1+1) (w.heap.size+1+1+1) (w.heap.size+1) ⟨8,dst,a,b,n,arg⟩ ⟨8,dst,a,b,n,arg⟩ A c true true false false _ _ _ 0 W hrx nQ hrs jv (λW' hW'=>cD ⟨8,dst,a,b,n,arg⟩ ⟨8,dst,a,b,n,arg⟩ rfl A c B W' (by have:=hW'.size;have:=aJ.size;omega) (HX.below ((aJ.trans (hW'.mono aJ.size)).mono hB) (aY _))) (λW' hW'=>fN ⟨8,dst,a,b,n,arg⟩ A c W') rfl _ (λW' Y hw' hr'=>?_)
  all_goals have iO:=(eW aJ).trans hw' (λi hi=>bu (by omega))
  all_goals have k0:=hr'.cell (j:=0) rfl
  all_goals have k1:=hr'.cell (j:=1) rfl
  all_goals have k2:=hr'.cell (j:=2) rfl
  all_goals have k3:=hr'.cell (j:=3) rfl
  all_goals clear hW hrx jv nQ hrs hw' hr'
  all_goals go_wp2_with fail
  all_goals refine HQ _ _ _ ?_
  all_goals exact aS (v:= .tuple #[.agg #[.bool true,.bool true,.bool false,.bool false],.bool (p9 ⟨8,dst,a,b,n,arg⟩ ⟨8,dst,a,b,n,arg⟩&& (((arg.length:Int)==0)&& pR ⟨8,dst,a,b,n,arg⟩))]) (by simp[results,results36,go_sem,k0,k1,k2,k3]) rfl ⟨_,_,_,_,rfl,λ_=>qZ.out,iO.below (aY _) (λ_ h=>h.elim)⟩
theorem Rw(nl ng:Int)(pl:List Int)(PA:Option Addr)(pc:Nat)(dst a b n:Int)(arg:List Int)(A:Option Addr)(c B:Nat)(w:World)(hB:B<=w.heap.size)(hx:aD w B arg (.slice A arg.length c))(hp:aD w B pl (.slice PA pl.length pc)):
  Calls prog 36 #[cH ⟨9,dst,a,b,n,arg⟩ A c,.int .i64 nl,.int .i64 ng,.slice PA pl.length pc] w λe w'=>dJ (bD nl ng pl ⟨9,dst,a,b,n,arg⟩) (bE ⟨9,dst,a,b,n,arg⟩) w e w':=by
 have HX:=ae hx;have HP:=ae hp;unfold cH;simp only;clear hx hp;have HS:=ae (λW=>uG b W);cases hi:sK b with
 |false=>
  have HI:=ae hi;rw[hi]at HS;clear hi;have HV:=ae (show bD nl ng pl ⟨9,dst,a,b,n,arg⟩=false from by simp[bD,aP,lU,gA,aI,eN,fS,HI.out]);rw[HV.out];go_enter func36,ntmps36;refine aj λQ HQ=>?_;go_wp2_with fail;go_region
  all_goals go_wp2_with fail
  all_goals refine(HS _).mono ?_
  all_goals rintro e w1 ⟨rfl,rfl⟩
  all_goals go_wp2_with fail
  all_goals refine HQ _ _ _ ?_
  all_goals refine aS (v:= .tuple #[.agg #[.bool true,.bool true,.bool false,.bool false],.bool false]) (by simp[results,results36,go_sem]) rfl ⟨_,_,_,_,rfl,λh=>(by cases h),?_⟩
  all_goals exact(bM (by first|exact aK rfl|exact bu rfl)).2.2.2.2
 |true=>
  have HI:=ae hi;rw[hi]at HS;clear hi;have HV:=ae (show bD nl ng pl ⟨9,dst,a,b,n,arg⟩=(p9 ⟨9,dst,a,b,n,arg⟩ ⟨9,dst,a,b,n,arg⟩&& (((arg.length:Int)==0)&& pR ⟨9,dst,a,b,n,arg⟩))from by simp[bD,aP,lU,gA,aI,eN,fS,HI.out]);rw[HV.out];have qZ:=ae (show(true,true,false,false)=bE ⟨9,dst,a,b,n,arg⟩from by simp[bE,aI,aP]);go_enter func36,ntmps36;refine aj λQ HQ=>?_;go_wp2_with fail;go_region
  all_goals go_wp2_with fail
  all_goals refine(HS _).mono ?_
  all_goals rintro e w1 ⟨rfl,rfl⟩
  all_goals go_wp2_with fail
  all_goals refine cO (λW hW=>?_)
  all_goals obtain⟨hrx,jv,nQ,hrs,aJ⟩:=bM (by first|exact aK hW|exact bu hW)
  all_goals refine cC w.heap.size (w.heap.size+1+1) (w.heap.size+1+1+1) (w.heap.size+1) ⟨9,dst,a,b,n,arg⟩ ⟨9,dst,a,b,n,arg⟩ A c true true false false _ _ _ 0 W hrx nQ hrs jv (λW' hW'=>cD ⟨9,dst,a,b,n,arg⟩ ⟨9,dst,a,b,n,arg⟩ rfl A c B W' (by have:=hW'.size;have:=aJ.size;omega) (HX.below ((aJ.trans (hW'.mono aJ.size)).mono hB) (aY _))) (λW' hW'=>fN ⟨9,dst,a,b,n,arg⟩ A c W') rfl _ (λW' Y hw' hr'=>?_)
  all_goals have iO:=(eW aJ).trans hw' (λi hi=>bu (by omega))
  all_goals have k0:=hr'.cell (j:=0) rfl
  all_goals have k1:=hr'.cell (j:=1) rfl
  all_goals have k2:=hr'.cell (j:=2) rfl
  all_goals have k3:=hr'.cell (j:=3) rfl
  all_goals clear hW hrx jv nQ hrs hw' hr'
  all_goals go_wp2_with fail
  all_goals refine HQ _ _ _ ?_
  all_goals exact aS (v:= .tuple #[.agg #[.bool true,.bool true,.bool false,.bool false],.bool (p9 ⟨9,dst,a,b,n,arg⟩ ⟨9,dst,a,b,n,arg⟩&& (((arg.length:Int)==0)&& pR ⟨9,dst,a,b,n,arg⟩))]) (by simp[results,results36,go_sem,k0,k1,k2,k3]) rfl ⟨_,_,_,_,rfl,λ_=>qZ.out,iO.below (aY _) (λ_ h=>h.elim)⟩
theorem OH(nl ng:Int)(pl:List Int)(PA:Option Addr)(pc:Nat)(dst a b n:Int)(arg:List Int)(A:Option Addr)(c B:Nat)(w:World)(hB:B<=w.heap.size)(hx:aD w B arg (.slice A arg.length c))(hp:aD w B pl (.slice PA pl.length pc)):
  Calls prog 36 #[cH ⟨10,dst,a,b,n,arg⟩ A c,.int .i64 nl,.int .i64 ng,.slice PA pl.length pc] w λe w'=>dJ (bD nl ng pl ⟨10,dst,a,b,n,arg⟩) (bE ⟨10,dst,a,b,n,arg⟩) w e w':=by
 have HX:=ae hx;have HP:=ae hp;unfold cH;simp only;have hpl:=(SliceAt.len hp).2;by_cases h0:n<0
 ·have e0:decide (n<0)=true:=by simpa using h0
  have H0:=ae h0;clear h0 hx hp;have HV:=ae (show bD nl ng pl ⟨10,dst,a,b,n,arg⟩=false from by have:=H0.out;simp[bD,aP,lU,gA,aI,eN,fS];omega);rw[HV.out];go_enter func36,ntmps36;refine aj λQ HQ=>?_;go_wp2_with fail
  all_goals refine HQ _ _ _ ?_
  all_goals refine aS (v:= .tuple #[.agg #[.bool false,.bool false,.bool false,.bool true],.bool false]) (by simp[results,results36,go_sem]) rfl ⟨_,_,_,_,rfl,λh=>(by cases h),?_⟩
  all_goals exact(bM (by first|exact aK rfl|exact bu rfl)).2.2.2.2
 ·have e0:decide (n<0)=false:=by simpa using h0
  by_cases h1:(pl.length:Int)<=n
  ·have e1:decide ((pl.length:Int)<=n)=true:=by simpa using h1
   have H1:=ae h1;clear h0 h1 hx hp;have HV:=ae (show bD nl ng pl ⟨10,dst,a,b,n,arg⟩=false from by have:=H1.out;simp[bD,aP,lU,gA,aI,eN,fS];omega);rw[HV.out];go_enter func36,ntmps36;refine aj λQ HQ=>?_;go_wp2_with fail
   all_goals refine HQ _ _ _ ?_
   all_goals refine aS (v:= .tuple #[.agg #[.bool false,.bool false,.bool false,.bool true],.bool false]) (by simp[results,results36,go_sem]) rfl ⟨_,_,_,_,rfl,λh=>(by cases h),?_⟩
   all_goals exact(bM (by first|exact aK rfl|exact bu rfl)).2.2.2.2
  ·have e1:decide ((pl.length:Int)<=n)=false:=by simpa using h1
   obtain⟨m,rfl⟩:=Int.eq_ofNat_of_zero_le (show 0<=n by omega);have uQ:m<pl.length:=by omega
   obtain⟨sb,so,rfl,Ey,g0,MX⟩:=hp.at uQ;have hg:pl.getD m 0=pl[m]:=by rw[List.getD_eq_getElem?_getD,List.getElem?_eq_getElem uQ];rfl
   obtain⟨v,hv⟩:∃v,v=pl[m]:=⟨_,rfl⟩
   rw[<-hv]at g0 hg;clear hv MX;have hs0:sb<w.heap.size:=by omega
   have hs1:sb<w.heap.size+1:=by omega
   have hs2:sb<w.heap.size+1+1:=by omega
   have hs3:sb<w.heap.size+1+1+1:=by omega
   have hs4:sb<w.heap.size+1+1+1+1:=by omega
   have hm0:(0:Int)<=(m:Int):=by omega
   have hm1:(m:Int)<(pl.length:Int):=by omega
   by_cases hd:dst= -1
   ·subst hd;have Xr:fS pl ⟨10,-1,a,b,(m:Int),arg⟩=pl.getD m 0:=by simp[fS]
    rw[hg]at Xr;have H1:=ae (And.intro uQ Xr);clear h0 h1 uQ hg hx hp Xr;have HV:=ae (show bD nl ng pl ⟨10,-1,a,b,(m:Int),arg⟩=(p9 ⟨10,-1,a,b,(m:Int),arg⟩ ⟨10,-1,0,0,(m:Int),arg⟩&& (((arg.length:Int)==v)&& pR ⟨10,-1,a,b,(m:Int),arg⟩))from by unfold bD;rw[H1.2];unfold lU;simp[aP,gA,aI,eN,H1.1]);rw[HV.out];have qZ:=ae (show(false,false,false,true)=bE ⟨10,-1,a,b,(m:Int),arg⟩from by simp[bE,aI,aP]);go_enter func36,ntmps36;refine aj λQ HQ=>?_;go_wp2_with fail
    all_goals refine cO (λW hW=>?_)
    all_goals obtain⟨hrx,jv,nQ,hrs,aJ⟩:=bM (by first|exact aK hW|exact bu hW)
    all_goals refine cC w.heap.size (w.heap.size+1+1) (w.heap.size+1+1+1) (w.heap.size+1) ⟨10,-1,a,b,(m:Int),arg⟩ ⟨10,-1,0,0,(m:Int),arg⟩ A c false false false true _ _ _ v W hrx nQ hrs jv (λW' hW'=>cD ⟨10,-1,a,b,(m:Int),arg⟩ ⟨10,-1,0,0,(m:Int),arg⟩ rfl A c B W' (by have:=hW'.size;have:=aJ.size;omega) (HX.below ((aJ.trans (hW'.mono aJ.size)).mono hB) (aY _))) (λW' hW'=>fN ⟨10,-1,a,b,(m:Int),arg⟩ A c W') rfl _ (λW' Y hw' hr'=>?_)
    all_goals have iO:=(eW aJ).trans hw' (λi hi=>bu (by omega))
    all_goals have k0:=hr'.cell (j:=0) rfl
    all_goals have k1:=hr'.cell (j:=1) rfl
    all_goals have k2:=hr'.cell (j:=2) rfl
    all_goals have k3:=hr'.cell (j:=3) rfl
    all_goals clear hW hrx jv nQ hrs hw' hr'
    all_goals go_wp2_with fail
    all_goals refine HQ _ _ _ ?_
    all_goals exact aS (v:= .tuple #[.agg #[.bool false,.bool false,.bool false,.bool true],.bool (p9 ⟨10,-1,a,b,(m:Int),arg⟩ ⟨10,-1,0,0,(m:Int),arg⟩&& (((arg.length:Int)==v)&& pR ⟨10,-1,a,b,(m:Int),arg⟩))]) (by simp[results,results36,go_sem,k0,k1,k2,k3]) rfl ⟨_,_,_,_,rfl,λ_=>qZ.out,iO.below (aY _) (λ_ h=>h.elim)⟩
   ·have HD:=ae hd;have e2:(dst != -1)=true:=by simpa using hd
    have Xr:fS pl ⟨10,dst,a,b,(m:Int),arg⟩=pl.getD m 0:=by simp[fS]
    rw[hg]at Xr;have H1:=ae (And.intro uQ Xr);clear h0 h1 uQ hg hx hp Xr hd;have HV:=ae (show bD nl ng pl ⟨10,dst,a,b,(m:Int),arg⟩=(p9 ⟨10,dst,a,b,(m:Int),arg⟩ ⟨10,dst,0,0,(m:Int),arg⟩&& (((arg.length:Int)==v)&& pR ⟨10,dst,a,b,(m:Int),arg⟩))from by unfold bD;rw[H1.2];unfold lU;simp[aP,gA,aI,eN,H1.1,HD.out]);rw[HV.out];have qZ:=ae (show(true,false,false,true)=bE ⟨10,dst,a,b,(m:Int),arg⟩from by simp[bE,aI,aP,HD.out]);go_enter func36,ntmps36;refine aj λQ HQ=>?_;go_wp2_with fail
    all_goals refine cO (λW hW=>?_)
    all_goals obtain⟨hrx,jv,nQ,hrs,aJ⟩:=bM (by first|exact aK hW|exact bu hW)
    all_goals refine cC w.heap.size (w.heap.size+1+1) (w.heap.size+1+1+1) (w.heap.size+1) ⟨10,dst,a,b,(m:Int),arg⟩ ⟨10,dst,0,0,(m:Int),arg⟩ A c true false false true _ _ _ v W hrx nQ hrs jv (λW' hW'=>cD ⟨10,dst,a,b,(m:Int),arg⟩ ⟨10,dst,0,0,(m:Int),arg⟩ rfl A c B W' (by have:=hW'.size;have:=aJ.size;omega) (HX.below ((aJ.trans (hW'.mono aJ.size)).mono hB) (aY _))) (λW' hW'=>fN ⟨10,dst,a,b,(m:Int),arg⟩ A c W') rfl _ (λW' Y hw' hr'=>?_)
    all_goals have iO:=(eW aJ).trans hw' (λi hi=>bu (by omega))
    all_goals have k0:=hr'.cell (j:=0) rfl
    all_goals have k1:=hr'.cell (j:=1) rfl
    all_goals have k2:=hr'.cell (j:=2) rfl
    all_goals have k3:=hr'.cell (j:=3) rfl
    all_goals clear hW hrx jv nQ hrs hw' hr'
    all_goals go_wp2_with fail
    all_goals refine HQ _ _ _ ?_
    all_goals exact aS (v:= .tuple #[.agg #[.bool true,.bool false,.bool false,.bool true],.bool (p9 ⟨10,dst,a,b,(m:Int),arg⟩ ⟨10,dst,0,0,(m:Int),arg⟩&& (((arg.length:Int)==v)&& pR ⟨10,dst,a,b,(m:Int),arg⟩))]) (by simp[results,results36,go_sem,k0,k1,k2,k3]) rfl ⟨_,_,_,_,rfl,λ_=>qZ.out,iO.below (aY _) (λ_ h=>h.elim)⟩
theorem OG(nl ng:Int)(pl:List Int)(PA:Option Addr)(pc:Nat)(dst a b n:Int)(arg:List Int)(A:Option Addr)(c B:Nat)(w:World)(hB:B<=w.heap.size)(hx:aD w B arg (.slice A arg.length c))(hp:aD w B pl (.slice PA pl.length pc)):
  Calls prog 36 #[cH ⟨11,dst,a,b,n,arg⟩ A c,.int .i64 nl,.int .i64 ng,.slice PA pl.length pc] w λe w'=>dJ (bD nl ng pl ⟨11,dst,a,b,n,arg⟩) (bE ⟨11,dst,a,b,n,arg⟩) w e w':=by
 have HX:=ae hx;have HP:=ae hp;unfold cH;simp only;clear hx hp;have HV:=ae (show bD nl ng pl ⟨11,dst,a,b,n,arg⟩=(p9 ⟨11,dst,a,b,n,arg⟩ ⟨11,-1,a,0,0,arg⟩&& (((arg.length:Int)==0)&& pR ⟨11,dst,a,b,n,arg⟩))from by simp[bD,aP,lU,gA,aI,eN,fS]);rw[HV.out];have qZ:=ae (show(false,true,false,false)=bE ⟨11,dst,a,b,n,arg⟩from by simp[bE,aI,aP]);go_enter func36,ntmps36;refine aj λQ HQ=>?_;go_wp2_with fail
 all_goals refine cO (λW hW=>?_)
 all_goals obtain⟨hrx,jv,nQ,hrs,aJ⟩:=bM (by first|exact aK hW|exact bu hW)
 all_goals refine cC w.heap.size (w.heap.size+1+1) (w.heap.size+1+1+1) (w.heap.size+1) ⟨11,dst,a,b,n,arg⟩ ⟨11,-1,a,0,0,arg⟩ A c false true false false _ _ _ 0 W hrx nQ hrs jv (λW' hW'=>cD ⟨11,dst,a,b,n,arg⟩ ⟨11,-1,a,0,0,arg⟩ rfl A c B W' (by have:=hW'.size;have:=aJ.size;omega) (HX.below ((aJ.trans (hW'.mono aJ.size)).mono hB) (aY _))) (λW' hW'=>fN ⟨11,dst,a,b,n,arg⟩ A c W') rfl _ (λW' Y hw' hr'=>?_)
 all_goals have iO:=(eW aJ).trans hw' (λi hi=>bu (by omega))
 all_goals have k0:=hr'.cell (j:=0) rfl
 all_goals have k1:=hr'.cell (j:=1) rfl
 all_goals have k2:=hr'.cell (j:=2) rfl
 all_goals have k3:=hr'.cell (j:=3) rfl
 all_goals clear hW hrx jv nQ hrs hw' hr'
 all_goals go_wp2_with fail
 all_goals refine HQ _ _ _ ?_
 all_goals exact aS (v:= .tuple #[.agg #[.bool false,.bool true,.bool false,.bool false],.bool (p9 ⟨11,dst,a,b,n,arg⟩ ⟨11,-1,a,0,0,arg⟩&& (((arg.length:Int)==0)&& pR ⟨11,dst,a,b,n,arg⟩))]) (by simp[results,results36,go_sem,k0,k1,k2,k3]) rfl ⟨_,_,_,_,rfl,λ_=>qZ.out,iO.below (aY _) (λ_ h=>h.elim)⟩
theorem OE(nl ng:Int)(pl:List Int)(PA:Option Addr)(pc:Nat)(dst a b n:Int)(arg:List Int)(A:Option Addr)(c B:Nat)(w:World)(hB:B<=w.heap.size)(hx:aD w B arg (.slice A arg.length c))(hp:aD w B pl (.slice PA pl.length pc)):
  Calls prog 36 #[cH ⟨12,dst,a,b,n,arg⟩ A c,.int .i64 nl,.int .i64 ng,.slice PA pl.length pc] w λe w'=>dJ (bD nl ng pl ⟨12,dst,a,b,n,arg⟩) (bE ⟨12,dst,a,b,n,arg⟩) w e w':=by
 have HX:=ae hx;have HP:=ae hp;unfold cH;simp only;clear hx hp;have HV:=ae (show bD nl ng pl ⟨12,dst,a,b,n,arg⟩=(p9 ⟨12,dst,a,b,n,arg⟩ ⟨12,dst,0,0,0,arg⟩&& (((arg.length:Int)==0)&& pR ⟨12,dst,a,b,n,arg⟩))from by simp[bD,aP,lU,gA,aI,eN,fS]);rw[HV.out];have qZ:=ae (show(true,false,false,false)=bE ⟨12,dst,a,b,n,arg⟩from by simp[bE,aI,aP]);go_enter func36,ntmps36;refine aj λQ HQ=>?_;go_wp2_with fail
 all_goals refine cO (λW hW=>?_)
 all_goals obtain⟨hrx,jv,nQ,hrs,aJ⟩:=bM (by first|exact aK hW|exact bu hW)
 all_goals refine cC w.heap.size (w.heap.size+1+1) (w.heap.size+1+1+1) (w.heap.size+1) ⟨12,dst,a,b,n,arg⟩ ⟨12,dst,0,0,0,arg⟩ A c true false false false _ _ _ 0 W hrx nQ hrs jv (λW' hW'=>cD ⟨12,dst,a,b,n,arg⟩ ⟨12,dst,0,0,0,arg⟩ rfl A c B W' (by have:=hW'.size;have:=aJ.size;omega) (HX.below ((aJ.trans (hW'.mono aJ.size)).mono hB) (aY _))) (λW' hW'=>fN ⟨12,dst,a,b,n,arg⟩ A c W') rfl _ (λW' Y hw' hr'=>?_)
 all_goals have iO:=(eW aJ).trans hw' (λi hi=>bu (by omega))
 all_goals have k0:=hr'.cell (j:=0) rfl
 all_goals have k1:=hr'.cell (j:=1) rfl
 all_goals have k2:=hr'.cell (j:=2) rfl
 all_goals have k3:=hr'.cell (j:=3) rfl
 all_goals clear hW hrx jv nQ hrs hw' hr'
 all_goals go_wp2_with fail
 all_goals refine HQ _ _ _ ?_
 all_goals exact aS (v:= .tuple #[.agg #[.bool true,.bool false,.bool false,.bool false],.bool (p9 ⟨12,dst,a,b,n,arg⟩ ⟨12,dst,0,0,0,arg⟩&& (((arg.length:Int)==0)&& pR ⟨12,dst,a,b,n,arg⟩))]) (by simp[results,results36,go_sem,k0,k1,k2,k3]) rfl ⟨_,_,_,_,rfl,λ_=>qZ.out,iO.below (aY _) (λ_ h=>h.elim)⟩
theorem OD(nl ng:Int)(pl:List Int)(PA:Option Addr)(pc:Nat)(dst a b n:Int)(arg:List Int)(A:Option Addr)(c B:Nat)(w:World)(hB:B<=w.heap.size)(hx:aD w B arg (.slice A arg.length c))(hp:aD w B pl (.slice PA pl.length pc)):
  Calls prog 36 #[cH ⟨13,dst,a,b,n,arg⟩ A c,.int .i64 nl,.int .i64 ng,.slice PA pl.length pc] w λe w'=>dJ (bD nl ng pl ⟨13,dst,a,b,n,arg⟩) (bE ⟨13,dst,a,b,n,arg⟩) w e w':=by
 have HX:=ae hx;have HP:=ae hp;unfold cH;simp only;clear hx hp;have HV:=ae (show bD nl ng pl ⟨13,dst,a,b,n,arg⟩=(p9 ⟨13,dst,a,b,n,arg⟩ ⟨13,-1,a,0,0,arg⟩&& (((arg.length:Int)==0)&& pR ⟨13,dst,a,b,n,arg⟩))from by simp[bD,aP,lU,gA,aI,eN,fS]);rw[HV.out];have qZ:=ae (show(false,true,false,false)=bE ⟨13,dst,a,b,n,arg⟩from by simp[bE,aI,aP]);go_enter func36,ntmps36;refine aj λQ HQ=>?_;go_wp2_with fail
 all_goals refine cO (λW hW=>?_)
 all_goals obtain⟨hrx,jv,nQ,hrs,aJ⟩:=bM (by first|exact aK hW|exact bu hW)
 all_goals refine cC w.heap.size (w.heap.size+1+1) (w.heap.size+1+1+1) (w.heap.size+1) ⟨13,dst,a,b,n,arg⟩ ⟨13,-1,a,0,0,arg⟩ A c false true false false _ _ _ 0 W hrx nQ hrs jv (λW' hW'=>cD ⟨13,dst,a,b,n,arg⟩ ⟨13,-1,a,0,0,arg⟩ rfl A c B W' (by have:=hW'.size;have:=aJ.size;omega) (HX.below ((aJ.trans (hW'.mono aJ.size)).mono hB) (aY _))) (λW' hW'=>fN ⟨13,dst,a,b,n,arg⟩ A c W') rfl _ (λW' Y hw' hr'=>?_)
 all_goals have iO:=(eW aJ).trans hw' (λi hi=>bu (by omega))
 all_goals have k0:=hr'.cell (j:=0) rfl
 all_goals have k1:=hr'.cell (j:=1) rfl
 all_goals have k2:=hr'.cell (j:=2) rfl
 all_goals have k3:=hr'.cell (j:=3) rfl
 all_goals clear hW hrx jv nQ hrs hw' hr'
 all_goals go_wp2_with fail
 all_goals refine HQ _ _ _ ?_
 all_goals exact aS (v:= .tuple #[.agg #[.bool false,.bool true,.bool false,.bool false],.bool (p9 ⟨13,dst,a,b,n,arg⟩ ⟨13,-1,a,0,0,arg⟩&& (((arg.length:Int)==0)&& pR ⟨13,dst,a,b,n,arg⟩))]) (by simp[results,results36,go_sem,k0,k1,k2,k3]) rfl ⟨_,_,_,_,rfl,λ_=>qZ.out,iO.below (aY _) (λ_ h=>h.elim)⟩
theorem OC(nl ng:Int)(pl:List Int)(PA:Option Addr)(pc:Nat)(dst a b n:Int)(arg:List Int)(A:Option Addr)(c B:Nat)(w:World)(hB:B<=w.heap.size)(hx:aD w B arg (.slice A arg.length c))(hp:aD w B pl (.slice PA pl.length pc)):
  Calls prog 36 #[cH ⟨14,dst,a,b,n,arg⟩ A c,.int .i64 nl,.int .i64 ng,.slice PA pl.length pc] w λe w'=>dJ (bD nl ng pl ⟨14,dst,a,b,n,arg⟩) (bE ⟨14,dst,a,b,n,arg⟩) w e w':=by
 have HX:=ae hx;have HP:=ae hp;unfold cH;simp only;clear hx hp;have HV:=ae (show bD nl ng pl ⟨14,dst,a,b,n,arg⟩=(p9 ⟨14,dst,a,b,n,arg⟩ ⟨14,-1,0,0,n,arg⟩&& (((arg.length:Int)==0)&& pR ⟨14,dst,a,b,n,arg⟩))from by simp[bD,aP,lU,gA,aI,eN,fS]);rw[HV.out];have qZ:=ae (show(false,false,false,false)=bE ⟨14,dst,a,b,n,arg⟩from by simp[bE,aI,aP]);go_enter func36,ntmps36;refine aj λQ HQ=>?_;go_wp2_with fail
 all_goals refine cO (λW hW=>?_)
 all_goals obtain⟨hrx,jv,nQ,hrs,aJ⟩:=bM (by first|exact aK hW|exact bu hW)
 all_goals refine cC w.heap.size (w.heap.size+1+1) (w.heap.size+1+1+1) (w.heap.size+1) ⟨14,dst,a,b,n,arg⟩ ⟨14,-1,0,0,n,arg⟩ A c false false false false _ _ _ 0 W hrx nQ hrs jv (λW' hW'=>cD ⟨14,dst,a,b,n,arg⟩ ⟨14,-1,0,0,n,arg⟩ rfl A c B W' (by have:=hW'.size;have:=aJ.size;omega) (HX.below ((aJ.trans (hW'.mono aJ.size)).mono hB) (aY _))) (λW' hW'=>fN ⟨14,dst,a,b,n,arg⟩ A c W') rfl _ (λW' Y hw' hr'=>?_)
 all_goals have iO:=(eW aJ).trans hw' (λi hi=>bu (by omega))
 all_goals have k0:=hr'.cell (j:=0) rfl
 all_goals have k1:=hr'.cell (j:=1) rfl
 all_goals have k2:=hr'.cell (j:=2) rfl
 all_goals have k3:=hr'.cell (j:=3) rfl
 all_goals clear hW hrx jv nQ hrs hw' hr'
 all_goals go_wp2_with fail
 all_goals refine HQ _ _ _ ?_
 all_goals exact aS (v:= .tuple #[.agg #[.bool false,.bool false,.bool false,.bool false],.bool (p9 ⟨14,dst,a,b,n,arg⟩ ⟨14,-1,0,0,n,arg⟩&& (((arg.length:Int)==0)&& pR ⟨14,dst,a,b,n,arg⟩))]) (by simp[results,results36,go_sem,k0,k1,k2,k3]) rfl ⟨_,_,_,_,rfl,λ_=>qZ.out,iO.below (aY _) (λ_ h=>h.elim)⟩
theorem OB(nl ng:Int)(pl:List Int)(PA:Option Addr)(pc:Nat)(dst a b n:Int)(arg:List Int)(A:Option Addr)(c B:Nat)(w:World)(hB:B<=w.heap.size)(hx:aD w B arg (.slice A arg.length c))(hp:aD w B pl (.slice PA pl.length pc)):
  Calls prog 36 #[cH ⟨15,dst,a,b,n,arg⟩ A c,.int .i64 nl,.int .i64 ng,.slice PA pl.length pc] w λe w'=>dJ (bD nl ng pl ⟨15,dst,a,b,n,arg⟩) (bE ⟨15,dst,a,b,n,arg⟩) w e w':=by
 have HX:=ae hx;have HP:=ae hp;unfold cH;simp only;clear hx hp;have HV:=ae (show bD nl ng pl ⟨15,dst,a,b,n,arg⟩=(p9 ⟨15,dst,a,b,n,arg⟩ ⟨15,-1,0,0,n,arg⟩&& (((arg.length:Int)==0)&& pR ⟨15,dst,a,b,n,arg⟩))from by simp[bD,aP,lU,gA,aI,eN,fS]);rw[HV.out];have qZ:=ae (show(false,false,false,false)=bE ⟨15,dst,a,b,n,arg⟩from by simp[bE,aI,aP]);go_enter func36,ntmps36;refine aj λQ HQ=>?_;go_wp2_with fail
 all_goals refine cO (λW hW=>?_)
 all_goals obtain⟨hrx,jv,nQ,hrs,aJ⟩:=bM (by first|exact aK hW|exact bu hW)
 all_goals refine cC w.heap.size (w.heap.size+1+1) (w.heap.size+1+1+1) (w.heap.size+1) ⟨15,dst,a,b,n,arg⟩ ⟨15,-1,0,0,n,arg⟩ A c false false false false _ _ _ 0 W hrx nQ hrs jv (λW' hW'=>cD ⟨15,dst,a,b,n,arg⟩ ⟨15,-1,0,0,n,arg⟩ rfl A c B W' (by have:=hW'.size;have:=aJ.size;omega) (HX.below ((aJ.trans (hW'.mono aJ.size)).mono hB) (aY _))) (λW' hW'=>fN ⟨15,dst,a,b,n,arg⟩ A c W') rfl _ (λW' Y hw' hr'=>?_)
 all_goals have iO:=(eW aJ).trans hw' (λi hi=>bu (by omega))
 all_goals have k0:=hr'.cell (j:=0) rfl
 all_goals have k1:=hr'.cell (j:=1) rfl
 all_goals have k2:=hr'.cell (j:=2) rfl
 all_goals have k3:=hr'.cell (j:=3) rfl
 all_goals clear hW hrx jv nQ hrs hw' hr'
 all_goals go_wp2_with fail
 all_goals refine HQ _ _ _ ?_
 all_goals exact aS (v:= .tuple #[.agg #[.bool false,.bool false,.bool false,.bool false],.bool (p9 ⟨15,dst,a,b,n,arg⟩ ⟨15,-1,0,0,n,arg⟩&& (((arg.length:Int)==0)&& pR ⟨15,dst,a,b,n,arg⟩))]) (by simp[results,results36,go_sem,k0,k1,k2,k3]) rfl ⟨_,_,_,_,rfl,λ_=>qZ.out,iO.below (aY _) (λ_ h=>h.elim)⟩
theorem Oz(nl ng:Int)(pl:List Int)(PA:Option Addr)(pc:Nat)(dst a b n:Int)(arg:List Int)(A:Option Addr)(c B:Nat)(w:World)(hB:B<=w.heap.size)(hx:aD w B arg (.slice A arg.length c))(hp:aD w B pl (.slice PA pl.length pc)):
  Calls prog 36 #[cH ⟨16,dst,a,b,n,arg⟩ A c,.int .i64 nl,.int .i64 ng,.slice PA pl.length pc] w λe w'=>dJ (bD nl ng pl ⟨16,dst,a,b,n,arg⟩) (bE ⟨16,dst,a,b,n,arg⟩) w e w':=by
 have HX:=ae hx;have HP:=ae hp;unfold cH;simp only;clear hx hp;have HV:=ae (show bD nl ng pl ⟨16,dst,a,b,n,arg⟩=(p9 ⟨16,dst,a,b,n,arg⟩ ⟨16,-1,a,0,n,arg⟩&& (((arg.length:Int)==0)&& pR ⟨16,dst,a,b,n,arg⟩))from by simp[bD,aP,lU,gA,aI,eN,fS]);rw[HV.out];have qZ:=ae (show(false,true,false,false)=bE ⟨16,dst,a,b,n,arg⟩from by simp[bE,aI,aP]);go_enter func36,ntmps36;refine aj λQ HQ=>?_;go_wp2_with fail;go_region
 all_goals go_wp2_with fail
 all_goals refine cO (λW hW=>?_)
 all_goals obtain⟨hrx,jv,nQ,hrs,aJ⟩:=bM (by first|exact aK hW|exact bu hW)
 all_goals refine cC w.heap.size (w.heap.size+1+1) (w.heap.size+1+1+1) (w.heap.size+1) ⟨16,dst,a,b,n,arg⟩ ⟨16,-1,a,0,n,arg⟩ A c false true false false _ _ _ 0 W hrx nQ hrs jv (λW' hW'=>cD ⟨16,dst,a,b,n,arg⟩ ⟨16,-1,a,0,n,arg⟩ rfl A c B W' (by have:=hW'.size;have:=aJ.size;omega) (HX.below ((aJ.trans (hW'.mono aJ.size)).mono hB) (aY _))) (λW' hW'=>fN ⟨16,dst,a,b,n,arg⟩ A c W') rfl _ (λW' Y hw' hr'=>?_)
 all_goals have iO:=(eW aJ).trans hw' (λi hi=>bu (by omega))
 all_goals have k0:=hr'.cell (j:=0) rfl
 all_goals have k1:=hr'.cell (j:=1) rfl
 all_goals have k2:=hr'.cell (j:=2) rfl
 all_goals have k3:=hr'.cell (j:=3) rfl
 all_goals clear hW hrx jv nQ hrs hw' hr'
 all_goals go_wp2_with fail
 all_goals refine HQ _ _ _ ?_
 all_goals exact aS (v:= .tuple #[.agg #[.bool false,.bool true,.bool false,.bool false],.bool (p9 ⟨16,dst,a,b,n,arg⟩ ⟨16,-1,a,0,n,arg⟩&& (((arg.length:Int)==0)&& pR ⟨16,dst,a,b,n,arg⟩))]) (by simp[results,results36,go_sem,k0,k1,k2,k3]) rfl ⟨_,_,_,_,rfl,λ_=>qZ.out,iO.below (aY _) (λ_ h=>h.elim)⟩
theorem Oy(nl ng:Int)(pl:List Int)(PA:Option Addr)(pc:Nat)(dst a b n:Int)(arg:List Int)(A:Option Addr)(c B:Nat)(w:World)(hB:B<=w.heap.size)(hx:aD w B arg (.slice A arg.length c))(hp:aD w B pl (.slice PA pl.length pc)):
  Calls prog 36 #[cH ⟨17,dst,a,b,n,arg⟩ A c,.int .i64 nl,.int .i64 ng,.slice PA pl.length pc] w λe w'=>dJ (bD nl ng pl ⟨17,dst,a,b,n,arg⟩) (bE ⟨17,dst,a,b,n,arg⟩) w e w':=by
 have HX:=ae hx;have HP:=ae hp;unfold cH;simp only;clear hx hp;have HV:=ae (show bD nl ng pl ⟨17,dst,a,b,n,arg⟩=(p9 ⟨17,dst,a,b,n,arg⟩ ⟨17,-1,a,0,0,arg⟩&& (((arg.length:Int)==0)&& pR ⟨17,dst,a,b,n,arg⟩))from by simp[bD,aP,lU,gA,aI,eN,fS]);rw[HV.out];have qZ:=ae (show(false,true,false,false)=bE ⟨17,dst,a,b,n,arg⟩from by simp[bE,aI,aP]);go_enter func36,ntmps36;refine aj λQ HQ=>?_;go_wp2_with fail
 all_goals refine cO (λW hW=>?_)
 all_goals obtain⟨hrx,jv,nQ,hrs,aJ⟩:=bM (by first|exact aK hW|exact bu hW)
 all_goals refine cC w.heap.size (w.heap.size+1+1) (w.heap.size+1+1+1) (w.heap.size+1) ⟨17,dst,a,b,n,arg⟩ ⟨17,-1,a,0,0,arg⟩ A c false true false false _ _ _ 0 W hrx nQ hrs jv (λW' hW'=>cD ⟨17,dst,a,b,n,arg⟩ ⟨17,-1,a,0,0,arg⟩ rfl A c B W' (by have:=hW'.size;have:=aJ.size;omega) (HX.below ((aJ.trans (hW'.mono aJ.size)).mono hB) (aY _))) (λW' hW'=>fN ⟨17,dst,a,b,n,arg⟩ A c W') rfl _ (λW' Y hw' hr'=>?_)
 all_goals have iO:=(eW aJ).trans hw' (λi hi=>bu (by omega))
 all_goals have k0:=hr'.cell (j:=0) rfl
 all_goals have k1:=hr'.cell (j:=1) rfl
 all_goals have k2:=hr'.cell (j:=2) rfl
 all_goals have k3:=hr'.cell (j:=3) rfl
 all_goals clear hW hrx jv nQ hrs hw' hr'
 all_goals go_wp2_with fail
 all_goals refine HQ _ _ _ ?_
 all_goals exact aS (v:= .tuple #[.agg #[.bool false,.bool true,.bool false,.bool false],.bool (p9 ⟨17,dst,a,b,n,arg⟩ ⟨17,-1,a,0,0,arg⟩&& (((arg.length:Int)==0)&& pR ⟨17,dst,a,b,n,arg⟩))]) (by simp[results,results36,go_sem,k0,k1,k2,k3]) rfl ⟨_,_,_,_,rfl,λ_=>qZ.out,iO.below (aY _) (λ_ h=>h.elim)⟩
theorem Jr(nl ng:Int)(pl:List Int)(PA:Option Addr)(pc:Nat)(op dst a b n:Int)(arg:List Int)(A:Option Addr)(c B:Nat)(w:World)(hB:B<=w.heap.size)(hx:aD w B arg (.slice A arg.length c))(hp:aD w B pl (.slice PA pl.length pc))(h1:op≠1)(h2:op≠2)(h3:op≠3)(h4:op≠4)(h5:op≠5)(h6:op≠6)(h7:op≠7)(h8:op≠8)(h9:op≠9)(h10:op≠10)(h11:op≠11)(h12:op≠12)(Lx:op≠13)(Bk:op≠14)(iC:op≠15)(mL:op≠16)(p8:op≠17):
  Calls prog 36 #[cH ⟨op,dst,a,b,n,arg⟩ A c,.int .i64 nl,.int .i64 ng,.slice PA pl.length pc] w λe w'=>dJ (bD nl ng pl ⟨op,dst,a,b,n,arg⟩) (bE ⟨op,dst,a,b,n,arg⟩) w e w':=by
 unfold cH;simp only;have HV:=ae (show bD nl ng pl ⟨op,dst,a,b,n,arg⟩=false from by simp[bD,aP,h1,h2,h3,h4,h5,h6,h7,h8,h9,h10,h11,h12,Lx,Bk,iC,mL,p8]);have e1:(op==1)=false:=by simpa using h1
 have e2:(op==2)=false:=by simpa using h2
 have e3:(op==3)=false:=by simpa using h3
 have e4:(op==4)=false:=by simpa using h4
 have e5:(op==5)=false:=by simpa using h5
 have e6:(op==6)=false:=by simpa using h6
 have e7:(op==7)=false:=by simpa using h7
 have e8:(op==8)=false:=by simpa using h8
 have e9:(op==9)=false:=by simpa using h9
 have e10:(op==10)=false:=by simpa using h10
 have e11:(op==11)=false:=by simpa using h11
 have e12:(op==12)=false:=by simpa using h12
 have e13:(op==13)=false:=by simpa using Lx
 have SK:(op==14)=false:=by simpa using Bk
 have Z8:(op==15)=false:=by simpa using iC
 have e16:(op==16)=false:=by simpa using mL
 have e17:(op==17)=false:=by simpa using p8
 clear hx hp h1 h2 h3 h4 h5 h6 h7 h8 h9 h10 h11 h12 Lx Bk iC mL p8;rw[HV.out];go_enter func36,ntmps36;refine aj λQ HQ=>?_;go_wp2_with fail;refine HQ _ _ _ ?_;refine aS (v:= .tuple #[.agg #[.bool false,.bool false,.bool false,.bool false],.bool false]) (by simp[results,results36,go_sem]) rfl ⟨_,_,_,_,rfl,λh=>(by cases h),?_⟩;exact(bM (by first|exact aK rfl|exact bu rfl)).2.2.2.2
theorem Mf(nl ng:Int)(pl:List Int)(PA:Option Addr)(pc:Nat)(x:bg)(A:Option Addr)(c B:Nat)(w:World)(hB:B<=w.heap.size)(hx:aD w B x.arg (.slice A x.arg.length c))(hp:aD w B pl (.slice PA pl.length pc)):
  Calls prog 36 #[cH x A c,.int .i64 nl,.int .i64 ng,.slice PA pl.length pc] w λe w'=>dJ (bD nl ng pl x) (bE x) w e w':=by
 obtain⟨op,dst,a,b,n,arg⟩:=x;simp only at hx;have h:op=1\/op=2\/op=3\/op=4\/op=5\/op=6\/op=7\/op=8\/op=9\/op=10\/op=11\/op=12\/op=13\/op=14\/op=15\/op=16\/op=17\/(op≠1/\op≠2/\op≠3/\op≠4/\op≠5/\op≠6/\op≠7/\op≠8/\op≠9/\op≠10/\op≠11/\op≠12/\op≠13/\op≠14/\op≠15/\op≠16/\op≠17):=by omega
 rcases h with rfl|rfl|rfl|rfl|rfl|rfl|rfl|rfl|rfl|rfl|rfl|rfl|rfl|rfl|rfl|rfl|rfl|⟨h1,h2,h3,h4,h5,h6,h7,h8,h9,h10,h11,h12,Lx,Bk,iC,mL,p8⟩
 ·exact RG nl ng pl PA pc dst a b n arg A c B w hB hx hp
 ·exact RF nl ng pl PA pc dst a b n arg A c B w hB hx hp
 ·exact RD nl ng pl PA pc dst a b n arg A c B w hB hx hp
 ·exact RB nl ng pl PA pc dst a b n arg A c B w hB hx hp
 ·exact RA nl ng pl PA pc dst a b n arg A c B w hB hx hp
 ·exact Rz nl ng pl PA pc dst a b n arg A c B w hB hx hp
 ·exact Ry nl ng pl PA pc dst a b n arg A c B w hB hx hp
 ·exact Rx nl ng pl PA pc dst a b n arg A c B w hB hx hp
 ·exact Rw nl ng pl PA pc dst a b n arg A c B w hB hx hp
 ·exact OH nl ng pl PA pc dst a b n arg A c B w hB hx hp
 ·exact OG nl ng pl PA pc dst a b n arg A c B w hB hx hp
 ·exact OE nl ng pl PA pc dst a b n arg A c B w hB hx hp
 ·exact OD nl ng pl PA pc dst a b n arg A c B w hB hx hp
 ·exact OC nl ng pl PA pc dst a b n arg A c B w hB hx hp
 ·exact OB nl ng pl PA pc dst a b n arg A c B w hB hx hp
 ·exact Oz nl ng pl PA pc dst a b n arg A c B w hB hx hp
 ·exact Oy nl ng pl PA pc dst a b n arg A c B w hB hx hp
 ·exact Jr nl ng pl PA pc op dst a b n arg A c B w hB hx hp h1 h2 h3 h4 h5 h6 h7 h8 h9 h10 h11 h12 Lx Bk iC mL p8
end Go.Proofs.YtinmgbodgecoeaaGreat
