/- The page's Form. Conditions: as stated. -/
import Derived.Test.YtinmgbodgecoeaaGreatRFormRZz
set_option linter.unusedSimpArgs false
set_option linter.unusedVariables false
set_option maxHeartbeats 8000000
set_option maxRecDepth 100000
open Go.Proofs.Tryz
namespace Go.Proofs.YtinmgbodgecoeaaGreat
open Go.RowKit
def gA(x:bg):bg:=⟨x.op,if(aI x).1=true then x.dst else-1,if(aI x).2.1=true then x.a else 0,if((aI x).2.2.1||eN x)=true then x.b else 0,if(aI x).2.2.2.1=true then x.n else 0,x.arg⟩
def lU(nl ng:Int)(pl:List Int)(x:bg):Bool:=
 if x.op=3 then decide (0<=x.n/\x.n<nl)else if x.op=4 then decide (0<=x.n/\x.n<ng)else if x.op=6 then decide (x.arg.length=1)&& sK (x.arg.getD 0 0)
 else if x.op=8\/x.op=9 then sK x.b else if x.op=10 then decide (0<=x.n/\x.n<(pl.length:Int))else true
def fS(pl:List Int)(x:bg):Int:=if x.op=6 then 1 else if x.op=10 then pl.getD x.n.toNat 0 else 0
def bE(x:bg):Bool×Bool×Bool×Bool:=((aI x).1,(aI x).2.1,(aI x).2.2.1,decide (x.op=10))
def bD(nl ng:Int)(pl:List Int)(x:bg):Bool:=(aP x).isSome && (lU nl ng pl x && (p9 x (gA x)&& (((x.arg.length:Int)==fS pl x)&& pR x)))
def dJ(r:Bool)(sh:Bool×Bool×Bool×Bool)(w:World)(e:Ending)(w':World):Prop:=
 ∃t0 t1 t2 t3,e= .returned (.tuple #[.agg #[.bool t0,.bool t1,.bool t2,.bool t3],.bool r])/\(r=true->(t0,t1,t2,t3)=sh)/\Below w.heap.size w w'
theorem bM{w W:World}{xc rc yc sc:Array Value}(h:W=((((w.alloc (.cells xc 94)).alloc (.cells rc 98)).alloc (.cells yc 94)).alloc (.cells sc 98))\/W=((((w.alloc (.cells xc 94)).alloc (.cells rc 98)).alloc (.cells yc 94)).alloc (.cells sc 98)).drew):
  Row W w.heap.size xc 94/\Row W (w.heap.size+1) rc 98/\Row W (w.heap.size+1+1) yc 94/\Row W (w.heap.size+1+1+1) sc 98/\Below w.heap.size w W:=by
 have h4:=(aB w (.cells xc 94) (.cells rc 98)).trans ((aB ((w.alloc (.cells xc 94)).alloc (.cells rc 98)) (.cells yc 94) (.cells sc 98)).mono (by simp;omega));rcases h with rfl|rfl
 ·exact⟨(((Row.new _ _ _).alloc _).alloc _).alloc _,((Row.new' _ _ (by simp)).alloc _).alloc _,(Row.new' _ _ (by simp)).alloc _,Row.new' _ _ (by simp),h4⟩
 ·exact⟨((((Row.new _ _ _).alloc _).alloc _).alloc _).drew,(((Row.new' _ _ (by simp)).alloc _).alloc _).drew,((Row.new' _ _ (by simp)).alloc _).drew,(Row.new' _ _ (by simp)).drew,h4.drew⟩
theorem RG(nl ng:Int)(pl:List Int)(PA:Option Addr)(pc:Nat)(dst a b n:Int)(arg:List Int)(A:Option Addr)(c B:Nat)(w:World)(hB:B<=w.heap.size)(hx:aD w B arg (.slice A arg.length c))(hp:aD w B pl (.slice PA pl.length pc)):
  Calls prog 36 #[cH ⟨1,dst,a,b,n,arg⟩ A c,.int .i64 nl,.int .i64 ng,.slice PA pl.length pc] w λe w'=>dJ (bD nl ng pl ⟨1,dst,a,b,n,arg⟩) (bE ⟨1,dst,a,b,n,arg⟩) w e w':=by
 have HX:=ae hx;have HP:=ae hp;unfold cH;simp only;clear hx hp;have HV:=ae (show bD nl ng pl ⟨1,dst,a,b,n,arg⟩=(p9 ⟨1,dst,a,b,n,arg⟩ ⟨1,dst,0,0,n,arg⟩&& (((arg.length:Int)==0)&& pR ⟨1,dst,a,b,n,arg⟩))from by simp[bD,aP,lU,gA,aI,eN,fS]);rw[HV.out];have qZ:=ae (show(true,false,false,false)=bE ⟨1,dst,a,b,n,arg⟩from by simp[bE,aI,aP]);go_enter func36,ntmps36;refine aj λQ HQ=>?_;go_wp2_with fail;go_region
 all_goals go_wp2_with fail
 all_goals refine cO (λW hW=>?_)
 all_goals obtain⟨hrx,jv,nQ,hrs,aJ⟩:=bM (by first|exact aK hW|exact bu hW)
 all_goals refine cC w.heap.size (w.heap.size+1+1) (w.heap.size+1+1+1) (w.heap.size+1) ⟨1,dst,a,b,n,arg⟩ ⟨1,dst,0,0,n,arg⟩ A c true false false false _ _ _ 0 W hrx nQ hrs jv (λW' hW'=>cD ⟨1,dst,a,b,n,arg⟩ ⟨1,dst,0,0,n,arg⟩ rfl A c B W' (by have:=hW'.size;have:=aJ.size;omega) (HX.below ((aJ.trans (hW'.mono aJ.size)).mono hB) (aY _))) (λW' hW'=>fN ⟨1,dst,a,b,n,arg⟩ A c W') rfl _ (λW' Y hw' hr'=>?_)
 all_goals have iO:=(eW aJ).trans hw' (λi hi=>bu (by omega))
 all_goals have k0:=hr'.cell (j:=0) rfl
 all_goals have k1:=hr'.cell (j:=1) rfl
 all_goals have k2:=hr'.cell (j:=2) rfl
 all_goals have k3:=hr'.cell (j:=3) rfl
 all_goals clear hW hrx jv nQ hrs hw' hr'
 all_goals go_wp2_with fail
 all_goals refine HQ _ _ _ ?_
 all_goals exact aS (v:= .tuple #[.agg #[.bool true,.bool false,.bool false,.bool false],.bool (p9 ⟨1,dst,a,b,n,arg⟩ ⟨1,dst,0,0,n,arg⟩&& (((arg.length:Int)==0)&& pR ⟨1,dst,a,b,n,arg⟩))]) (by simp[results,results36,go_sem,k0,k1,k2,k3]) rfl ⟨_,_,_,_,rfl,λ_=>qZ.out,iO.below (aY _) (λ_ h=>h.elim)⟩
theorem RF(nl ng:Int)(pl:List Int)(PA:Option Addr)(pc:Nat)(dst a b n:Int)(arg:List Int)(A:Option Addr)(c B:Nat)(w:World)(hB:B<=w.heap.size)(hx:aD w B arg (.slice A arg.length c))(hp:aD w B pl (.slice PA pl.length pc)):
  Calls prog 36 #[cH ⟨2,dst,a,b,n,arg⟩ A c,.int .i64 nl,.int .i64 ng,.slice PA pl.length pc] w λe w'=>dJ (bD nl ng pl ⟨2,dst,a,b,n,arg⟩) (bE ⟨2,dst,a,b,n,arg⟩) w e w':=by
 have HX:=ae hx;have HP:=ae hp;unfold cH;simp only;clear hx hp;have HV:=ae (show bD nl ng pl ⟨2,dst,a,b,n,arg⟩=(p9 ⟨2,dst,a,b,n,arg⟩ ⟨2,dst,a,0,0,arg⟩&& (((arg.length:Int)==0)&& pR ⟨2,dst,a,b,n,arg⟩))from by simp[bD,aP,lU,gA,aI,eN,fS]);rw[HV.out];have qZ:=ae (show(true,true,false,false)=bE ⟨2,dst,a,b,n,arg⟩from by simp[bE,aI,aP]);go_enter func36,ntmps36;refine aj λQ HQ=>?_;go_wp2_with fail
 all_goals refine cO (λW hW=>?_)
 all_goals obtain⟨hrx,jv,nQ,hrs,aJ⟩:=bM (by first|exact aK hW|exact bu hW)
 all_goals refine cC w.heap.size (w.heap.size+1+1) (w.heap.size+1+1+1) (w.heap.size+1) ⟨2,dst,a,b,n,arg⟩ ⟨2,dst,a,0,0,arg⟩ A c true true false false _ _ _ 0 W hrx nQ hrs jv (λW' hW'=>cD ⟨2,dst,a,b,n,arg⟩ ⟨2,dst,a,0,0,arg⟩ rfl A c B W' (by have:=hW'.size;have:=aJ.size;omega) (HX.below ((aJ.trans (hW'.mono aJ.size)).mono hB) (aY _))) (λW' hW'=>fN ⟨2,dst,a,b,n,arg⟩ A c W') rfl _ (λW' Y hw' hr'=>?_)
 all_goals have iO:=(eW aJ).trans hw' (λi hi=>bu (by omega))
 all_goals have k0:=hr'.cell (j:=0) rfl
 all_goals have k1:=hr'.cell (j:=1) rfl
 all_goals have k2:=hr'.cell (j:=2) rfl
 all_goals have k3:=hr'.cell (j:=3) rfl
 all_goals clear hW hrx jv nQ hrs hw' hr'
 all_goals go_wp2_with fail
 all_goals refine HQ _ _ _ ?_
 all_goals exact aS (v:= .tuple #[.agg #[.bool true,.bool true,.bool false,.bool false],.bool (p9 ⟨2,dst,a,b,n,arg⟩ ⟨2,dst,a,0,0,arg⟩&& (((arg.length:Int)==0)&& pR ⟨2,dst,a,b,n,arg⟩))]) (by simp[results,results36,go_sem,k0,k1,k2,k3]) rfl ⟨_,_,_,_,rfl,λ_=>qZ.out,iO.below (aY _) (λ_ h=>h.elim)⟩
theorem RD(nl ng:Int)(pl:List Int)(PA:Option Addr)(pc:Nat)(dst a b n:Int)(arg:List Int)(A:Option Addr)(c B:Nat)(w:World)(hB:B<=w.heap.size)(hx:aD w B arg (.slice A arg.length c))(hp:aD w B pl (.slice PA pl.length pc)):
  Calls prog 36 #[cH ⟨3,dst,a,b,n,arg⟩ A c,.int .i64 nl,.int .i64 ng,.slice PA pl.length pc] w λe w'=>dJ (bD nl ng pl ⟨3,dst,a,b,n,arg⟩) (bE ⟨3,dst,a,b,n,arg⟩) w e w':=by
 have HX:=ae hx;have HP:=ae hp;unfold cH;simp only;clear hx hp;by_cases h0:n<0
 ·have e0:decide (n<0)=true:=by simpa using h0
  have H0:=ae h0;clear h0;have HV:=ae (show bD nl ng pl ⟨3,dst,a,b,n,arg⟩=false from by have:=H0.out;simp[bD,aP,lU,gA,aI,eN,fS];omega);rw[HV.out];go_enter func36,ntmps36;refine aj λQ HQ=>?_;go_wp2_with fail;go_region
  all_goals go_wp2_with fail
  all_goals refine HQ _ _ _ ?_
  all_goals refine aS (v:= .tuple #[.agg #[.bool true,.bool false,.bool false,.bool false],.bool false]) (by simp[results,results36,go_sem]) rfl ⟨_,_,_,_,rfl,λh=>(by cases h),?_⟩
  all_goals exact(bM (by first|exact aK rfl|exact bu rfl)).2.2.2.2
 ·have e0:decide (n<0)=false:=by simpa using h0
  by_cases h1:nl<=n
  ·have e1:decide (nl<=n)=true:=by simpa using h1
   have H1:=ae h1;clear h0 h1;have HV:=ae (show bD nl ng pl ⟨3,dst,a,b,n,arg⟩=false from by have:=H1.out;simp[bD,aP,lU,gA,aI,eN,fS];omega);rw[HV.out];go_enter func36,ntmps36;refine aj λQ HQ=>?_;go_wp2_with fail;go_region
   all_goals go_wp2_with fail
   all_goals refine HQ _ _ _ ?_
   all_goals refine aS (v:= .tuple #[.agg #[.bool true,.bool false,.bool false,.bool false],.bool false]) (by simp[results,results36,go_sem]) rfl ⟨_,_,_,_,rfl,λh=>(by cases h),?_⟩
   all_goals exact(bM (by first|exact aK rfl|exact bu rfl)).2.2.2.2
  ·have e1:decide (nl<=n)=false:=by simpa using h1
   have H0:=ae (show 0<=n/\n<nl by omega);clear h0 h1;have HV:=ae (show bD nl ng pl ⟨3,dst,a,b,n,arg⟩=(p9 ⟨3,dst,a,b,n,arg⟩ ⟨3,dst,0,0,n,arg⟩&& (((arg.length:Int)==0)&& pR ⟨3,dst,a,b,n,arg⟩))from by simp[bD,aP,lU,gA,aI,eN,fS,H0.out]);rw[HV.out];have qZ:=ae (show(true,false,false,false)=bE ⟨3,dst,a,b,n,arg⟩from by simp[bE,aI,aP]);go_enter func36,ntmps36;refine aj λQ HQ=>?_;go_wp2_with fail;go_region
   all_goals go_wp2_with fail
   all_goals refine cO (λW hW=>?_)
   all_goals obtain⟨hrx,jv,nQ,hrs,aJ⟩:=bM (by first|exact aK hW|exact bu hW)
   all_goals refine cC w.heap.size (w.heap.size+1+1) (w.heap.size+1+1+1) (w.heap.size+1) ⟨3,dst,a,b,n,arg⟩ ⟨3,dst,0,0,n,arg⟩ A c true false false false _ _ _ 0 W hrx nQ hrs jv (λW' hW'=>cD ⟨3,dst,a,b,n,arg⟩ ⟨3,dst,0,0,n,arg⟩ rfl A c B W' (by have:=hW'.size;have:=aJ.size;omega) (HX.below ((aJ.trans (hW'.mono aJ.size)).mono hB) (aY _))) (λW' hW'=>fN ⟨3,dst,a,b,n,arg⟩ A c W') rfl _ (λW' Y hw' hr'=>?_)
   all_goals have iO:=(eW aJ).trans hw' (λi hi=>bu (by omega))
   all_goals have k0:=hr'.cell (j:=0) rfl
   all_goals have k1:=hr'.cell (j:=1) rfl
   all_goals have k2:=hr'.cell (j:=2) rfl
   all_goals have k3:=hr'.cell (j:=3) rfl
   all_goals clear hW hrx jv nQ hrs hw' hr'
   all_goals go_wp2_with fail
   all_goals refine HQ _ _ _ ?_
   all_goals exact aS (v:= .tuple #[.agg #[.bool true,.bool false,.bool false,.bool false],.bool (p9 ⟨3,dst,a,b,n,arg⟩ ⟨3,dst,0,0,n,arg⟩&& (((arg.length:Int)==0)&& pR ⟨3,dst,a,b,n,arg⟩))]) (by simp[results,results36,go_sem,k0,k1,k2,k3]) rfl ⟨_,_,_,_,rfl,λ_=>qZ.out,iO.below (aY _) (λ_ h=>h.elim)⟩
theorem RB(nl ng:Int)(pl:List Int)(PA:Option Addr)(pc:Nat)(dst a b n:Int)(arg:List Int)(A:Option Addr)(c B:Nat)(w:World)(hB:B<=w.heap.size)(hx:aD w B arg (.slice A arg.length c))(hp:aD w B pl (.slice PA pl.length pc)):
  Calls prog 36 #[cH ⟨4,dst,a,b,n,arg⟩ A c,.int .i64 nl,.int .i64 ng,.slice PA pl.length pc] w λe w'=>dJ (bD nl ng pl ⟨4,dst,a,b,n,arg⟩) (bE ⟨4,dst,a,b,n,arg⟩) w e w':=by
 have HX:=ae hx;have HP:=ae hp;unfold cH;simp only;clear hx hp;by_cases h0:n<0
 ·have e0:decide (n<0)=true:=by simpa using h0
  have H0:=ae h0;clear h0;have HV:=ae (show bD nl ng pl ⟨4,dst,a,b,n,arg⟩=false from by have:=H0.out;simp[bD,aP,lU,gA,aI,eN,fS];omega);rw[HV.out];go_enter func36,ntmps36;refine aj λQ HQ=>?_;go_wp2_with fail;go_region
  all_goals go_wp2_with fail
  all_goals refine HQ _ _ _ ?_
  all_goals refine aS (v:= .tuple #[.agg #[.bool true,.bool false,.bool false,.bool false],.bool false]) (by simp[results,results36,go_sem]) rfl ⟨_,_,_,_,rfl,λh=>(by cases h),?_⟩
  all_goals exact(bM (by first|exact aK rfl|exact bu rfl)).2.2.2.2
 ·have e0:decide (n<0)=false:=by simpa using h0
  by_cases h1:ng<=n
  ·have e1:decide (ng<=n)=true:=by simpa using h1
   have H1:=ae h1;clear h0 h1;have HV:=ae (show bD nl ng pl ⟨4,dst,a,b,n,arg⟩=false from by have:=H1.out;simp[bD,aP,lU,gA,aI,eN,fS];omega);rw[HV.out];go_enter func36,ntmps36;refine aj λQ HQ=>?_;go_wp2_with fail;go_region
   all_goals go_wp2_with fail
   all_goals refine HQ _ _ _ ?_
   all_goals refine aS (v:= .tuple #[.agg #[.bool true,.bool false,.bool false,.bool false],.bool false]) (by simp[results,results36,go_sem]) rfl ⟨_,_,_,_,rfl,λh=>(by cases h),?_⟩
   all_goals exact(bM (by first|exact aK rfl|exact bu rfl)).2.2.2.2
  ·have e1:decide (ng<=n)=false:=by simpa using h1
   have H0:=ae (show 0<=n/\n<ng by omega);clear h0 h1;have HV:=ae (show bD nl ng pl ⟨4,dst,a,b,n,arg⟩=(p9 ⟨4,dst,a,b,n,arg⟩ ⟨4,dst,0,0,n,arg⟩&& (((arg.length:Int)==0)&& pR ⟨4,dst,a,b,n,arg⟩))from by simp[bD,aP,lU,gA,aI,eN,fS,H0.out]);rw[HV.out];have qZ:=ae (show(true,false,false,false)=bE ⟨4,dst,a,b,n,arg⟩from by simp[bE,aI,aP]);go_enter func36,ntmps36;refine aj λQ HQ=>?_;go_wp2_with fail;go_region
   all_goals go_wp2_with fail
   all_goals refine cO (λW hW=>?_)
   all_goals obtain⟨hrx,jv,nQ,hrs,aJ⟩:=bM (by first|exact aK hW|exact bu hW)
   all_goals refine cC w.heap.size (w.heap.size+1+1) (w.heap.size+1+1+1) (w.heap.size+1) ⟨4,dst,a,b,n,arg⟩ ⟨4,dst,0,0,n,arg⟩ A c true false false false _ _ _ 0 W hrx nQ hrs jv (λW' hW'=>cD ⟨4,dst,a,b,n,arg⟩ ⟨4,dst,0,0,n,arg⟩ rfl A c B W' (by have:=hW'.size;have:=aJ.size;omega) (HX.below ((aJ.trans (hW'.mono aJ.size)).mono hB) (aY _))) (λW' hW'=>fN ⟨4,dst,a,b,n,arg⟩ A c W') rfl _ (λW' Y hw' hr'=>?_)
   all_goals have iO:=(eW aJ).trans hw' (λi hi=>bu (by omega))
   all_goals have k0:=hr'.cell (j:=0) rfl
   all_goals have k1:=hr'.cell (j:=1) rfl
   all_goals have k2:=hr'.cell (j:=2) rfl
   all_goals have k3:=hr'.cell (j:=3) rfl
   all_goals clear hW hrx jv nQ hrs hw' hr'
   all_goals go_wp2_with fail
   all_goals refine HQ _ _ _ ?_
   all_goals exact aS (v:= .tuple #[.agg #[.bool true,.bool false,.bool false,.bool false],.bool (p9 ⟨4,dst,a,b,n,arg⟩ ⟨4,dst,0,0,n,arg⟩&& (((arg.length:Int)==0)&& pR ⟨4,dst,a,b,n,arg⟩))]) (by simp[results,results36,go_sem,k0,k1,k2,k3]) rfl ⟨_,_,_,_,rfl,λ_=>qZ.out,iO.below (aY _) (λ_ h=>h.elim)⟩
theorem RA(nl ng:Int)(pl:List Int)(PA:Option Addr)(pc:Nat)(dst a b n:Int)(arg:List Int)(A:Option Addr)(c B:Nat)(w:World)(hB:B<=w.heap.size)(hx:aD w B arg (.slice A arg.length c))(hp:aD w B pl (.slice PA pl.length pc)):
  Calls prog 36 #[cH ⟨5,dst,a,b,n,arg⟩ A c,.int .i64 nl,.int .i64 ng,.slice PA pl.length pc] w λe w'=>dJ (bD nl ng pl ⟨5,dst,a,b,n,arg⟩) (bE ⟨5,dst,a,b,n,arg⟩) w e w':=by
 have HX:=ae hx;have HP:=ae hp;unfold cH;simp only;clear hx hp;have HV:=ae (show bD nl ng pl ⟨5,dst,a,b,n,arg⟩=(p9 ⟨5,dst,a,b,n,arg⟩ ⟨5,dst,a,b,n,arg⟩&& (((arg.length:Int)==0)&& pR ⟨5,dst,a,b,n,arg⟩))from by simp[bD,aP,lU,gA,aI,eN,fS]);rw[HV.out];have qZ:=ae (show(true,true,true,false)=bE ⟨5,dst,a,b,n,arg⟩from by simp[bE,aI,aP]);go_enter func36,ntmps36;refine aj λQ HQ=>?_;go_wp2_with fail;go_region
 all_goals go_wp2_with fail
 all_goals refine cO (λW hW=>?_)
 all_goals obtain⟨hrx,jv,nQ,hrs,aJ⟩:=bM (by first|exact aK hW|exact bu hW)
 all_goals refine cC w.heap.size (w.heap.size+1+1) (w.heap.size+1+1+1) (w.heap.size+1) ⟨5,dst,a,b,n,arg⟩ ⟨5,dst,a,b,n,arg⟩ A c true true true false _ _ _ 0 W hrx nQ hrs jv (λW' hW'=>cD ⟨5,dst,a,b,n,arg⟩ ⟨5,dst,a,b,n,arg⟩ rfl A c B W' (by have:=hW'.size;have:=aJ.size;omega) (HX.below ((aJ.trans (hW'.mono aJ.size)).mono hB) (aY _))) (λW' hW'=>fN ⟨5,dst,a,b,n,arg⟩ A c W') rfl _ (λW' Y hw' hr'=>?_)
 all_goals have iO:=(eW aJ).trans hw' (λi hi=>bu (by omega))
 all_goals have k0:=hr'.cell (j:=0) rfl
 all_goals have k1:=hr'.cell (j:=1) rfl
 all_goals have k2:=hr'.cell (j:=2) rfl
 all_goals have k3:=hr'.cell (j:=3) rfl
 all_goals clear hW hrx jv nQ hrs hw' hr'
 all_goals go_wp2_with fail
 all_goals refine HQ _ _ _ ?_
 all_goals exact aS (v:= .tuple #[.agg #[.bool true,.bool true,.bool true,.bool false],.bool (p9 ⟨5,dst,a,b,n,arg⟩ ⟨5,dst,a,b,n,arg⟩&& (((arg.length:Int)==0)&& pR ⟨5,dst,a,b,n,arg⟩))]) (by simp[results,results36,go_sem,k0,k1,k2,k3]) rfl ⟨_,_,_,_,rfl,λ_=>qZ.out,iO.below (aY _) (λ_ h=>h.elim)⟩
theorem Rz(nl ng:Int)(pl:List Int)(PA:Option Addr)(pc:Nat)(dst a b n:Int)(arg:List Int)(A:Option Addr)(c B:Nat)(w:World)(hB:B<=w.heap.size)(hx:aD w B arg (.slice A arg.length c))(hp:aD w B pl (.slice PA pl.length pc)):
  Calls prog 36 #[cH ⟨6,dst,a,b,n,arg⟩ A c,.int .i64 nl,.int .i64 ng,.slice PA pl.length pc] w λe w'=>dJ (bD nl ng pl ⟨6,dst,a,b,n,arg⟩) (bE ⟨6,dst,a,b,n,arg⟩) w e w':=by
 have HX:=ae hx;have HP:=ae hp;unfold cH;simp only;clear hp;by_cases h1:arg.length=1
 ·obtain⟨v,rfl⟩:=List.length_eq_one_iff.1 h1;obtain⟨sb,so,rfl,Ey,g0,MX⟩:=hx.at (show 0<[v].length by simp);simp only[Nat.add_zero,List.getElem_cons_zero,List.length_singleton]at g0 ⊢;have HS:=ae (λW=>uG v W);have hs0:sb<w.heap.size:=by omega
  have hs1:sb<w.heap.size+1:=by omega
  have hs2:sb<w.heap.size+1+1:=by omega
  have hs3:sb<w.heap.size+1+1+1:=by omega
  have hs4:sb<w.heap.size+1+1+1+1:=by omega
  cases hi:sK v with
  |false=>
   have HI:=ae hi;rw[hi]at HS;clear hi h1 hx MX;have HV:=ae (show bD nl ng pl ⟨6,dst,a,b,n,[v]⟩=false from by unfold bD lU;simp[HI.out]);rw[HV.out];go_enter func36,ntmps36;refine aj λQ HQ=>?_;go_wp2_with fail;go_region
   all_goals go_wp2_with fail
   all_goals refine(HS _).mono ?_
   all_goals rintro e w1 ⟨rfl,rfl⟩
   all_goals go_wp2_with fail
   all_goals refine HQ _ _ _ ?_
   all_goals refine aS (v:= .tuple #[.agg #[.bool true,.bool true,.bool false,.bool false],.bool false]) (by simp[results,results36,go_sem]) rfl ⟨_,_,_,_,rfl,λh=>(by cases h),?_⟩
   all_goals exact(bM (by first|exact aK rfl|exact bu rfl)).2.2.2.2
  |true=>
   have HI:=ae hi;rw[hi]at HS;clear hi h1 hx MX;have HV:=ae (show bD nl ng pl ⟨6,dst,a,b,n,[v]⟩=(p9 ⟨6,dst,a,b,n,[v]⟩ ⟨6,dst,a,0,n,[v]⟩&& (((([v]:List Int).length:Int)==1)&& pR ⟨6,dst,a,b,n,[v]⟩))from by unfold bD lU;simp[aP,gA,aI,eN,fS,HI.out]);rw[HV.out];have qZ:=ae (show(true,true,false,false)=bE ⟨6,dst,a,b,n,[v]⟩from by simp[bE,aI,aP]);go_enter func36,ntmps36;refine aj λQ HQ=>?_;go_wp2_with fail;go_region
   all_goals go_wp2_with fail
   all_goals refine(HS _).mono ?_
   all_goals rintro e w1 ⟨rfl,rfl⟩
   all_goals go_wp2_with fail
   all_goals refine cO (λW hW=>?_)
   all_goals obtain⟨hrx,jv,nQ,hrs,aJ⟩:=bM (by first|exact aK hW|exact bu hW)
   all_goals replace hrx:Row W w.heap.size #[.int .i64 6,.int .i64 dst,.int .i64 a,.int .i64 b,.int .i64 n,.slice (some ⟨sb,so,.none⟩) ([v]:List Int).length c] 94:=hrx
   all_goals replace nQ:Row W (w.heap.size+1+1) #[.int .i64 6,.int .i64 dst,.int .i64 a,.int .i64 0,.int .i64 n,.slice (some ⟨sb,so,.none⟩) ([v]:List Int).length c] 94:=nQ
   all_goals refine cC w.heap.size (w.heap.size+1+1) (w.heap.size+1+1+1) (w.heap.size+1) ⟨6,dst,a,b,n,[v]⟩ ⟨6,dst,a,0,n,[v]⟩ (some ⟨sb,so,.none⟩) c true true false false _ _ _ 1 W hrx nQ hrs jv (λW' hW'=>cD ⟨6,dst,a,b,n,[v]⟩ ⟨6,dst,a,0,n,[v]⟩ rfl (some ⟨sb,so,.none⟩) c B W' (by have:=hW'.size;have:=aJ.size;omega) (HX.below ((aJ.trans (hW'.mono aJ.size)).mono hB) (aY _))) (λW' hW'=>fN ⟨6,dst,a,b,n,[v]⟩ (some ⟨sb,so,.none⟩) c W') rfl _ (λW' Y hw' hr'=>?_)
   all_goals have iO:=(eW aJ).trans hw' (λi hi=>bu (by omega))
   all_goals have k0:=hr'.cell (j:=0) rfl
   all_goals have k1:=hr'.cell (j:=1) rfl
   all_goals have k2:=hr'.cell (j:=2) rfl
   all_goals have k3:=hr'.cell (j:=3) rfl
   all_goals clear hW hrx jv nQ hrs hw' hr'
   all_goals go_wp2_with fail
   all_goals refine HQ _ _ _ ?_
   all_goals exact aS (v:= .tuple #[.agg #[.bool true,.bool true,.bool false,.bool false],.bool (p9 ⟨6,dst,a,b,n,[v]⟩ ⟨6,dst,a,0,n,[v]⟩&& (((([v]:List Int).length:Int)==1)&& pR ⟨6,dst,a,b,n,[v]⟩))]) (by simp[results,results36,go_sem,k0,k1,k2,k3]) rfl ⟨_,_,_,_,rfl,λ_=>qZ.out,iO.below (aY _) (λ_ h=>h.elim)⟩
 ·have e1:((arg.length:Int) !=1)=true:=by simp;omega
  have H1:=ae h1;clear h1 hx;have HV:=ae (show bD nl ng pl ⟨6,dst,a,b,n,arg⟩=false from by unfold bD lU;simp[H1.out]);rw[HV.out];go_enter func36,ntmps36;refine aj λQ HQ=>?_;go_wp2_with fail;go_region
  all_goals go_wp2_with fail
  all_goals refine HQ _ _ _ ?_
  all_goals refine aS (v:= .tuple #[.agg #[.bool true,.bool true,.bool false,.bool false],.bool false]) (by simp[results,results36,go_sem]) rfl ⟨_,_,_,_,rfl,λh=>(by cases h),?_⟩
  all_goals exact(bM (by first|exact aK rfl|exact bu rfl)).2.2.2.2
theorem Ry(nl ng:Int)(pl:List Int)(PA:Option Addr)(pc:Nat)(dst a b n:Int)(arg:List Int)(A:Option Addr)(c B:Nat)(w:World)(hB:B<=w.heap.size)(hx:aD w B arg (.slice A arg.length c))(hp:aD w B pl (.slice PA pl.length pc)):
  Calls prog 36 #[cH ⟨7,dst,a,b,n,arg⟩ A c,.int .i64 nl,.int .i64 ng,.slice PA pl.length pc] w λe w'=>dJ (bD nl ng pl ⟨7,dst,a,b,n,arg⟩) (bE ⟨7,dst,a,b,n,arg⟩) w e w':=by
 have HX:=ae hx;have HP:=ae hp;unfold cH;simp only;clear hx hp;have HV:=ae (show bD nl ng pl ⟨7,dst,a,b,n,arg⟩=(p9 ⟨7,dst,a,b,n,arg⟩ ⟨7,dst,a,0,n,arg⟩&& (((arg.length:Int)==0)&& pR ⟨7,dst,a,b,n,arg⟩))from by simp[bD,aP,lU,gA,aI,eN,fS]);rw[HV.out];have qZ:=ae (show(true,true,false,false)=bE ⟨7,dst,a,b,n,arg⟩from by simp[bE,aI,aP]);go_enter func36,ntmps36;refine aj λQ HQ=>?_;go_wp2_with fail;go_region
 all_goals go_wp2_with fail
 all_goals refine cO (λW hW=>?_)
 all_goals obtain⟨hrx,jv,nQ,hrs,aJ⟩:=bM (by first|exact aK hW|exact bu hW)
 all_goals refine cC w.heap.size (w.heap.size+1+1) (w.heap.size+1+1+1) (w.heap.size+1) ⟨7,dst,a,b,n,arg⟩ ⟨7,dst,a,0,n,arg⟩ A c true true false false _ _ _ 0 W hrx nQ hrs jv (λW' hW'=>cD ⟨7,dst,a,b,n,arg⟩ ⟨7,dst,a,0,n,arg⟩ rfl A c B W' (by have:=hW'.size;have:=aJ.size;omega) (HX.below ((aJ.trans (hW'.mono aJ.size)).mono hB) (aY _))) (λW' hW'=>fN ⟨7,dst,a,b,n,arg⟩ A c W') rfl _ (λW' Y hw' hr'=>?_)
 all_goals have iO:=(eW aJ).trans hw' (λi hi=>bu (by omega))
 all_goals have k0:=hr'.cell (j:=0) rfl
 all_goals have k1:=hr'.cell (j:=1) rfl
 all_goals have k2:=hr'.cell (j:=2) rfl
 all_goals have k3:=hr'.cell (j:=3) rfl
 all_goals clear hW hrx jv nQ hrs hw' hr'
 all_goals go_wp2_with fail
 all_goals refine HQ _ _ _ ?_
 all_goals exact aS (v:= .tuple #[.agg #[.bool true,.bool true,.bool false,.bool false],.bool (p9 ⟨7,dst,a,b,n,arg⟩ ⟨7,dst,a,0,n,arg⟩&& (((arg.length:Int)==0)&& pR ⟨7,dst,a,b,n,arg⟩))]) (by simp[results,results36,go_sem,k0,k1,k2,k3]) rfl ⟨_,_,_,_,rfl,λ_=>qZ.out,iO.below (aY _) (λ_ h=>h.elim)⟩
end Go.Proofs.YtinmgbodgecoeaaGreat
