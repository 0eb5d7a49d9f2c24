/- The page's machine: every run. Conditions: as stated. -/
import Derived.Test.YtikbdplllopjlaaGreatQ15Zz
import Derived.BigRegion
set_option linter.unusedVariables false
set_option linter.unusedSimpArgs false
set_option maxHeartbeats 8000000
set_option maxRecDepth 100000
open Go.Proofs.Tryz
namespace Go.Proofs.YtikbdplllopjlaaGreat
open Go.RowKit
def Ec(o:sX)(ai:Nat)(w:World)(e:Ending)(w':World):Prop:=
 ∃outv,e= .returned (.agg #[.int .i64 o.kind,.int .i64 o.code,outv,.int .i64 o.steps,.int .i64 o.deep])/\w'.ownsRow ai 2 1 outv o.out.length (o.out.map (Value.int .i64))/\Below w.heap.size w w'
theorem Nl{w:World}{B:Nat}{P:Value×Value×Value}{ah:Int}{inp:List Int}{inv:Value}(hB:B<=w.heap.size)(gZ:vE w B inv inp)(o1 o2:Obj):
  cN (((w.alloc o1).alloc o2).alloc (.cells (uS P ah (zn inp) inv (.slice none 0 0) (.slice none 0 0)) 82)) w.heap.size (w.heap.size+1+1) (λk=>k=w.heap.size+1+1) P ah (zn inp):=by
 have hb:=aO w o1 o2 (.cells (uS P ah (zn inp) inv (.slice none 0 0) (.slice none 0 0)) 82);refine⟨inv,.slice none 0 0,.slice none 0 0,λ_=>0,Row.new' _ _ (by simp),rfl,⟨?_,World.ownsRow_nil _ _ _ _,λg hg=>(by cases hg),⟨⟨[],World.ownsRow_nil _ _ _ _,λk o h=>(by simp[zn]at h)⟩,λk o _ h=>(by simp[zn]at h),λi j _ h=>(by simp[zn]at h),⟨by simp[zn],λo h=>(by simp[zn]at h),λk o _ h=>(by simp[zn]at h),λo h=>(by simp[zn]at h)⟩⟩,λg hg=>(by cases hg),λk hk=>?_⟩⟩
 ·obtain⟨A,aA,h0,h1,h2,h3⟩:=gZ;refine⟨A,aA,h0,h1,h2,λhp=>?_⟩;obtain⟨b,off,hA,hlt,hc⟩:=h3 hp;exact⟨b,off,hA,by omega,λj x hj=>⟨(hb.cell (p:=⟨b,off+j,none⟩) (show b<w.heap.size by omega)).trans (hc j x hj).1,(hc j x hj).2⟩⟩
 ·subst hk;refine⟨by omega,by simp⟩
theorem Di(w:World)(r:Nat)(a b c d e:Value)(o:Obj):Wr (λi=>i=r) w ((((((w.setCell ⟨r,0,none⟩ a).setCell ⟨r,1,none⟩ b).setCell ⟨r,2,none⟩ c).setCell ⟨r,3,none⟩ d).setCell ⟨r,4,none⟩ e).alloc o):=
 ((((((Wr.cell1 w r 0 a).trans (Wr.cell1 _ r 1 b) (λ_ h=>aH h)).trans (Wr.cell1 _ r 2 c) (λ_ h=>aH h)).trans (Wr.cell1 _ r 3 d) (λ_ h=>aH h)).trans (Wr.cell1 _ r 4 e) (λ_ h=>aH h)).trans (di (aj _ o)) (λ_ h=>h.elim))
theorem QB(B:Nat)(P:Value×Value×Value)(ah:Int)(p:aM)(inp:List Int)(inv:Value)(f:Nat)(g:aP)(w:World)
  (hB:B<=w.heap.size)(hP:bH w B P p)(gZ:vE w B inv inp)(Wv:sP p)(Bb:p.main=(f:Nat))(Yj:p.funcs[f]? =some g)(hg0:g.params=0)(Rm:0<=ah)(hf:ah<=100000000):
  Calls prog 13 #[.agg #[P.1,P.2.1,P.2.2],inv,.int .i64 ah] w λe w'=>Ec (wV p inp ah) w.heap.size w e w':=by
 obtain⟨P0,P1,P2⟩:=P;obtain⟨GA,iE,hGv⟩:∃GA iE,P0= .slice GA p.ax.length iE:=(by obtain⟨A',c',h,_⟩:=hP.1;exact⟨_,_,h⟩)
 subst hGv;have gJ:∀o,o∈p.ax->q9 o:=λo ho=>(Wv.ax o ho).1;have yF:=Wv.RB;have hst:=JS Rm (vE.Ib gZ) Wv.ax Wv.RB;obtain⟨mn,Fo⟩:∃mn,P2= .int .i64 mn:=⟨_,hP.2.2.1⟩
 subst Fo;obtain⟨IA,icap,hIv⟩:∃IA icap,inv= .slice IA inp.length icap:=(by obtain⟨A',c',h,_⟩:=gZ;exact⟨_,_,h⟩)
 subst hIv;obtain⟨FA,pY,hFv⟩:∃FA pY,P1= .slice FA p.funcs.length pY:=(by obtain⟨A',c',h,_⟩:=hP.2.1;exact⟨_,_,h⟩)
 subst hFv;have MV:mn=f:=by have:=hP.2.2.1;injection this with _ h;rw[h,Bb]
 subst MV;have HP:=ae hP;have yX:=ae gZ;have vF:=ae gJ;have HFUN:=ae Yj;have HPK:=ae Wv;have HST:=ae hst;have BH:=ae hg0;have TS:=ae Bb;obtain⟨r,hr⟩:∃r,r=mF p ah (63+1) f [] {zn inp with mem:=bf [] p.ax}:=⟨_,rfl⟩
 have hrun:wV p inp ah=mP r:=(CP Bb).trans (congrArg mP hr.symm);simp only[hrun];have HR:=ae hr;clear hP gZ gJ Yj Wv hst hg0 Bb hrun hr;go_enter func13,ntmps13;refine ak λQ HQ=>?_;go_wp2_with fail;go_loopw [8] (λi wr=>∃(k:Nat)(dQ:Nat->Prop),k<=p.ax.length/\i= .int .i64 k/\cN wr w.heap.size (w.heap.size+1+1) dQ (.slice GA p.ax.length iE,.slice FA p.funcs.length pY,.int .i64 (f:Nat)) ah {zn inp with mem:=bf [] (p.ax.take k)}/\(∀i,dQ i->w.heap.size+1+1<=i)/\Row wr w.heap.size #[.slice GA p.ax.length iE,.slice FA p.funcs.length pY,.int .i64 (f:Nat)] 31/\Row wr (w.heap.size+1) #[.int .i64 0,.int .i64 0,.slice none 0 0,.int .i64 0,.int .i64 0] 40/\Below w.heap.size w wr) (λi _=>p.ax.length-(intOf i).toNat)
 case atStart=>exact⟨0,λk=>k=w.heap.size+1+1,by omega,rfl,by exact Nl (P:=(.slice GA p.ax.length iE,.slice FA p.funcs.length pY,.int .i64 (f:Nat))) (ah:=ah) hB yX _ _,λi hi=>Nat.le_of_eq hi.symm,((Row.new _ _ _).alloc _).alloc _,(Row.new' _ _ (by simp)).alloc _,aO _ _ _ _⟩
 case round=>
  obtain⟨k,dQ,hk,rfl,hM,hown,Lq,jc,YL⟩:=hrel;have c0:wr.cell? ⟨w.heap.size,0,none⟩=some (.slice GA p.ax.length iE):=Lq.cell (j:=0) rfl;have c2:wr.cell? ⟨w.heap.size,2,none⟩=some (.int .i64 (f:Nat)):=Lq.cell (j:=2) rfl;have hz:=jc.lt;have HM:=ae hM;have iL:=ae Lq;have iK:=ae jc;have sZ:=ae hown;have cV:=ae YL;by_cases hlt:k<p.ax.length
  ·obtain⟨lb,Ur,o,rfl,MW,gu,o0,o1,⟨ov,o2,Fl⟩,_,_⟩:=((HP.below (YL.mono hB)).1).get hlt;simp only[Nat.add_zero]at o0 o1 o2;obtain⟨OA,Hp,hOv⟩:∃OA Hp,ov= .slice OA o.init.length Hp:=(by obtain⟨A',c',h,_⟩:=Fl;exact⟨_,_,h⟩)
   subst hOv;have AZ:=vF.out o (List.mem_of_getElem? gu);have Iy:(bf [] (p.ax.take k)).length<=17:=by rw[pS,List.length_take,gq];(repeat' split)<;>first|omega|(simp;done)|(simp;omega)
   have eW:(au (bf [] (p.ax.take k))).length+1<=1000000000:=by rw[gq];split<;>omega
   have VY:=ae (CU w.heap.size (w.heap.size+1+1) dQ _ ah _ o (.slice OA o.init.length Hp) wr.drew (hM.below (bI _ _).drew) AZ (Fl.below (bI _ _).drew (by omega)) eW);have yc:=ae gu;have qg:(k:Int)<(p.ax.length:Int):=by omega
   have iZ:(0:Int)<=(k:Int):=by omega
   have hlbl:lb<wr.heap.size:=by omega
   clear hM Lq jc hown YL gu Fl AZ Iy eW;go_wp2_with fail;refine bJ 8 (by kernel_rfl) (by kernel_rfl) ?_;simp only[List.take_succ_cons,List.take_zero,List.drop_succ_cons,List.drop_zero]
   repeat(go_big_quiet_step (fail))
   refine wpQuiet_nil ?_;go_wp2_with fail;refine VY.mono ?_;rintro e w2 ⟨rfl,bF,Ey,zQ,GU,hw2⟩;have Pw:=ae (And.intro Ey zQ);have kB:=ae GU;have gU:=ae hw2;clear Ey zQ GU hw2;go_wp2_with fail;go_roundw
   case rel=>
    have hw3:Wr dQ wr w2:=(Wr.of_below (F:=dQ) (bI _ _).drew).trans gU (λi hi=>aH hi);have BO:¬dQ w.heap.size:=λh=>by have:=sZ _ h;omega
    have jw:¬dQ (w.heap.size+1):=λh=>by have:=sZ _ h;omega
    have fV:w.heap.size<=wr.heap.size:=by omega
    have hme:bf [] (p.ax.take (k+1))=gG (bf [] (p.ax.take k)) o:=by rw[dH yc.out,pT];rfl
    have hdn:∀i,bF i->dQ i\/wr.heap.size<=i:=Pw.2;refine⟨k+1,bF,by omega,by go_num,by rw[hme];exact kB.out,λi hi=>?_,iL.wr hw3 BO,iK.wr hw3 jw,cV.trans (hw3.below fV (λi hi=>by have:=sZ.out i hi;omega))⟩;rcases hdn i hi with h|h
    ·exact sZ.out i h
    ·omega
   case measure=>simp[intOf];omega
  ·obtain rfl:k=p.ax.length:=by omega
   rw[List.take_length]at hM;have dF:=F7 HPK.out hf 64 0 (by omega) w.heap.size (w.heap.size+1+1) dQ _ {zn inp with mem:=bf [] p.ax} f g [] none 0 0 wr hM (HP.below (YL.mono hB)|>.up (by omega)) HST.1 rfl HFUN (by rw[BH.out];rfl) (λj v h=>by simp at h) rfl (λv hv=>by cases hv) (by have:=HST.2;show _<(au (bf [] p.ax)).length;omega);rw[show(64:Nat)=63+1 from rfl]at dF;rw[<-HR.out]at dF;have HCA:=ae dF;obtain⟨rv,rs⟩:=r;clear hM Lq jc hown YL dF HR;go_wp2_with fail;refine HCA.mono ?_;rintro e w3 ⟨rfl,fS,Z5,GR,hM3,hw3⟩;obtain⟨inv3,Xr,memv3,rb3,Cs⟩:=hM3;obtain⟨OA,on,oc,Fl⟩:∃A n c,Xr= .slice A n c:=(by obtain⟨_,h|⟨g,c,cur,h,_⟩⟩:=Cs.rest.out;exact⟨_,_,_,h.1⟩;exact⟨_,_,_,h⟩)
   subst Fl;have BO:¬dQ w.heap.size:=λh=>by have:=sZ _ h;omega
   have jw:¬dQ (w.heap.size+1):=λh=>by have:=sZ _ h;omega
   have jZ:=iK.wr hw3 jw;have q0:=jZ.free 0;have q1:=jZ.free 1;have q2:=jZ.free 2;have q3:=jZ.free 3;have q4:=jZ.free 4;have Q8:=jZ.lt;have p0:w3.cell? ⟨w.heap.size+1,0,none⟩=some (.int .i64 0):=jZ.cell (j:=0) rfl;have p1:w3.cell? ⟨w.heap.size+1,1,none⟩=some (.int .i64 0):=jZ.cell (j:=1) rfl;have p2:w3.cell? ⟨w.heap.size+1,2,none⟩=some (.slice none 0 0):=jZ.cell (j:=2) rfl;have p3:w3.cell? ⟨w.heap.size+1,3,none⟩=some (.int .i64 0):=jZ.cell (j:=3) rfl;have p4:w3.cell? ⟨w.heap.size+1,4,none⟩=some (.int .i64 0):=jZ.cell (j:=4) rfl;have Ba:=Cs.lt;have HA3:=ae Cs;have HQ1:=ae jZ;have lZ:=ae hw3;have Ix:¬w.heap.size+1=w.heap.size+1+1:=by omega
   have Cg:¬w.heap.size+1+1=w.heap.size+1:=by omega
   have jd:=ae (show Below w.heap.size w w3 from cV.trans (hw3.below (by omega) (λi hi=>by have:=sZ.out i hi;omega)));have yU:=ae (show∀g,(Value.slice OA on oc).ownBlock=some g->¬(g=w.heap.size+1\/g=w.heap.size+1+1)from λg hg h=>by
    obtain⟨_,cs,hr⟩:=aC Cs.rest.out hg;rcases h with h|h
    ·subst h;exact hr.ne jZ (by decide) rfl
    ·subst h;exact hr.ne Cs.row (by decide) rfl)
   have hz3:w.heap.size+1+1<=w3.heap.size:=by omega
   have Rb:¬w.heap.size+1=w.heap.size:=by omega
   clear Ix Cg Rb;have Ix:¬w.heap.size+1=w.heap.size+1+1:=by omega
   have Cg:¬w.heap.size+1+1=w.heap.size+1:=by omega
   have hge1:w.heap.size<=w.heap.size+1:=by omega
   have hge2:w.heap.size<=w.heap.size+1+1:=by omega
   generalize eW:w.heap.size+1+1=mb at*;generalize rK:w.heap.size+1=rb at*;have Km:=ae eW;have HRB:=ae rK;clear eW rK;cases rv with
   |none=>
    simp only[aI];have k5:w3.cell? ⟨mb,5,none⟩=some (.int .i64 rs.kind):=Cs.row.cell (j:=5) rfl;have k3:w3.cell? ⟨mb,6,none⟩=some (.int .i64 rs.code):=Cs.row.cell (j:=6) rfl;have k7:w3.cell? ⟨mb,7,none⟩=some (.slice OA on oc):=Cs.row.cell (j:=7) rfl;have k8:w3.cell? ⟨mb,8,none⟩=some (.int .i64 rs.steps):=Cs.row.cell (j:=8) rfl;have k9:w3.cell? ⟨mb,9,none⟩=some (.int .i64 rs.deep):=Cs.row.cell (j:=9) rfl;by_cases hk3:rs.kind=3
    ·rw[hk3]at k5;have PD:=ae hk3;clear hk3 Cs jZ hw3 Z5 GR;go_wp2_with fail;refine HQ _ _ _ ?_;refine aR (v:= .agg #[.int .i64 3,.int .i64 0,.slice none 0 0,.int .i64 0,.int .i64 0]) ?_ rfl ?_
     ·simp[results,results13,go_sem,p0,p1,p2,p3,p4,Q8]
     ·have he:mP (none,rs)=⟨3,0,[],0,0⟩:=by simp[mP,PD.out]
      rw[he];exact⟨_,rfl,World.ownsRow_nil _ _ _ _,jd.trans ((Di w3 (rb) _ _ _ _ _ _).below (by omega) (λi hi=>by omega))⟩
    ·have hk3':(rs.kind==3)=false:=by simpa using hk3
     have PD:=ae hk3;clear hk3 Cs jZ hw3 Z5 GR;go_wp2_with fail;refine HQ _ _ _ ?_;refine aR (v:= .agg #[.int .i64 rs.kind,.int .i64 rs.code,.slice OA on oc,.int .i64 rs.steps,.int .i64 rs.deep]) ?_ rfl ?_
     ·simp[results,results13,go_sem,p0,p1,p2,p3,p4,Q8]
     ·have he:mP (none,rs)=⟨rs.kind,rs.code,rs.out,rs.steps,rs.deep⟩:=by simp[mP,PD.out]
      rw[he];exact⟨_,rfl,aB HA3.rest.out (Di w3 (rb) _ _ _ _ _ _) (λg hg h=>yU.out g hg (aH h)),jd.trans ((Di w3 (rb) _ _ _ _ _ _).below (by omega) (λi hi=>by omega))⟩
   |some v=>
    simp only[aI];have k5:w3.cell? ⟨mb,5,none⟩=some (.int .i64 rs.kind):=Cs.row.cell (j:=5) rfl;have k6:w3.cell? ⟨mb,6,none⟩=some (.int .i64 rs.code):=Cs.row.cell (j:=6) rfl;have k7:w3.cell? ⟨mb,7,none⟩=some (.slice OA on oc):=Cs.row.cell (j:=7) rfl;have k8:w3.cell? ⟨mb,8,none⟩=some (.int .i64 rs.steps):=Cs.row.cell (j:=8) rfl;have k9:w3.cell? ⟨mb,9,none⟩=some (.int .i64 rs.deep):=Cs.row.cell (j:=9) rfl;have f5:=Cs.row.free 5;have f6:=Cs.row.free 6;obtain⟨vo,vn⟩:=v;by_cases hv:vo=0
    ·subst hv;have HV:=ae (True.intro);clear Cs jZ hw3 Z5 GR;go_wp2_with fail;go_region
     all_goals go_wp2_with fail
     all_goals
      refine HQ _ _ _ ?_;refine aR (v:= .agg #[.int .i64 1,.int .i64 vn,.slice OA on oc,.int .i64 rs.steps,.int .i64 rs.deep]) ?_ rfl ?_
      ·simp[results,results13,go_sem,p0,p1,p2,p3,p4,Q8,Ix,Cg]
      ·have he:mP (some ⟨0,vn⟩,rs)=⟨1,vn,rs.out,rs.steps,rs.deep⟩:=by simp[mP]
       rw[he];have hWR:∀{W:World},Wr (λi=>i=rb\/i=mb) w3 W->Below w.heap.size w W:=λh=>jd.trans (h.below (by omega) (λi hi=>by omega));refine⟨_,rfl,aB HA3.rest.out (F:=λi=>i=rb\/i=mb) ?_ yU.out,hWR ?_⟩
       all_goals
        repeat(first|(with_reducible exact Wr.refl _ _)|(with_reducible refine Wr.gz ?_)|(with_reducible refine Wr.eA ?_ _)|(with_reducible refine Wr.iO ?_ _ _ _ (aH ?_))|exact aH rfl|exact aT rfl)
    ·have hv':(0:Int)<(vo:Int):=by omega
     have hv2:0<vo:=by omega
     have HV:=ae hv;clear hv Cs jZ hw3 Z5 GR;go_wp2_with fail;go_region
     all_goals go_wp2_with fail
     all_goals
      refine HQ _ _ _ ?_;refine aR (v:= .agg #[.int .i64 3,.int .i64 0,.slice none 0 0,.int .i64 0,.int .i64 0]) ?_ rfl ?_
      ·simp[results,results13,go_sem,p0,p1,p2,p3,p4,Q8,Ix,Cg]
      ·have he:mP (some ⟨vo,vn⟩,rs)=⟨3,0,[],0,0⟩:=by simp[mP,Nat.pos_of_ne_zero HV.out]
       rw[he];have hWR:∀{W:World},Wr (λi=>i=rb\/i=mb) w3 W->Below w.heap.size w W:=λh=>jd.trans (h.below (by omega) (λi hi=>by omega));refine⟨_,rfl,World.ownsRow_nil _ _ _ _,hWR ?_⟩
       repeat(first|(with_reducible exact Wr.refl _ _)|(with_reducible refine Wr.gz ?_)|(with_reducible refine Wr.eA ?_ _)|(with_reducible refine Wr.iO ?_ _ _ _ (aH ?_))|exact aH rfl|exact aT rfl)
end Go.Proofs.YtikbdplllopjlaaGreat
