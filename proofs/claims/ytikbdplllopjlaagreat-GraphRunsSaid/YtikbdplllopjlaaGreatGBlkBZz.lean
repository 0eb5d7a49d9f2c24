/- The graph's machine: a block, whole. Conditions: as stated. -/
import Derived.Test.YtikbdplllopjlaaGreatQ08Zz
set_option linter.unusedVariables false
set_option linter.unusedSimpArgs false
set_option maxHeartbeats 8000000
set_option maxRecDepth 100000
open Go.Proofs.Tryz
namespace Go.Proofs.YtikbdplllopjlaaGreat
open Go.RowKit
theorem I5(ai cb hb rb fb tb:Nat)(own:Nat->Prop)(P:Value×Value×Value)(gv lv:Value)(ah:Int)(s:St)(tp:List V)(lo:List Nat)(R:cC)(p:aM)(g:aP)(b:bW)(SA CA:Option Addr)(n scap cl cc:Nat)(ca cb':Int)(w:World)
  (h:gS w ai own cb hb ah s)(hR:jS w rb cb hb P gv p.ax.length)(hF:cD w fb tb tp lv lo)(hO:mQ ai own rb fb tb lv gv)(gD:dW (au s.mem) tp lo p.ax.length)(hI:GInv ah s)(hf:ah<=100000000)
  (qV:lo.length=g.az.length)(hb2:x6 p g tp.length b)(hst:aL w ai 5 (gA w ai) b.steps (.slice SA n scap))(lW:aX w (dP ai) b.cond (.int .i64 ca) (.int .i64 cb') (.slice CA cl cc))(hP:bH w ai P p)(dF:ru p ah s.calls R)(YE:∀c,zK p ah c R):
  Calls prog 45 #[.pointer (some ⟨rb,0,none⟩),.pointer (some ⟨fb,0,none⟩),.agg #[.slice SA n scap,.int .i64 b.fin,.int .i64 ca,.int .i64 cb',.slice CA cl cc,.int .i64 b.next,.int .i64 b.els]] w λe w'=>vI ai cb hb ah fb tb lv lo own (dN R ah lo s tp b) w e w':=by
 have df:=h.blocks;have gP:ai<=w.heap.size:=by have:=df.2.2 cb df.1;omega
 obtain⟨nt,uZ⟩:∃nt,nt=tp.length:=⟨_,rfl⟩
 rw[<-uZ]at hb2;have xg:=hst.len;have H0:=ae (show Eu ai cb hb rb fb tb own ah P gv lv lo p.ax.length nt s #[.slice SA n scap,.int .i64 b.fin,.int .i64 ca,.int .i64 cb',.slice CA cl cc,.int .i64 b.next,.int .i64 b.els] w own s tp ((w.alloc (.cells #[.slice SA n scap,.int .i64 b.fin,.int .i64 ca,.int .i64 cb',.slice CA cl cc,.int .i64 b.next,.int .i64 b.els] 93)).alloc (.cells #[.int .i64 0,.int .i64 0] 72))from
  (by
   have hw2:=aJ w (.cells #[.slice SA n scap,.int .i64 b.fin,.int .i64 ca,.int .i64 cb',.slice CA cl cc,.int .i64 b.next,.int .i64 b.els] 93) (.cells #[.int .i64 0,.int .i64 0] 72);have hv:=Row.new (w.alloc (.cells #[.slice SA n scap,.int .i64 b.fin,.int .i64 ca,.int .i64 cb',.slice CA cl cc,.int .i64 b.next,.int .i64 b.els] 93)) #[.int .i64 0,.int .i64 0] 72;rw[World.size_alloc]at hv;exact⟨λ_ h=>h,λ_ h=>aH h,h.below hw2,hR.below hw2,hF.below hw2,hO,gD,lF.refl hI,uZ.symm,(Row.new w #[.slice SA n scap,.int .i64 b.fin,.int .i64 ca,.int .i64 cb',.slice CA cl cc,.int .i64 b.next,.int .i64 b.els] 93).alloc _,hv,df.1,λk hk=>(df.2.2 k hk).2,hF.lt.2,gP,Wr.of_below hw2⟩))
 have HST:=ae hst;have vG:=ae lW;have HP:=ae hP;have HC:=ae dF;have Zd:=ae YE;have bL:=ae hb2;have Kn:=ae qV;have HL1:=ae xg.1;have iD:=xg.2;have hrb0:=hR.row.lt;have Qn:=ae (show fb<w.heap.size/\∀g,lv.ownBlock=some g->g<w.heap.size from⟨hF.lt.1,λg hg=>by obtain⟨_,cs,hr⟩:=aC hF.az hg;exact hr.lt⟩);clear h hR hF hO gD hI hb2 hst lW hP dF YE df xg;go_enter func45,ntmps45;refine ak λQ HQ=>?_;go_wp2_with fail
 go_loopw [14] (λi wr=>∃(j:Nat)(bF:Nat->Prop)(st:St)(iM:List V),i= .int .i64 j/\j<=n/\Eu ai cb hb rb fb tb own ah P gv lv lo p.ax.length nt s #[.slice SA n scap,.int .i64 b.fin,.int .i64 ca,.int .i64 cb',.slice CA cl cc,.int .i64 b.next,.int .i64 b.els] w bF st iM wr/\eL R ah lo st iM (b.steps.drop j)=eL R ah lo s tp b.steps) (λi _=>n-(intOf i).toNat)
 case atStart=>exact⟨0,own,s,tp,rfl,by omega,H0.out,rfl⟩
 case round=>
  obtain⟨j,bF,st,iM,rfl,hj,hB,Im⟩:=hrel;have HB:=ae hB;have Zb:=ae Im;have gY:=hB.box;have hbxl:=gY.lt;have hvll:=hB.val.lt;have b0:=gY.cell (j:=0) rfl;have zA:=hB.YT;by_cases hlt:j<n
  ·obtain⟨xb,Ks,x,rfl,Z3,Ig,x0,x1,x2,x3,⟨xv,x4,QU⟩,_⟩:=(HST.below zA (aN _) (λ_ _ h=>h.below zA (aN _))).get hlt;simp only[Nat.add_zero]at x0 x1 x2 x3 x4;obtain⟨XA,xn,Ab,rfl,Du⟩:=QU;have Uv:=bL.steps x (List.mem_of_getElem? Ig);have hlen:=hB.len;have NV:xb<wr.heap.size:=by have:=zA.size;omega
   have EA:(j:Int)<(n:Int):=by omega
   have Rw:=ae (λW(hW:Below wr.heap.size wr W)=>LB ai cb hb rb fb tb bF P gv lv ah st iM lo R p x XA xn Ab W (hB.hc.below hW) (hB.run.below hW) (hB.fr.below hW) hB.off hB.nW hB.kept.inv hf (by rw[hlen,Kn.out];exact Uv) (Du.below (hW.mono (by have:=zA.size;omega)) (aN _)) (HP.below (zA.trans (hW.mono (by have:=zA.size;omega)))) (by rw[hB.kept.calls];exact HC.out));have MF:=ae Ig;have HXO:=ae Uv;clear hB Im gY zA Ig Du Uv;by_cases MX:(bu R ah lo st iM x).1=true
   ·have S5:=ae ((Rw.out _ (aj wr (.cells #[.int .i64 x.op,.int .i64 x.to,.int .i64 x.size,.int .i64 x.fn,.slice XA xn Ab] 96))).mono (R':=λe w'=>e= .returned (.bool true)/\mH ai cb hb ah fb tb lv lo bF (bu R ah lo st iM x) (wr.alloc (.cells #[.int .i64 x.op,.int .i64 x.to,.int .i64 x.size,.int .i64 x.fn,.slice XA xn Ab] 96)) e w') (λe w' h=>⟨MX▸h.1,h⟩));have Qp:=ae MX;clear Rw MX;go_wp2_with fail;refine S5.mono ?_;rintro e w5 ⟨rfl,Ou⟩;have Zz:=ae Ou;clear Ou;go_wp2_with fail;go_roundw
    case rel=>
     have hkd:=yM Zd.out HB.kept.inv HB.nW HB.len Kn.out HXO (s':=(bu R ah lo st iM x).2.1) (tp':=(bu R ah lo st iM x).2.2) (x:=x) (by rw[<-Qp.out]);obtain⟨fS,YM⟩:=(HB.below (aj wr (.cells #[.int .i64 x.op,.int .i64 x.to,.int .i64 x.size,.int .i64 x.fn,.slice XA xn Ab] 96))).step Zz.out Qp.out hkd;refine⟨j+1,fS,_,_,by go_num,by omega,YM,?_⟩;have:=Zb.out;rw[xK MF.out,qm Qp.out]at this;exact this
    case measure=>simp[intOf];omega
   ·have IE:(bu R ah lo st iM x).1=false:=by simpa using MX
    have S5:=ae ((Rw.out _ (aj wr (.cells #[.int .i64 x.op,.int .i64 x.to,.int .i64 x.size,.int .i64 x.fn,.slice XA xn Ab] 96))).mono (R':=λe w'=>e= .returned (.bool false)/\mH ai cb hb ah fb tb lv lo bF (bu R ah lo st iM x) (wr.alloc (.cells #[.int .i64 x.op,.int .i64 x.to,.int .i64 x.size,.int .i64 x.fn,.slice XA xn Ab] 96)) e w') (λe w' h=>⟨IE▸h.1,h⟩));have Qp:=ae IE;clear Rw MX IE;go_wp2_with fail;refine S5.mono ?_;rintro e w5 ⟨rfl,Ou⟩;obtain⟨jw,Lj,UG⟩:=(HB.below (aj wr (.cells #[.int .i64 x.op,.int .i64 x.to,.int .i64 x.size,.int .i64 x.fn,.slice XA xn Ab] 96))).stop Ou;have rF:=ae jw;have HN3:=ae UG;have r0:=Lj.cell (j:=0) rfl;have r1:=Lj.cell (j:=1) rfl;have r2:=Lj.free 0;have r3:=Lj.free 1;have r4:=Lj.lt;clear Ou jw Lj UG
    go_wp2_with fail;refine bJ 2 (by kernel_rfl) (by kernel_rfl) ?_;simp only[List.take_succ_cons,List.take_zero,List.drop_succ_cons,List.drop_zero]
    repeat(go_big_quiet_step (fail))
    refine wpQuiet_nil ?_;go_wp2_with fail;refine HQ _ _ _ ?_;refine aR (v:= .tuple #[.int .i64 0,.agg #[.int .i64 0,.int .i64 0],.bool false]) (by simp[results,results45,go_sem,r0,r1]) rfl ?_;rw[xN (show eL R ah lo s tp b.steps=(false,(bu R ah lo st iM x).2.1,(bu R ah lo st iM x).2.2)from(by
      have h1:=Zb.out;rw[xK MF.out,oq Qp.out]at h1;exact h1.symm))]
    obtain⟨fS,m1,m2,m3,m4⟩:=rF.out;exact rY fS m1 m2 m3 m4 HN3.out gP (jD _ _ _ _) 0 0
  ·obtain rfl:j=n:=by omega
   have hs5:eL R ah lo s tp b.steps=(true,st,iM):=by
    rw[<-Im,<-HL1.out,List.drop_length];rfl
   have MI:=ae hs5;have b1:=gY.cell (j:=1) rfl;have b2:=gY.cell (j:=2) rfl;have b3:=gY.cell (j:=3) rfl;have b4:=gY.cell (j:=4) rfl;have b5:=gY.cell (j:=5) rfl;have b6:=gY.cell (j:=6) rfl;have v0:=hB.val.cell (j:=0) rfl;have v1:=hB.val.cell (j:=1) rfl;have p0:=hB.run.row.cell (j:=0) rfl;have AY:=hB.run.row.lt;have mN:¬w.heap.size+1=cb:=λe=>by have:=hB.KU cb hB.yz;omega
   have hI:=hB.kept.inv;have qN:=ae (iN (w:=wr) 1 hB.hc hI.kind hf hI.lo hI.hi (by omega) (by omega));have Kk:=ae hB.B5;by_cases hy:(aW ah 1 st).1=true
   ·obtain⟨e1,kz⟩:=hI.tick (by omega) hy;rw[hy,e1]at qN;have HY:=ae hy;have PG:=ae e1;have JD:=ae kz;clear hB Im gY zA hs5 hI hy e1 kz b0 b2 b3 b4 b5 b6 v0 v1;go_wp2_with fail;refine qN.mono ?_;rintro e w1 ⟨rfl,qG,bT⟩;have Cq:=HB.tick (st':={st with steps:=st.steps+1}) qG bT rfl ⟨JD.out,rfl,aN _,by show st.steps<=st.steps+1;omega⟩;have bn:=ae Cq;have c1:=Cq.box.cell (j:=1) rfl;have c2:=Cq.box.cell (j:=2) rfl;have c3:=Cq.box.cell (j:=3) rfl;have c4:=Cq.box.cell (j:=4) rfl;have c5:=Cq.box.cell (j:=5) rfl;have c6:=Cq.box.cell (j:=6) rfl;have u0:=Cq.val.cell (j:=0) rfl;have u1:=Cq.val.cell (j:=1) rfl;have u2:=Cq.val.free 0;have u3:=Cq.val.free 1;have hul:=Cq.val.lt;have hbl1:=Cq.box.lt;have q0:=Cq.run.row.cell (j:=0) rfl;have Q7:=Cq.run.row.lt
    have QT:¬w.heap.size=w.heap.size+1:=by omega
    have hx1:¬w.heap.size+1=w.heap.size:=by omega
    have NW:¬w.heap.size=w.heap.size+1:=by omega
    clear Cq qG bT p0 b1;by_cases j4:b.fin=1
    ·have PF:=ae j4;rw[j4]at c1;clear j4;go_wp2_with fail;refine bJ 4 (by kernel_rfl) (by kernel_rfl) ?_;simp only[List.take_succ_cons,List.take_zero,List.drop_succ_cons,List.drop_zero]
     repeat(go_big_quiet_step (fail))
     refine wpQuiet_nil ?_;go_wp2_with fail;refine HQ _ _ _ ?_;refine aR (v:= .tuple #[.int .i64 b.next,.agg #[.int .i64 0,.int .i64 0],.bool true]) (by simp[results,results45,go_sem,u0,u1]) rfl ?_;rw[F9 MI.out HY.out PF.out,PG.out];exact bn.fin (jD _ _ _ _) ⟨rfl,rfl⟩ Qn.1 Qn.2
    ·have e0:(b.fin==1)=false:=by simpa using j4
     have PF:=ae j4;obtain⟨Q2,Ws⟩:=bL.cond j4;have MH:=ae (λW(hW:Below w1.heap.size w1 W)=>JO b.cond _ _ _ (bn.hc.below hW) (bn.run.below hW) (bn.fr.below hW) bn.nW (by rw[bn.len,Kn.out];exact Q2) (vG.below (bn.YT.trans (hW.mono (by have:=bn.YT.size;omega))) (aN _)));clear j4 Q2 Ws;cases hv:bZ st.mem iM lo b.cond with
     |none=>
      have HV:=ae hv;rw[show bZ ({st with steps:=st.steps+1}:St).mem iM lo b.cond=none from hv]at MH;clear hv;go_wp2_with fail;refine(MH _ (bI _ _)).mono ?_;rintro e w2 ⟨⟨y0,y1,rfl⟩,hb2⟩;have lX:=bn.below hb2;have Yu:=hb2.size;have rG:=ae lX;have t0:=lX.val.cell (j:=0) rfl;have t1:=lX.val.cell (j:=1) rfl;have t2:=lX.val.free 0;have t3:=lX.val.free 1;have hul2:=lX.val.lt;have U3:=lX.box.lt;clear lX hb2 u0 u1 u2 u3 c1 c2 c3 c4 c5 c6 q0;go_wp2_with fail;obtain⟨W3,hW3⟩:∃W3,W3=(w2.setCell ⟨w.heap.size+1,0,none⟩ (.int .i64 y0)).setCell ⟨w.heap.size+1,1,none⟩ (.int .i64 y1):=⟨_,rfl⟩
      rw[<-hW3];have hs3:=bU w2 (w.heap.size+1) (.int .i64 y0) (.int .i64 y1);rw[<-hW3]at hs3;have hv3:Row W3 (w.heap.size+1) #[.int .i64 y0,.int .i64 y1] 72:=by rw[hW3];exact((rG.val.set 0 _).set 1 _)
      have hz3:=hs3.size;have k0:=hv3.cell (j:=0) rfl;have k1:=hv3.cell (j:=1) rfl;have k2:=hv3.free 0;have k3:=hv3.free 1;have k4:=hv3.lt;have ig:=rG.box.wr hs3 NW;have l1:=ig.cell (j:=1) rfl;have l5:=ig.cell (j:=5) rfl;have l6:=ig.cell (j:=6) rfl;have l7:=ig.lt;have Qk:=ae hs3;have hrn:rb≠w.heap.size+1:=by omega
      have k5:=(rG.run.row.wr hs3 hrn).cell (j:=0) rfl;have Qk:=ae hs3;have HV3:=ae hv3;have X1:¬w.heap.size+1=cb:=mN;have HSK:=ae (λW(hW:Wr (λi=>i=w.heap.size+1) W3 W)(hr:Row W (w.heap.size+1) #[.int .i64 y0,.int .i64 y1] 72)=>(Aq (w:=W) (rG.hc.wr (hs3.trans hW (λ_ h=>aH h)) (λk hk=>(by subst hk;exact⟨by omega,Kk.2⟩)))).mono (R':=λe w'=>e= .returned (.bool false)/\gS w' ai bF cb hb ah {{st with steps:=st.steps+1}with kind:=3}/\Row w' (w.heap.size+1) #[.int .i64 y0,.int .i64 y1] 72/\Wr (λi=>i=cb\/i=w.heap.size+1) W3 w') (λe w' h=>⟨h.1,h.2.1,hr.wr h.2.2 X1,(hW.mono (G:=λi=>i=cb\/i=w.heap.size+1) (λi hi=>aH (aT hi))).trans h.2.2 (λi hi=>aH (aH hi))⟩));have iK:=ae (hv3.drew)
      have jX:=ae ((hv3.set 0 (.int .i64 y0)).set 1 (.int .i64 y1));have HSA:=ae (HSK _ (Wr.refl _ _).gz iK.out);have HSB:=ae (HSK _ (bU _ _ (.int .i64 y0) (.int .i64 y1)).gz jX.out);clear hs3 hW3 hv3 ig l1 l5 l6 t0 t1 t2 t3 HSK;refine Code.wp_mono (λe a w h=>CO (λe a w h=>CO HQ.out h) h) ?_;go_region_with (go_at_call 48;(first|refine HSA.mono ?_|refine HSB.mono ?_);rintro e w4 ⟨rfl,YI,hr4,hw4⟩;have r0:=hr4.cell (j:=0) rfl;have r1:=hr4.cell (j:=1) rfl;have r2:=hr4.free 0;have r3:=hr4.free 1;have r4:=hr4.lt;have HH4:=ae YI;have VK:=ae hw4;clear YI hw4 hr4)
      all_goals(go_wp2_with fail)
      all_goals(refine HQ _ _ _ ?_)
      all_goals(refine aR (v:= .tuple #[.int .i64 0,.agg #[.int .i64 y0,.int .i64 y1],.bool false]) (by simp[results,results45,go_sem,r0,r1]) rfl ?_)
      all_goals(rw[Ga MI.out HY.out PF (by rw[PG.out];exact HV.out),PG.out])
      all_goals(refine rY bF HB.up (λk hk=>(by rcases HB.dn k hk with h'|h';exact aH h';exact aT (by omega))) (λk hk e=>Kk.2 (e▸hk)) HH4 ((rG.wr.trans Qk (λk hk=>aT (by omega))).trans VK (λk hk=>(by rcases hk with rfl|rfl;exact aH (aH HB.yz);exact aT (by omega)))) gP ?_ y0 y1)
      all_goals(first|exact(Wr.refl _ _)|exact bU _ _ _ _|exact(bU _ _ _ _).gz)
     |some v=>
      have HV:=ae hv;rw[show bZ ({st with steps:=st.steps+1}:St).mem iM lo b.cond=some v from hv]at MH;clear hv;go_wp2_with fail;refine(MH _ (bI _ _)).mono ?_;rintro e w2 ⟨he,hb2⟩;simp only[cH,aI]at he;subst he;have lX:=bn.below hb2;have Yu:=hb2.size;have rG:=ae lX;have d1:=lX.box.cell (j:=1) rfl;have d5:=lX.box.cell (j:=5) rfl;have d6:=lX.box.cell (j:=6) rfl;have t0:=lX.val.cell (j:=0) rfl;have t1:=lX.val.cell (j:=1) rfl;have t2:=lX.val.free 0;have t3:=lX.val.free 1;have hul2:=lX.val.lt;have U3:=lX.box.lt;clear lX hb2 u0 u1 u2 u3 c1 c2 c3 c4 c5 c6;by_cases hf3:b.fin=3
      ·have nQ:=ae hf3;rw[hf3]at d1 e0;clear hf3;go_wp2_with fail;obtain⟨W3,hW3⟩:∃W3,W3=(w2.setCell ⟨w.heap.size+1,0,none⟩ (.int .i64 v.obj)).setCell ⟨w.heap.size+1,1,none⟩ (.int .i64 v.n):=⟨_,rfl⟩
       rw[<-hW3];have hs3:=bU w2 (w.heap.size+1) (.int .i64 v.obj) (.int .i64 v.n);rw[<-hW3]at hs3;have hv3:Row W3 (w.heap.size+1) #[.int .i64 v.obj,.int .i64 v.n] 72:=by rw[hW3];exact((rG.val.set 0 _).set 1 _)
       have hz3:=hs3.size;have k0:=hv3.cell (j:=0) rfl;have k1:=hv3.cell (j:=1) rfl;have k2:=hv3.free 0;have k3:=hv3.free 1;have k4:=hv3.lt;have ig:=rG.box.wr hs3 NW;have l1:=ig.cell (j:=1) rfl;have l5:=ig.cell (j:=5) rfl;have l6:=ig.cell (j:=6) rfl;have l7:=ig.lt;have Qk:=ae hs3;clear hs3 hW3 hv3 ig;refine bJ 2 (by kernel_rfl) (by kernel_rfl) ?_;simp only[List.take_succ_cons,List.take_zero,List.drop_succ_cons,List.drop_zero]
       repeat(go_big_quiet_step (fail))
       refine wpQuiet_nil ?_;go_wp2_with fail;refine HQ _ _ _ ?_;refine aR (v:= .tuple #[.int .i64 (-1),.agg #[.int .i64 v.obj,.int .i64 v.n],.bool true]) (by simp[results,results45,go_sem,k0,k1]) rfl ?_;rw[Jk MI.out HY.out nQ (by rw[PG.out];exact HV.out),PG.out];exact rG.fin (Qk.trans (jD _ _ _ _) (λ_ h=>aH h)) ⟨rfl,rfl,rfl,rfl⟩ Qn.1 Qn.2
      ·have hf2:b.fin=2:=by rcases bL.fin with h|h|h;exact absurd h PF.out;exact h;exact absurd h hf3
       have iy:=ae hf2;rw[hf2]at d1 e0;clear hf2 hf3;by_cases hv0:v.obj=0
       ·by_cases yD:v.n=0
        ·have Y5:=ae (show v=⟨0,0⟩from by cases v;simp only at hv0 yD;rw[hv0,yD]);have e4:¬(0:Int)<(v.obj:Int):=by omega
         have e5:(v.n==0)=true:=by simpa using yD
         go_wp2_with fail;obtain⟨W3,hW3⟩:∃W3,W3=(w2.setCell ⟨w.heap.size+1,0,none⟩ (.int .i64 0)).setCell ⟨w.heap.size+1,1,none⟩ (.int .i64 0):=⟨_,rfl⟩
         rw[<-hW3];have hs3:=bU w2 (w.heap.size+1) (.int .i64 0) (.int .i64 0);rw[<-hW3]at hs3;have hv3:Row W3 (w.heap.size+1) #[.int .i64 0,.int .i64 0] 72:=by rw[hW3];exact((rG.val.set 0 _).set 1 _)
         have hz3:=hs3.size;have k0:=hv3.cell (j:=0) rfl;have k1:=hv3.cell (j:=1) rfl;have k2:=hv3.free 0;have k3:=hv3.free 1;have k4:=hv3.lt;have ig:=rG.box.wr hs3 NW;have l1:=ig.cell (j:=1) rfl;have l5:=ig.cell (j:=5) rfl;have l6:=ig.cell (j:=6) rfl;have l7:=ig.lt;have Qk:=ae hs3;clear hs3 hW3 hv3 ig;refine bJ 4 (by kernel_rfl) (by kernel_rfl) ?_;simp only[List.take_succ_cons,List.take_zero,List.drop_succ_cons,List.drop_zero]
         repeat(go_big_quiet_step (fail))
         refine wpQuiet_nil ?_;go_wp2_with fail;refine HQ _ _ _ ?_;refine aR (v:= .tuple #[.int .i64 b.els,.agg #[.int .i64 0,.int .i64 0],.bool true]) (by simp[results,results45,go_sem,k0,k1]) rfl ?_;rw[p8 MI.out HY.out iy (by rw[PG.out];exact HV.out),PG.out,if_pos Y5.out];exact rG.fin (Qk.trans (jD _ _ _ _) (λ_ h=>aH h)) ⟨rfl,rfl⟩ Qn.1 Qn.2
        ·have Y5:=ae (show¬v=⟨0,0⟩from λe=>yD (by rw[e]));have e4:¬(0:Int)<(v.obj:Int):=by omega
         have e5:(v.n==0)=false:=by simpa using yD
         go_wp2_with fail;obtain⟨W3,hW3⟩:∃W3,W3=(w2.setCell ⟨w.heap.size+1,0,none⟩ (.int .i64 0)).setCell ⟨w.heap.size+1,1,none⟩ (.int .i64 v.n):=⟨_,rfl⟩
         rw[<-hW3];have hs3:=bU w2 (w.heap.size+1) (.int .i64 0) (.int .i64 v.n);rw[<-hW3]at hs3;have hv3:Row W3 (w.heap.size+1) #[.int .i64 0,.int .i64 v.n] 72:=by rw[hW3];exact((rG.val.set 0 _).set 1 _)
         have hz3:=hs3.size;have k0:=hv3.cell (j:=0) rfl;have k1:=hv3.cell (j:=1) rfl;have k2:=hv3.free 0;have k3:=hv3.free 1;have k4:=hv3.lt;have ig:=rG.box.wr hs3 NW;have l1:=ig.cell (j:=1) rfl;have l5:=ig.cell (j:=5) rfl;have l6:=ig.cell (j:=6) rfl;have l7:=ig.lt;have Qk:=ae hs3;clear hs3 hW3 hv3 ig;refine bJ 4 (by kernel_rfl) (by kernel_rfl) ?_;simp only[List.take_succ_cons,List.take_zero,List.drop_succ_cons,List.drop_zero]
         repeat(go_big_quiet_step (fail))
         refine wpQuiet_nil ?_;go_wp2_with fail;refine HQ _ _ _ ?_;refine aR (v:= .tuple #[.int .i64 b.next,.agg #[.int .i64 0,.int .i64 v.n],.bool true]) (by simp[results,results45,go_sem,k0,k1]) rfl ?_;rw[p8 MI.out HY.out iy (by rw[PG.out];exact HV.out),PG.out,if_neg Y5.out];exact rG.fin (Qk.trans (jD _ _ _ _) (λ_ h=>aH h)) ⟨rfl,rfl⟩ Qn.1 Qn.2
       ·have Y5:=ae (show¬v=⟨0,0⟩from λe=>hv0 (by rw[e]));have e4:(0:Int)<(v.obj:Int):=by omega
        go_wp2_with fail;obtain⟨W3,hW3⟩:∃W3,W3=(w2.setCell ⟨w.heap.size+1,0,none⟩ (.int .i64 v.obj)).setCell ⟨w.heap.size+1,1,none⟩ (.int .i64 v.n):=⟨_,rfl⟩
        rw[<-hW3];have hs3:=bU w2 (w.heap.size+1) (.int .i64 v.obj) (.int .i64 v.n);rw[<-hW3]at hs3;have hv3:Row W3 (w.heap.size+1) #[.int .i64 v.obj,.int .i64 v.n] 72:=by rw[hW3];exact((rG.val.set 0 _).set 1 _)
        have hz3:=hs3.size;have k0:=hv3.cell (j:=0) rfl;have k1:=hv3.cell (j:=1) rfl;have k2:=hv3.free 0;have k3:=hv3.free 1;have k4:=hv3.lt;have ig:=rG.box.wr hs3 NW;have l1:=ig.cell (j:=1) rfl;have l5:=ig.cell (j:=5) rfl;have l6:=ig.cell (j:=6) rfl;have l7:=ig.lt;have Qk:=ae hs3;clear hs3 hW3 hv3 ig;refine bJ 4 (by kernel_rfl) (by kernel_rfl) ?_;simp only[List.take_succ_cons,List.take_zero,List.drop_succ_cons,List.drop_zero]
        repeat(go_big_quiet_step (fail))
        refine wpQuiet_nil ?_;go_wp2_with fail;refine HQ _ _ _ ?_;refine aR (v:= .tuple #[.int .i64 b.next,.agg #[.int .i64 v.obj,.int .i64 v.n],.bool true]) (by simp[results,results45,go_sem,k0,k1]) rfl ?_;rw[p8 MI.out HY.out iy (by rw[PG.out];exact HV.out),PG.out,if_neg Y5.out];exact rG.fin (Qk.trans (jD _ _ _ _) (λ_ h=>aH h)) ⟨rfl,rfl⟩ Qn.1 Qn.2
   ·have hy':(aW ah 1 st).1=false:=by simpa using hy
    rw[hy']at qN;have HY:=ae hy';clear hB Im gY zA hs5 hI hy hy' b0 b1 b2 b3 b4 b5 b6;go_wp2_with fail;refine qN.mono ?_;rintro e w1 ⟨rfl,qG,bT⟩;have yD:=HB.val.wr bT mN;have r0:=yD.cell (j:=0) rfl;have r1:=yD.cell (j:=1) rfl;have r2:=yD.free 0;have r3:=yD.free 1;have r4:=yD.lt;have sA:=ae qG;have dG:=ae bT;clear qG bT yD v0 v1;go_wp2_with fail;refine bJ 2 (by kernel_rfl) (by kernel_rfl) ?_;simp only[List.take_succ_cons,List.take_zero,List.drop_succ_cons,List.drop_zero]
    repeat(go_big_quiet_step (fail))
    refine wpQuiet_nil ?_;go_wp2_with fail;refine HQ _ _ _ ?_;refine aR (v:= .tuple #[.int .i64 0,.agg #[.int .i64 0,.int .i64 0],.bool false]) (by simp[results,results45,go_sem,r0,r1]) rfl ?_;rw[Gb MI.out HY.out];exact rY bF HB.up (λk hk=>(by rcases HB.dn k hk with h'|h';exact aH h';exact aT (by omega))) (λk hk e=>Kk.2 (e▸hk)) sA (HB.wr.trans dG (λk hk=>(by subst hk;exact aH (aH HB.yz)))) gP (jD _ _ _ _) 0 0
end Go.Proofs.YtikbdplllopjlaaGreat
