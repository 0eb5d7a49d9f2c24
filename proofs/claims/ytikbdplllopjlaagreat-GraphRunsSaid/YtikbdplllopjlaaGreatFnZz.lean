/- fn: whether a function may be. Conditions: as stated. -/
import Derived.Test.YtikbdplllopjlaaGreatQ16Zz
set_option linter.unusedVariables false
set_option linter.unusedSimpArgs false
set_option maxHeartbeats 8000000
set_option maxRecDepth 100000
open Go.Proofs.Tryz
namespace Go.Proofs.YtikbdplllopjlaaGreat
open Go.RowKit
noncomputable def lG(p:aM)(g:aP):List cM->Int->Option Int
 |[],n=>some n
 |x::l,n=>if(a8 p g x).2=false\/n+(a8 p g x).1>8000 then none else lG p g l (n+(a8 p g x).1)
noncomputable def fD(p:aM)(g:aP):List bW->Int->Int->Bool
 |[],_,_=>true
 |b::l,s,n=>if s+b.steps.length>2000 then false else match lG p g b.steps n with
  |none=>false
  |some m=>if(fO p g b).2=false\/m+(fO p g b).1>8000 then false else fD p g l (s+b.steps.length) (m+(fO p g b).1)
noncomputable def LO(p:aM)(g:aP):Bool:=fN g.params 4 && (!decide (g.params>g.ay)&& (!decide (g.ay>1000)&& (eV g.az 24 && (iI g.blocks.length 1 1000 && fD p g g.blocks 0 0))))
structure mI (w:World) (N:Nat) (P0 P1 P2 G0 G1 G2 G3:Value):Prop where
 p0:w.cell? ⟨N,0,none⟩=some P0
 p1:w.cell? ⟨N,1,none⟩=some P1
 p2:w.cell? ⟨N,2,none⟩=some P2
 g0:w.cell? ⟨N+1,0,none⟩=some G0
 g1:w.cell? ⟨N+1,1,none⟩=some G1
 g2:w.cell? ⟨N+1,2,none⟩=some G2
 g3:w.cell? ⟨N+1,3,none⟩=some G3
 lt:N+1<w.heap.size
theorem mI.below{w w':World}{N:Nat}{P0 P1 P2 G0 G1 G2 G3:Value}(h:mI w N P0 P1 P2 G0 G1 G2 G3)(hb:Below w.heap.size w w'):mI w' N P0 P1 P2 G0 G1 G2 G3:=by
 obtain⟨a,b,c,d,e,f,g,l⟩:=h;have:=hb.size;exact⟨ag a hb (by omega),ag b hb (by omega),ag c hb (by omega),ag d hb (by omega),ag e hb (by omega),ag f hb (by omega),ag g hb (by omega),by omega⟩
structure Et (w:World) (N:Nat) (b:bW) (S V0 V1 V2:Value):Prop where
 b0:w.cell? ⟨N,0,none⟩=some S
 b1:w.cell? ⟨N,1,none⟩=some (.int .i64 b.fin)
 b2:w.cell? ⟨N,2,none⟩=some V0
 b3:w.cell? ⟨N,3,none⟩=some V1
 b4:w.cell? ⟨N,4,none⟩=some V2
 b5:w.cell? ⟨N,5,none⟩=some (.int .i64 b.next)
 b6:w.cell? ⟨N,6,none⟩=some (.int .i64 b.els)
 lt:N<w.heap.size
theorem Et.below{w w':World}{N:Nat}{b:bW}{S V0 V1 V2:Value}(h:Et w N b S V0 V1 V2)(hb:Below w.heap.size w w'):Et w' N b S V0 V1 V2:=by
 obtain⟨a,b,c,d,e,f,g,l⟩:=h;have:=hb.size;exact⟨ag a hb l,ag b hb l,ag c hb l,ag d hb l,ag e hb l,ag f hb l,ag g hb l,by omega⟩
def PQ(p:aM)(g:aP):Prop:=∀(P:Value×Value×Value)(LV BV:Value)(B:Nat)(w:World),B<=w.heap.size->uK w B P p->sB w B g LV BV->
  Calls prog 21 #[.agg #[P.1,P.2.1,P.2.2],.agg #[.int .i64 g.params,.int .i64 g.ay,LV,BV]] w λe w'=>e= .returned (.bool (LO p g))/\Below w.heap.size w w'
theorem U9(p:aM)(g:aP)(hst:∀b,b∈g.blocks->∀x,x∈b.steps->kI p g x/\0<=(a8 p g x).1/\(a8 p g x).1<=100000000000000000)(Fk:∀b,b∈g.blocks->b.steps.length<=200000000000000)(hen:∀b,b∈g.blocks->sQ p g b/\0<=(fO p g b).1/\(fO p g b).1<=100000000000000000):PQ p g:=by
 intro P LV BV B w hB hP hG;obtain⟨GA,gc,FA,fc,rfl⟩:=hP.shape;obtain⟨LA,lc,BA,bc,rfl,rfl⟩:=hG.shape;have hbl:=hG.blocks.len.2;have bL:=ae (aJ w (.cells #[.slice GA p.ax.length gc,.slice FA p.funcs.length fc,.int .i64 p.main] 31) (.cells #[.int .i64 g.params,.int .i64 g.ay,.slice LA g.az.length lc,.slice BA g.blocks.length bc] 54));have HN:=ae (λW=>gW g.params 4 W);have HO:=ae (λW(hb:Below w.heap.size w W)=>E2 g.az LA g.az.length lc 24 B W (by have:=hb.size;omega) (hG.az.below (hb.mono hB) (aN _) (λ_ _ h=>h.below (hb.mono hB) (aN _))));have HT:=ae (λW=>rZ (g.blocks.length:Int) 1 1000 W);have HP:=ae hP;have HG:=ae hG;have HST:=ae hst;have Gv:=ae hen;have Za:=ae Fk;obtain⟨q1,jZ⟩:∃q,q=fN g.params 4:=⟨_,rfl⟩
 obtain⟨q4,hq4⟩:∃q,q=eV g.az 24:=⟨_,rfl⟩
 obtain⟨q5,Z6⟩:∃q,q=iI (g.blocks.length:Int) 1 1000:=⟨_,rfl⟩
 have hfn:LO p g=(q1 && (!decide (g.params>g.ay)&& (!decide (g.ay>1000)&& (q4 && (q5 && fD p g g.blocks 0 0))))):=by rw[jZ,hq4,Z6];rfl
 rw[<-jZ]at HN;rw[<-hq4]at HO;rw[<-Z6]at HT;have HQ5:=ae Z6;clear hP hG hst hen Fk jZ hq4 Z6;cases q1 with
 |false=>
  have hr:LO p g=false:=by rw[hfn];rfl
  rw[hr];clear hr hfn;go_enter func21,ntmps21;refine ak λQ HQ=>?_;go_wp2_with(first|(go_at_call 12;refine(HN _).mono ?_;rintro e w' ⟨rfl,rfl⟩)|(go_at_call 19;refine(HO _ (by exact bL.out)).mono ?_;rintro e w1 ⟨rfl,hb1⟩;have kA:=ae (mI.below (N:=w.heap.size) (w:=((w.alloc _).alloc _)) ⟨by simp[go_sem],by simp[go_sem],by simp[go_sem],by simp[go_sem],by simp[go_sem],by simp[go_sem],by simp[go_sem],by simp⟩ hb1:mI w1 w.heap.size (.slice GA p.ax.length gc) (.slice FA p.funcs.length fc) (.int .i64 p.main) (.int .i64 g.params) (.int .i64 g.ay) (.slice LA g.az.length lc) (.slice BA g.blocks.length bc));have g3:=kA.g3;have bn:=ae (bL.trans (hb1.mono (by simp<;>omega)));clear hb1)|(go_at_call 20;refine(HT _).mono ?_;rintro e w' ⟨rfl,rfl⟩))
  refine HQ _ _ _ ?_;exact aR (v:= .bool false) (by simp[results,results21,go_sem]) rfl ⟨rfl,bL.out⟩
 |true=>
  by_cases h2:g.params>g.ay
  ·have d2:decide (g.ay<g.params)=true:=by simpa using h2
   have hr:LO p g=false:=by rw[hfn];simp[h2]
   rw[hr];clear hr hfn h2;go_enter func21,ntmps21;refine ak λQ HQ=>?_;go_wp2_with(first|(go_at_call 12;refine(HN _).mono ?_;rintro e w' ⟨rfl,rfl⟩)|(go_at_call 19;refine(HO _ (by exact bL.out)).mono ?_;rintro e w1 ⟨rfl,hb1⟩;have kA:=ae (mI.below (N:=w.heap.size) (w:=((w.alloc _).alloc _)) ⟨by simp[go_sem],by simp[go_sem],by simp[go_sem],by simp[go_sem],by simp[go_sem],by simp[go_sem],by simp[go_sem],by simp⟩ hb1:mI w1 w.heap.size (.slice GA p.ax.length gc) (.slice FA p.funcs.length fc) (.int .i64 p.main) (.int .i64 g.params) (.int .i64 g.ay) (.slice LA g.az.length lc) (.slice BA g.blocks.length bc));have g3:=kA.g3;have bn:=ae (bL.trans (hb1.mono (by simp<;>omega)));clear hb1)|(go_at_call 20;refine(HT _).mono ?_;rintro e w' ⟨rfl,rfl⟩))
   refine HQ _ _ _ ?_;exact aR (v:= .bool false) (by simp[results,results21,go_sem]) rfl ⟨rfl,bL.out⟩
  ·have d2:decide (g.ay<g.params)=false:=by simpa using h2
   by_cases h3:g.ay>1000
   ·have d3:decide (1000<g.ay)=true:=by simpa using h3
    have hr:LO p g=false:=by rw[hfn];simp[h3]
    rw[hr];clear hr hfn h2 h3;go_enter func21,ntmps21;refine ak λQ HQ=>?_;go_wp2_with(first|(go_at_call 12;refine(HN _).mono ?_;rintro e w' ⟨rfl,rfl⟩)|(go_at_call 19;refine(HO _ (by exact bL.out)).mono ?_;rintro e w1 ⟨rfl,hb1⟩;have kA:=ae (mI.below (N:=w.heap.size) (w:=((w.alloc _).alloc _)) ⟨by simp[go_sem],by simp[go_sem],by simp[go_sem],by simp[go_sem],by simp[go_sem],by simp[go_sem],by simp[go_sem],by simp⟩ hb1:mI w1 w.heap.size (.slice GA p.ax.length gc) (.slice FA p.funcs.length fc) (.int .i64 p.main) (.int .i64 g.params) (.int .i64 g.ay) (.slice LA g.az.length lc) (.slice BA g.blocks.length bc));have g3:=kA.g3;have bn:=ae (bL.trans (hb1.mono (by simp<;>omega)));clear hb1)|(go_at_call 20;refine(HT _).mono ?_;rintro e w' ⟨rfl,rfl⟩))
    refine HQ _ _ _ ?_;exact aR (v:= .bool false) (by simp[results,results21,go_sem]) rfl ⟨rfl,bL.out⟩
   ·have d3:decide (1000<g.ay)=false:=by simpa using h3
    cases q4 with
    |false=>
     have hr:LO p g=false:=by rw[hfn];simp
     rw[hr];clear hr hfn h2 h3;go_enter func21,ntmps21;refine ak λQ HQ=>?_;go_wp2_with(first|(go_at_call 12;refine(HN _).mono ?_;rintro e w' ⟨rfl,rfl⟩)|(go_at_call 19;refine(HO _ (by exact bL.out)).mono ?_;rintro e w1 ⟨rfl,hb1⟩;have kA:=ae (mI.below (N:=w.heap.size) (w:=((w.alloc _).alloc _)) ⟨by simp[go_sem],by simp[go_sem],by simp[go_sem],by simp[go_sem],by simp[go_sem],by simp[go_sem],by simp[go_sem],by simp⟩ hb1:mI w1 w.heap.size (.slice GA p.ax.length gc) (.slice FA p.funcs.length fc) (.int .i64 p.main) (.int .i64 g.params) (.int .i64 g.ay) (.slice LA g.az.length lc) (.slice BA g.blocks.length bc));have g3:=kA.g3;have bn:=ae (bL.trans (hb1.mono (by simp<;>omega)));clear hb1)|(go_at_call 20;refine(HT _).mono ?_;rintro e w' ⟨rfl,rfl⟩))
     refine HQ _ _ _ ?_;exact aR (v:= .bool false) (by simp[results,results21,go_sem]) rfl ⟨rfl,bn.out⟩
    |true=>
     cases q5 with
     |false=>
      have hr:LO p g=false:=by rw[hfn];simp
      rw[hr];clear hr hfn h2 h3;go_enter func21,ntmps21;refine ak λQ HQ=>?_;go_wp2_with(first|(go_at_call 12;refine(HN _).mono ?_;rintro e w' ⟨rfl,rfl⟩)|(go_at_call 19;refine(HO _ (by exact bL.out)).mono ?_;rintro e w1 ⟨rfl,hb1⟩;have kA:=ae (mI.below (N:=w.heap.size) (w:=((w.alloc _).alloc _)) ⟨by simp[go_sem],by simp[go_sem],by simp[go_sem],by simp[go_sem],by simp[go_sem],by simp[go_sem],by simp[go_sem],by simp⟩ hb1:mI w1 w.heap.size (.slice GA p.ax.length gc) (.slice FA p.funcs.length fc) (.int .i64 p.main) (.int .i64 g.params) (.int .i64 g.ay) (.slice LA g.az.length lc) (.slice BA g.blocks.length bc));have g3:=kA.g3;have bn:=ae (bL.trans (hb1.mono (by simp<;>omega)));clear hb1)|(go_at_call 20;refine(HT _).mono ?_;rintro e w' ⟨rfl,rfl⟩))
      refine HQ _ _ _ ?_;exact aR (v:= .bool false) (by simp[results,results21,go_sem]) rfl ⟨rfl,bn.out⟩
     |true=>
      have hr:LO p g=fD p g g.blocks 0 0:=by rw[hfn];simp[h2,h3]
      rw[hr];clear hr hfn h2 h3;have sL:(g.blocks.length:Int)<=1000:=by have:=HQ5.out;simp[iI]at this;omega
      go_enter func21,ntmps21;refine ak λQ HQ=>?_;go_wp2_with(first|(go_at_call 12;refine(HN _).mono ?_;rintro e w' ⟨rfl,rfl⟩)|(go_at_call 19;refine(HO _ (by exact bL.out)).mono ?_;rintro e w1 ⟨rfl,hb1⟩;have kA:=ae (mI.below (N:=w.heap.size) (w:=((w.alloc _).alloc _)) ⟨by simp[go_sem],by simp[go_sem],by simp[go_sem],by simp[go_sem],by simp[go_sem],by simp[go_sem],by simp[go_sem],by simp⟩ hb1:mI w1 w.heap.size (.slice GA p.ax.length gc) (.slice FA p.funcs.length fc) (.int .i64 p.main) (.int .i64 g.params) (.int .i64 g.ay) (.slice LA g.az.length lc) (.slice BA g.blocks.length bc));have g3:=kA.g3;have bn:=ae (bL.trans (hb1.mono (by simp<;>omega)));clear hb1)|(go_at_call 20;refine(HT _).mono ?_;rintro e w' ⟨rfl,rfl⟩))
      go_loopw [5,6,7] (λs m i wr=>∃(k:Nat)(s' m':Int),k<=g.blocks.length/\i= .int .i64 k/\s= .int .i64 s'/\m= .int .i64 m'/\0<=s'/\s'<=2000/\0<=m'/\m'<=8000/\fD p g (g.blocks.drop k) s' m'=fD p g g.blocks 0 0/\Below w.heap.size w wr/\mI wr w.heap.size (.slice GA p.ax.length gc) (.slice FA p.funcs.length fc) (.int .i64 p.main) (.int .i64 g.params) (.int .i64 g.ay) (.slice LA g.az.length lc) (.slice BA g.blocks.length bc)) (λ_ _ i _=>g.blocks.length-(intOf i).toNat)
      case atStart=>exact⟨0,0,0,by omega,rfl,rfl,rfl,by omega,by omega,by omega,by omega,rfl,bn.out,kA.out⟩
      case round=>
       obtain⟨k,s,m,hk,rfl,rfl,rfl,hs0,hs1,mX,mr,hcs,aG,hx⟩:=hrel;have gV:=ae hcs;have cV:=ae aG;have HX:=ae hx;have OZ:=hx.g3;have sI:=hx.lt;clear hcs hx g3;by_cases hlt:k<g.blocks.length
       ·obtain⟨bb,zW,b,rfl,qX,df,⟨sv,b0,rR⟩,b1,⟨cv0,cv1,cv2,b2,b3,b4,lW⟩,b5,b6,_,_,_⟩:=(HG.blocks.below (aG.mono hB) (aN _) (λ_ _ h=>h.below (aG.mono hB) (aN _))).get hlt;simp only[Nat.add_zero]at b0 b1 b2 b3 b4 b5 b6;obtain⟨SA,scap,NZ⟩:∃SA scap,sv= .slice SA b.steps.length scap:=(by obtain⟨A',c',h,_⟩:=rR;exact⟨_,_,h⟩)
        subst NZ;obtain⟨ca,cb,CA,cl,cc,rfl,rfl,rfl⟩:=lW.eH;have Fk:=Za.out b (List.mem_of_getElem? df);have HSV:=ae rR;have vG:=ae lW;have dR:=ae df;have hkb:(k:Int)<(g.blocks.length:Int):=by omega
        have Ro:bb<wr.heap.size:=by have:=aG.size;omega
        have HD:=ae (show fD p g (g.blocks.drop k) s m=if s+b.steps.length>2000 then false else match lG p g b.steps m with
         |none=>false
         |some m=>if(fO p g b).2=false\/m+(fO p g b).1>8000 then false else fD p g (g.blocks.drop (k+1)) (s+b.steps.length) (m+(fO p g b).1)from by rw[b8 df];rfl)
        clear rR lW df aG;by_cases h6:s+b.steps.length>2000
        ·have d6:decide (2000<s+(b.steps.length:Int))=true:=by simpa using h6
         have he:fD p g g.blocks 0 0=false:=by rw[<-gV.out,HD.out,if_pos h6]
         have HE:=ae he;have h6'':2000<s+(b.steps.length:Int):=h6;clear he h6 d6;go_wp2_with fail;refine HQ _ _ _ ?_;exact aR (v:= .bool false) (by simp[results,results21,go_sem]) rfl ⟨by rw[HE.out],cV.trans ((aj _ _).mono cV.size)⟩
        ·have d6:decide (2000<s+(b.steps.length:Int))=false:=by simpa using h6
         have h6':s+b.steps.length<=2000:=by omega
         have PH:=ae (HD.trans (if_neg h6));clear HD h6;go_wp2_with fail;obtain⟨w4,rfl⟩:∃w4:World,w4=wr:=⟨_,rfl⟩
         go_loopw [6,9] (λa i wr=>∃(j:Nat)(m2:Int),j<=b.steps.length/\i= .int .i64 j/\a= .int .i64 m2/\0<=m2/\m2<=8000/\lG p g (b.steps.drop j) m2=lG p g b.steps m/\Below w.heap.size w wr/\mI wr w.heap.size (.slice GA p.ax.length gc) (.slice FA p.funcs.length fc) (.int .i64 p.main) (.int .i64 g.params) (.int .i64 g.ay) (.slice LA g.az.length lc) (.slice (some ⟨bb,zW,none⟩) g.blocks.length bc)/\Et wr w4.heap.size b (.slice SA b.steps.length scap) (.int .i64 ca) (.int .i64 cb) (.slice CA cl cc)/\Below w4.heap.size w4 wr) (λ_ i _=>b.steps.length-(intOf i).toNat)
         case atStart=>exact⟨0,m,by omega,rfl,rfl,by omega,by omega,rfl,cV.trans ((aj _ _).mono cV.size),HX.below (aj _ _),⟨by simp[go_sem],by simp[go_sem],by simp[go_sem],by simp[go_sem],by simp[go_sem],by simp[go_sem],by simp[go_sem],by simp⟩,aj _ _⟩
         case round=>
          obtain⟨j,m2,hj,rfl,rfl,Oi,Oh,Ox,zR,hx2,gY,U1⟩:=hrel;have MR:=ae U1;have Gw:=ae Ox;have cW:=ae zR;have jq:=ae hx2;have ed:=ae gY;obtain⟨p0',Z0,p2',g0',g1',g2',g3'',zN⟩:=hx2;obtain⟨b0',Ea,D9,b3',b4',b5',b6',U3⟩:=gY;have hz2:=zR.size;have hl0:w.heap.size<wr.heap.size:=by omega
          clear Ox;by_cases xe:j<b.steps.length
          ·obtain⟨xb,Ks,x,rfl,Z3,Ig,x0,x1,x2,x3,⟨xv,x4,QU⟩,_⟩:=(HSV.below (MR.mono (by have:=cV.size;omega)) (aN _) (λ_ _ h=>h.below (MR.mono (by have:=cV.size;omega)) (aN _))).get xe;simp only[Nat.add_zero]at x0 x1 x2 x3 x4;obtain⟨XA,xn,Ab,rfl,Du⟩:=QU;obtain⟨hss,XK,XJ⟩:=HST.out b (List.mem_of_getElem? dR.out) x (List.mem_of_getElem? Ig)
           have HS:=ae (λW(hb:Below wr.heap.size wr W)=>hss (.slice GA p.ax.length gc,.slice FA p.funcs.length fc,.int .i64 p.main) (.slice LA g.az.length lc) (.slice (some ⟨bb,zW,none⟩) g.blocks.length bc) XA xn Ab B W (by have:=hb.size;omega) (HP.below (cW.trans (hb.mono (by omega))|>.mono hB) (aN _)) (HG.below (cW.trans (hb.mono (by omega))|>.mono hB) (aN _)) (Du.below (hb.mono (by omega)) (aN _)));have HD3:=ae (show lG p g (b.steps.drop j) m2=if(a8 p g x).2=false\/m2+(a8 p g x).1>8000 then none else lG p g (b.steps.drop (j+1)) (m2+(a8 p g x).1)from by rw[b8 Ig];rfl);obtain⟨⟨q,ok⟩,hq⟩:∃q,q=a8 p g x:=⟨_,rfl⟩
           rw[<-hq]at HS HD3 XK XJ;simp only at XK XJ;have NV:xb<wr.heap.size:=by omega
           have EA:(j:Int)<(b.steps.length:Int):=by omega
           clear hss hq Ig Du zR U1;cases ok with
           |false=>
            have he:fD p g g.blocks 0 0=false:=by
             have h1:lG p g b.steps m=none:=by rw[<-Gw.out,HD3.out,if_pos (aH rfl)]
             rw[<-gV.out,PH.out,h1]
            have HE:=ae he;clear he;go_wp2_with fail;refine cP (by kernel_rfl) (by kernel_rfl) (λhGG=>?_)
            repeat(go_big_quiet_step ((go_at_call 35;exact eP (HS _ (bY (bI _ _) (aN _) _)))))
            refine wpQuiet_nil ?_;rintro⟨w5,vk⟩;simp only[];have jd:=ae vk;clear hGG vk;go_wp2_with fail;refine HQ _ _ _ ?_;exact aR (v:= .bool false) (by simp[results,results21,go_sem]) rfl ⟨by rw[HE.out],cW.trans (jd.mono (by omega))⟩
           |true=>
            by_cases h7:m2+q>8000
            ·have d7:decide (8000<m2+q)=true:=by simpa using h7
             have he:fD p g g.blocks 0 0=false:=by
              have h1:lG p g b.steps m=none:=by rw[<-Gw.out,HD3.out,if_pos (aT h7)]
              rw[<-gV.out,PH.out,h1]
             have HE:=ae he;clear he h7;go_wp2_with fail;refine cP (by kernel_rfl) (by kernel_rfl) (λhGG=>?_)
             repeat(go_big_quiet_step ((go_at_call 35;exact eP (HS _ (bY (bI _ _) (aN _) _)))))
             refine wpQuiet_nil ?_;rintro⟨w5,vk⟩;simp only[];have jd:=ae vk;clear hGG vk;go_wp2_with fail;refine HQ _ _ _ ?_;exact aR (v:= .bool false) (by simp[results,results21,go_sem]) rfl ⟨by rw[HE.out],cW.trans (jd.mono (by omega))⟩
            ·have d7:decide (8000<m2+q)=false:=by simpa using h7
             have h7':m2+q<=8000:=by omega
             have HD4:=ae (HD3.trans (if_neg (by simpa using h7)));clear h7;go_wp2_with fail;refine cP (by kernel_rfl) (by kernel_rfl) (λhGG=>?_)
             repeat(go_big_quiet_step ((go_at_call 35;exact eP (HS _ (bY (bI _ _) (aN _) _)))))
             refine wpQuiet_nil ?_;rintro⟨w5,vk⟩;simp only[];have jd:=ae vk;clear hGG vk;go_wp2_with fail;go_roundw
             case rel=>exact⟨j+1,m2+q,by omega,by go_num,rfl,by omega,by omega,by rw[<-Gw.out,HD4.out],cW.trans (jd.mono (by omega)),jq.below jd.out,ed.below jd.out,MR.trans (jd.mono MR.size)⟩
             case measure=>simp[intOf];omega
          ·obtain rfl:j=b.steps.length:=by omega
           have Fj:lG p g b.steps m=some m2:=by rw[<-Gw.out,bD (aN _)];rfl
           obtain⟨hes,Yp,Yo⟩:=Gv.out b (List.mem_of_getElem? dR.out);have HE3:=ae (λW(hb:Below wr.heap.size wr W)=>hes (.slice GA p.ax.length gc,.slice FA p.funcs.length fc,.int .i64 p.main) (.slice LA g.az.length lc) (.slice (some ⟨bb,zW,none⟩) g.blocks.length bc) SA b.steps.length scap B _ _ _ W (by have:=hb.size;omega) (HP.below (cW.trans (hb.mono (by omega))|>.mono hB) (aN _)) (HG.below (cW.trans (hb.mono (by omega))|>.mono hB) (aN _)) (vG.below ((MR.trans (hb.mono MR.size)).mono (by have:=cV.size;omega)) (aN _)));have HD5:=ae (PH.trans (by rw[Fj]):fD p g (g.blocks.drop k) s m=if(fO p g b).2=false\/m2+(fO p g b).1>8000 then false else fD p g (g.blocks.drop (k+1)) (s+b.steps.length) (m2+(fO p g b).1))
           obtain⟨⟨q,ok⟩,hq⟩:∃q,q=fO p g b:=⟨_,rfl⟩
           rw[<-hq]at HE3 HD5 Yp Yo;simp only at Yp Yo;clear hes hq Fj zR U1;cases ok with
           |false=>
            have HE:=ae (show fD p g g.blocks 0 0=false by rw[<-gV.out,HD5.out,if_pos (aH rfl)]);go_wp2_with fail;refine(HE3 _ (by exact bI _ _)).mono ?_;rintro e w5 ⟨rfl,vk⟩;have jd:=ae vk;clear vk;go_wp2_with fail;refine HQ _ _ _ ?_;exact aR (v:= .bool false) (by simp[results,results21,go_sem]) rfl ⟨by rw[HE.out],cW.trans (jd.mono (by omega))⟩
           |true=>
            by_cases h7:m2+q>8000
            ·have d7:decide (8000<m2+q)=true:=by simpa using h7
             have HE:=ae (show fD p g g.blocks 0 0=false by rw[<-gV.out,HD5.out,if_pos (aT h7)]);clear h7;go_wp2_with fail;refine(HE3 _ (by exact bI _ _)).mono ?_;rintro e w5 ⟨rfl,vk⟩;have jd:=ae vk;clear vk;go_wp2_with fail;refine HQ _ _ _ ?_;exact aR (v:= .bool false) (by simp[results,results21,go_sem]) rfl ⟨by rw[HE.out],cW.trans (jd.mono (by omega))⟩
            ·have d7:decide (8000<m2+q)=false:=by simpa using h7
             have h7':m2+q<=8000:=by omega
             have HD6:=ae (HD5.trans (if_neg (by simpa using h7)));clear h7;go_wp2_with fail;refine(HE3 _ (by exact bI _ _)).mono ?_;rintro e w5 ⟨rfl,vk⟩;have jd:=ae vk;clear vk;go_wp2_with fail;go_roundw
             case rel=>exact⟨k+1,s+b.steps.length,m2+q,by omega,by go_num,rfl,rfl,by omega,by omega,by omega,by omega,by rw[<-gV.out,HD6.out],cW.trans (jd.mono (by omega)),jq.below jd.out⟩
             case measure=>simp[intOf];omega
       ·obtain rfl:k=g.blocks.length:=by omega
        have he:fD p g g.blocks 0 0=true:=by rw[<-gV.out,bD (aN _)];rfl
        have HE:=ae he;clear he aG;go_wp2_with fail;refine HQ _ _ _ ?_;exact aR (v:= .bool true) (by simp[results,results21,go_sem]) rfl ⟨by rw[HE.out],cV.out⟩
end Go.Proofs.YtikbdplllopjlaaGreat
