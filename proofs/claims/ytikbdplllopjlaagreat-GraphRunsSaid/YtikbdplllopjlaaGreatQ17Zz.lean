/- Prog: whether a program may be. Conditions: as stated. Whether a program may be: the page's own answer and the program's are the same. Conditions: none. Whether any program may be, by the page. Conditions: as stated. gantletlaw7.Heavy: it answers. Conditions: as stated. GraphRuns: small calls. Conditions: as stated. What is read as programs lies in memory as programs. No condition. What is read as programs, as asks of programs, lies in memory as programs, and its lists are of a size that memory may hold. No condition. -/
import Derived.Test.YtikbdplllopjlaaGreatFnZz
import Derived.Test.YtikbdplllopjlaaGreatStepEZz
import Derived.Test.YtikbdplllopjlaaGreatStepDZz
import Derived.Test.YtikbdplllopjlaaGreatEndBZz
import Derived.Test.YtikbdplllopjlaaGreatPWgtZz
set_option linter.unusedVariables false
set_option linter.unusedSimpArgs false
set_option maxHeartbeats 8000000
set_option maxRecDepth 100000
open Go.Proofs.Tryz
namespace Go.Proofs.YtikbdplllopjlaaGreat
open Go.RowKit
noncomputable def Bq(p:aM):List aP->Bool
 |[]=>true
 |g::l=>LO p g && Bq p l
noncomputable def rA(p:aM):Bool:=eV p.ax 16 && (iI p.funcs.length 1 8 && (fN p.main ((p.funcs.length:Int)-1)&& (yes ((p.funcs.getD p.main.toNat jv).params=0)&& Bq p p.funcs)))
structure xR (w:World) (N:Nat) (P0 P1 P2:Value):Prop where
 p0:w.cell? ⟨N,0,none⟩=some P0
 p1:w.cell? ⟨N,1,none⟩=some P1
 p2:w.cell? ⟨N,2,none⟩=some P2
 lt:N<w.heap.size
theorem xR.below{w w':World}{N:Nat}{P0 P1 P2:Value}(h:xR w N P0 P1 P2)(hb:Below w.heap.size w w'):xR w' N P0 P1 P2:=by
 obtain⟨a,b,c,l⟩:=h;have:=hb.size;exact⟨ag a hb l,ag b hb l,ag c hb l,by omega⟩
theorem Nr(p:aM)(hfn:∀g,g∈p.funcs->PQ p g)(P:Value×Value×Value)(B:Nat)(w:World)(hB:B<=w.heap.size)(hP:uK w B P p):
  Calls prog 5 #[.agg #[P.1,P.2.1,P.2.2]] w λe w'=>e= .returned (.bool (rA p))/\Below w.heap.size w w':=by
 obtain⟨GA,gc,FA,fc,rfl⟩:=hP.shape;have tq:=hP.2.1.len.2;have bL:=ae (aj w (.cells #[.slice GA p.ax.length gc,.slice FA p.funcs.length fc,.int .i64 p.main] 31));have HO:=ae (λW(hb:Below w.heap.size w W)=>E2 p.ax GA p.ax.length gc 16 B W (by have:=hb.size;omega) (hP.1.below (hb.mono hB) (aN _) (λ_ _ h=>h.below (hb.mono hB) (aN _))));have HT:=ae (λW=>rZ (p.funcs.length:Int) 1 8 W);have HN:=ae (λW=>gW p.main ((p.funcs.length:Int)-1) W);have HP:=ae hP;have Zw:=ae hfn;obtain⟨q1,jZ⟩:∃q,q=eV p.ax 16:=⟨_,rfl⟩
 obtain⟨q2,Dx⟩:∃q,q=iI (p.funcs.length:Int) 1 8:=⟨_,rfl⟩
 obtain⟨q3,XP⟩:∃q,q=fN p.main ((p.funcs.length:Int)-1):=⟨_,rfl⟩
 have hpg:rA p=(q1 && (q2 && (q3 && (yes ((p.funcs.getD p.main.toNat jv).params=0)&& Bq p p.funcs)))):=by rw[jZ,Dx,XP];rfl
 rw[<-jZ]at HO;rw[<-Dx]at HT;rw[<-XP]at HN;have Zg:=ae XP;have SS:=ae Dx;have HPG:=ae hpg;clear hP hfn jZ Dx XP hpg;cases q1 with
 |false=>
  have HE:=ae (show rA p=false by rw[HPG.out];rfl);clear Zg SS;go_enter func5,ntmps5;refine ak λQ HQ=>?_;go_wp2_with(first|(go_at_call 19;refine(HO _ (by exact bL.out)).mono ?_;rintro e w1 ⟨rfl,hb1⟩;have kA:=ae (xR.below (N:=w.heap.size) (w:=(w.alloc _)) ⟨by simp[go_sem],by simp[go_sem],by simp[go_sem],by simp⟩ hb1:xR w1 w.heap.size (.slice GA p.ax.length gc) (.slice FA p.funcs.length fc) (.int .i64 p.main));have x1:=kA.p1;have x2:=kA.p2;have bn:=ae (bL.trans (hb1.mono (by simp<;>omega)));clear hb1)|(go_at_call 20;refine(HT _).mono ?_;rintro e w' ⟨rfl,rfl⟩)|(go_at_call 12;refine(HN _).mono ?_;rintro e w' ⟨rfl,rfl⟩));refine HQ _ _ _ ?_
  exact aR (v:= .bool false) (by simp[results,results5,go_sem]) rfl ⟨by rw[HE.out],bn.out⟩
 |true=>
  cases q2 with
  |false=>
   have HE:=ae (show rA p=false by rw[HPG.out];rfl);clear Zg SS;go_enter func5,ntmps5;refine ak λQ HQ=>?_;go_wp2_with(first|(go_at_call 19;refine(HO _ (by exact bL.out)).mono ?_;rintro e w1 ⟨rfl,hb1⟩;have kA:=ae (xR.below (N:=w.heap.size) (w:=(w.alloc _)) ⟨by simp[go_sem],by simp[go_sem],by simp[go_sem],by simp⟩ hb1:xR w1 w.heap.size (.slice GA p.ax.length gc) (.slice FA p.funcs.length fc) (.int .i64 p.main));have x1:=kA.p1;have x2:=kA.p2;have bn:=ae (bL.trans (hb1.mono (by simp<;>omega)));clear hb1)|(go_at_call 20;refine(HT _).mono ?_;rintro e w' ⟨rfl,rfl⟩)|(go_at_call 12;refine(HN _).mono ?_;rintro e w' ⟨rfl,rfl⟩));refine HQ _ _ _ ?_
   exact aR (v:= .bool false) (by simp[results,results5,go_sem]) rfl ⟨by rw[HE.out],bn.out⟩
  |true=>
   cases q3 with
   |false=>
    have HE:=ae (show rA p=false by rw[HPG.out];rfl);clear Zg SS;go_enter func5,ntmps5;refine ak λQ HQ=>?_;go_wp2_with(first|(go_at_call 19;refine(HO _ (by exact bL.out)).mono ?_;rintro e w1 ⟨rfl,hb1⟩;have kA:=ae (xR.below (N:=w.heap.size) (w:=(w.alloc _)) ⟨by simp[go_sem],by simp[go_sem],by simp[go_sem],by simp⟩ hb1:xR w1 w.heap.size (.slice GA p.ax.length gc) (.slice FA p.funcs.length fc) (.int .i64 p.main));have x1:=kA.p1;have x2:=kA.p2;have bn:=ae (bL.trans (hb1.mono (by simp<;>omega)));clear hb1)|(go_at_call 20;refine(HT _).mono ?_;rintro e w' ⟨rfl,rfl⟩)|(go_at_call 12;refine(HN _).mono ?_;rintro e w' ⟨rfl,rfl⟩));refine HQ _ _ _ ?_
    exact aR (v:= .bool false) (by simp[results,results5,go_sem]) rfl ⟨by rw[HE.out],bn.out⟩
   |true=>
    have Fo:0<=p.main/\p.main<p.funcs.length:=by have:=Zg.out;simp[fN]at this;omega
    obtain⟨mf,A9⟩:=Int.eq_ofNat_of_zero_le Fo.1;have MV:mf<p.funcs.length:=by omega
    have VZ:=ae (List.getElem?_eq_getElem MV);have hgd:p.funcs.getD p.main.toNat jv=p.funcs[mf]:=by rw[A9,Int.toNat_natCast,List.getD_eq_getElem?_getD,VZ.out];rfl
    have HMF:=ae A9;have mX:(0:Int)<=(mf:Int):=by omega
    have mr:(mf:Int)<(p.funcs.length:Int):=by omega
    have Zi:=ae (HPG.trans (by rw[hgd];rfl):rA p=(yes (p.funcs[mf].params=0)&& Bq p p.funcs));rw[A9]at HN bL ⊢;have SU:=ae (A9▸HP.out:uK w B (.slice GA p.ax.length gc,.slice FA p.funcs.length fc,.int .i64 (mf:Nat)) p);clear Fo A9 hgd Zg;by_cases h4:p.funcs[mf].params=0
    ·have d4:(p.funcs[mf].params !=0)=false:=by simpa using h4
     have Zh:=ae (Zi.trans (by rw[fZ h4];rfl):rA p=Bq p p.funcs);clear h4;go_enter func5,ntmps5;refine ak λQ HQ=>?_
     go_wp2_with(first|(go_at_call 19;refine(HO _ (by exact bL.out)).mono ?_;rintro e w1 ⟨rfl,hb1⟩;have kA:=ae (xR.below (N:=w.heap.size) (w:=(w.alloc _)) ⟨by simp[go_sem],by simp[go_sem],by simp[go_sem],by simp⟩ hb1:xR w1 w.heap.size (.slice GA p.ax.length gc) (.slice FA p.funcs.length fc) (.int .i64 (mf:Nat)));have x1:=kA.p1;have x2:=kA.p2;have bn:=ae (bL.trans (hb1.mono (by simp<;>omega)));obtain⟨gb,mD,g',Cp,hgb,iU,BP⟩:=(SU.2.1.below (bn.mono hB) (aN _) (λ_ _ h=>h.below (bn.mono hB) (aN _))).get MV;subst Cp;have y0:=BP.1;rw[VZ.out]at iU;injection iU with iU;subst iU;simp only[Nat.add_zero]at y0;have DC:gb<w1.heap.size:=(by have:=bn.size;omega);clear BP;clear hb1)|(go_at_call 20;refine(HT _).mono ?_;rintro e w' ⟨rfl,rfl⟩)|(go_at_call 12;refine(HN _).mono ?_;rintro e w' ⟨rfl,rfl⟩))
     have HX:=kA;go_loopw [3] (λi wr=>∃k:Nat,k<=p.funcs.length/\i= .int .i64 k/\Bq p (p.funcs.drop k)=Bq p p.funcs/\Below w.heap.size w wr/\xR wr w.heap.size (.slice GA p.ax.length gc) (.slice (some ⟨gb,mD,none⟩) p.funcs.length fc) (.int .i64 (mf:Nat))) (λi _=>p.funcs.length-(intOf i).toNat)
     case atStart=>exact⟨0,by omega,rfl,rfl,bn.out,HX.out⟩
     case round=>
      obtain⟨k,hk,rfl,hcs,aG,hx⟩:=hrel;have gV:=ae hcs;have cV:=ae aG;have MF:=ae hx;obtain⟨p0',Z0,p2',sI⟩:=hx;have fV:=aG.size;clear hcs x1 x2 y0;by_cases hlt:k<p.funcs.length
      ·obtain⟨fb,lN,g,Cp,x8,GQ,BP⟩:=(SU.2.1.below (aG.mono hB) (aN _) (λ_ _ h=>h.below (aG.mono hB) (aN _))).get hlt;injection Cp with Cp;injection Cp with e1 e2;subst e1 e2;obtain⟨z0,z1,⟨lv,z2,hlv⟩,⟨bv,z3,GS⟩,QS,Wo⟩:=BP;simp only[Nat.add_zero]at z0 z1 z2 z3;have TV:=ae (λW(hb:Below wr.heap.size wr W)=>Zw.out g (List.mem_of_getElem? GQ) (.slice GA p.ax.length gc,.slice (some ⟨gb,mD,none⟩) p.funcs.length fc,.int .i64 (mf:Nat)) lv bv B W (by have:=hb.size;omega) (SU.below ((cV.trans (hb.mono fV)).mono hB) (aN _)) ⟨hlv.below (hb.mono (by omega)) (aN _) (λ_ _ h=>h.below (hb.mono (by omega)) (aN _)),GS.below (hb.mono (by omega)) (aN _) (λ_ _ h=>h.below (hb.mono (by omega)) (aN _)),QS,Wo⟩)
       have HD:=ae (show Bq p (p.funcs.drop k)=(LO p g && Bq p (p.funcs.drop (k+1)))from by rw[b8 GQ];rfl);obtain⟨⟨A1,c1,Oj,_⟩,⟨A2,c2,Oy,_⟩⟩:=And.intro hlv GS;subst Oj Oy;obtain⟨q,hq⟩:∃q,q=LO p g:=⟨_,rfl⟩
       rw[<-hq]at TV HD;have qg:(k:Int)<(p.funcs.length:Int):=by omega
       have UX:gb<wr.heap.size:=by omega
       clear hq GQ hlv GS aG;cases q with
       |false=>
        have HE:=ae (show rA p=false by rw[Zh.out,<-gV.out,HD.out];rfl);go_wp2_with fail;refine cP (by kernel_rfl) (by kernel_rfl) (λhGG=>?_)
        repeat(go_big_quiet_step ((go_at_call 21;exact eP (TV _ (bY (bI _ _) (aN _) _)))))
        refine wpQuiet_nil ?_;rintro⟨w5,vk⟩;simp only[];have jd:=ae vk;clear hGG vk;go_wp2_with fail;refine HQ _ _ _ ?_;exact aR (v:= .bool false) (by simp[results,results5,go_sem]) rfl ⟨by rw[HE.out],cV.trans (jd.mono (by omega))⟩
       |true=>
        go_wp2_with fail;refine cP (by kernel_rfl) (by kernel_rfl) (λhGG=>?_)
        repeat(go_big_quiet_step ((go_at_call 21;exact eP (TV _ (bY (bI _ _) (aN _) _)))))
        refine wpQuiet_nil ?_;rintro⟨w5,vk⟩;simp only[];have jd:=ae vk;clear hGG vk;go_wp2_with fail;go_roundw
        case rel=>exact⟨k+1,by omega,by go_num,by rw[<-gV.out,HD.out];rfl,cV.trans (jd.mono (by omega)),MF.below jd.out⟩
        case measure=>simp[intOf];omega
      ·obtain rfl:k=p.funcs.length:=by omega
       have HE:=ae (show rA p=true by rw[Zh.out,<-gV.out,bD (aN _)];rfl);go_wp2_with fail;refine HQ _ _ _ ?_;exact aR (v:= .bool true) (by simp[results,results5,go_sem]) rfl ⟨by rw[HE.out],cV.out⟩
    ·have d4:(p.funcs[mf].params !=0)=true:=by simpa using h4
     have HE:=ae (show rA p=false by rw[Zi.out,eG h4];rfl);clear h4;go_enter func5,ntmps5;refine ak λQ HQ=>?_
     go_wp2_with(first|(go_at_call 19;refine(HO _ (by exact bL.out)).mono ?_;rintro e w1 ⟨rfl,hb1⟩;have kA:=ae (xR.below (N:=w.heap.size) (w:=(w.alloc _)) ⟨by simp[go_sem],by simp[go_sem],by simp[go_sem],by simp⟩ hb1:xR w1 w.heap.size (.slice GA p.ax.length gc) (.slice FA p.funcs.length fc) (.int .i64 (mf:Nat)));have x1:=kA.p1;have x2:=kA.p2;have bn:=ae (bL.trans (hb1.mono (by simp<;>omega)));obtain⟨gb,mD,g',Cp,hgb,iU,BP⟩:=(SU.2.1.below (bn.mono hB) (aN _) (λ_ _ h=>h.below (bn.mono hB) (aN _))).get MV;subst Cp;have y0:=BP.1;rw[VZ.out]at iU;injection iU with iU;subst iU;simp only[Nat.add_zero]at y0;have DC:gb<w1.heap.size:=(by have:=bn.size;omega);clear BP;clear hb1)|(go_at_call 20;refine(HT _).mono ?_;rintro e w' ⟨rfl,rfl⟩)|(go_at_call 12;refine(HN _).mono ?_;rintro e w' ⟨rfl,rfl⟩))
     refine HQ _ _ _ ?_;exact aR (v:= .bool false) (by simp[results,results5,go_sem]) rfl ⟨by rw[HE.out],bn.out⟩
def oJ(na nb nc:Int)(t:T):Prop:=sS t=true/\dB na nb nc t=true
def nP(na nb nc:Int)(ks:List T):Prop:=∀k,k∈ks->oJ na nb nc k
theorem yA(x a:Int):decide (x<a)=!decide (a<=x):=by
 by_cases h:a<=x
 ·have h2:¬x<a:=by omega
  simp[h,h2]
 ·have h2:x<a:=by omega
  simp[h,h2]
mutual
theorem rX{na nb nc:Int}:∀(t:T),PX t->dB na nb nc t=eI na nb nc t
 | .node op x ks,h=>by
  obtain⟨h1,h2⟩:=qw.1 h;have hk:=AQ (Gn.1 h1).1;have ih:=xE (na:=na) (nb:=nb) (nc:=nc) ks h2;rw[dB,eI];by_cases c2:op=2
  ·subst c2;have:ks=[]:=List.eq_nil_of_length_eq_zero (by omega);subst this;simp[b7];exact yA _ _
  ·by_cases c3:op=3
   ·subst c3;have:ks=[]:=List.eq_nil_of_length_eq_zero (by omega);subst this;simp[b7];exact yA _ _
   ·by_cases c4:op=4
    ·subst c4;have:ks=[]:=List.eq_nil_of_length_eq_zero (by omega);subst this;simp[b7];exact yA _ _
    ·rw[if_neg c2,if_neg c3,if_neg c4,ih];simp[c2,c3,c4]
theorem xE{na nb nc:Int}:∀(ks:List T),rO ks->gy na nb nc ks=b7 na nb nc ks
 |[],_=>rfl
 |k::ks,h=>by
  rw[rO]at h;rw[gy,b7,rX k h.1,xE ks h.2]
end
theorem Af{na nb nc:Int}{t:T}(h:oJ na nb nc t):fK na nb nc t=((t.size:Int),true):=by
 unfold fK;rw[G7 h.1,<-rX t (oA.1 h.1).1,h.2];rfl
theorem EF{na nb nc:Int}{t:T}(h:¬oJ na nb nc t):(fK na nb nc t).2=false:=by
 unfold fK;simp only[KG];cases hm:sS t with
 |false=>rfl
 |true=>
  rw[<-rX t (oA.1 hm).1];cases hg:dB na nb nc t with
  |false=>rfl
  |true=>exact absurd ⟨hm,hg⟩ h
theorem yH{na nb nc n:Int}{t:T}(h:oJ na nb nc t):bS na nb nc n t=(decide (n+t.size<=8000),n+t.size):=by
 unfold bS;rw[if_pos (show sS t=true/\dB na nb nc t=true from h)]
theorem CX{na nb nc n:Int}{t:T}(h:¬oJ na nb nc t):bS na nb nc n t=(false,n):=by
 unfold bS;rw[if_neg (show¬(sS t=true/\dB na nb nc t=true)from h)]
theorem BF{na nb nc:Int}:∀(ks:List T)(m:Int),nP na nb nc ks->eR na nb nc ks m=(m+T.sizes ks,true)
 |[],m,_=>by simp[eR,T.sizes]
 |k::ks,m,h=>by
  have hw:=Af (h k (by simp));rw[eR,hw,if_neg (by simp),BF ks _ (λx hx=>h x (by simp[hx])),T.sizes];simp only[Prod.mk.injEq,and_true];omega
theorem BD{na nb nc:Int}:∀(ks:List T)(m:Int),¬nP na nb nc ks->eR na nb nc ks m=(0,false)
 |[],m,h=>absurd (λk hk=>by simp at hk) h
 |k::ks,m,h=>by
  rw[eR];by_cases hk:oJ na nb nc k
  ·rw[Af hk,if_neg (by simp)];exact BD ks _ (λhh=>h (λx hx=>by
    rcases List.mem_cons.1 hx with rfl|hx
    ·exact hk
    ·exact hh x hx))
  ·rw[if_pos (EF hk)]
theorem Bi{na nb nc:Int}:∀(ks:List T)(n:Int),nP na nb nc ks->n+T.sizes ks<=8000->bB na nb nc ks n=(true,n+T.sizes ks)
 |[],n,_,_=>by simp[bB,T.sizes]
 |k::ks,n,h,hn=>by
  rw[T.sizes]at hn ⊢;rw[bB,yH (h k (by simp)),if_pos (by simp only[decide_eq_true_eq];omega),Bi ks _ (λx hx=>h x (by simp[hx])) (by omega)];simp only[Prod.mk.injEq,true_and];omega
theorem vw{na nb nc:Int}:∀(ks:List T)(n:Int),n<=8000->¬(nP na nb nc ks/\n+T.sizes ks<=8000)->(bB na nb nc ks n).1=false
 |[],n,hn,h=>absurd ⟨λk hk=>by simp at hk,by simp[T.sizes];exact hn⟩ h
 |k::ks,n,hn,h=>by
  rw[bB];by_cases hk:oJ na nb nc k
  ·rw[yH hk];by_cases hs:n+k.size<=8000
   ·rw[if_pos (by simpa using hs)];refine vw ks _ hs (λhh=>h ⟨λx hx=>?_,by rw[T.sizes];omega⟩);rcases List.mem_cons.1 hx with rfl|hx
    ·exact hk
    ·exact hh.1 x hx
   ·rw[if_neg (by simpa using hs)]
  ·rw[CX hk];rfl
theorem Gm{p:aM}{g:aP}{x:cM}(ht:0<=g.ay):(lD p g x\/(x.op≠2/\x.size≠0)\/(x.op≠3/\x.fn≠0))↔bK p g x:=by
 obtain⟨op,dst,size,fn,ks⟩:=x;have hl:¬(ks.length:Int)= -1:=by omega
 unfold lD bK eM lB;simp only;by_cases c1:op=1
 ·subst c1;simp<;>omega
 by_cases c2:op=2
 ·subst c2;simp[nG]<;>omega
 by_cases c3:op=3
 ·subst c3;by_cases c:0<=fn/\fn<p.funcs.length
  ·have d:fN fn ((p.funcs.length:Int)-1)=true:=by simp[fN];omega
   by_cases hd:0<=dst<;>simp[c,d,hd]<;>omega
  ·have d:fN fn ((p.funcs.length:Int)-1)=false:=by simp[fN];omega
   simp only[if_neg c,d];simp[hl]
 by_cases c4:op=4
 ·subst c4;simp<;>omega
 by_cases c5:op=5
 ·subst c5;by_cases hk:ks=[]<;>by_cases hd:0<=dst<;>simp[hd,hk]<;>omega
 by_cases c6:op=6
 ·subst c6;simp<;>omega
 simp[c1,c2,c3,c4,c5,c6,hl]
theorem KI{p:aM}{g:aP}{x:cM}{n:Int}(ht:0<=g.ay)(hn:n<=8000):
  ((a8 p g x).2=true/\n+(a8 p g x).1<=8000/\0<=(a8 p g x).1/\cR p g n x=(true,n+(a8 p g x).1))\/((cR p g n x).1=false/\((a8 p g x).2=false\/n+(a8 p g x).1>8000)):=by
 unfold cR a8;by_cases hb:bK p g x
 ·rw[if_pos hb];refine aT ⟨?_,aH rfl⟩;rcases(Gm ht).2 hb with h|h
  ·rw[if_pos h]
  ·split
   ·rfl
   ·rfl
 ·rw[if_neg hb];have hg:=mt (Gm ht).1 hb;rw[if_neg (λh=>hg (aH h)),if_neg (λh=>hg (aT h))];by_cases hm:nP g.ay g.az.length p.ax.length x.args
  ·rw[BF _ _ hm];by_cases hs:n+T.sizes x.args<=8000
   ·exact aH ⟨rfl,by simp only;omega,by simp only;omega,by rw[Bi _ _ hm hs];simp⟩
   ·exact aT ⟨vw _ _ hn (λh=>hs h.2),aT (by simp only;omega)⟩
  ·exact aT ⟨vw _ _ hn (λh=>hm h.1),aH (by rw[BD _ _ hm])⟩
theorem Au{p:aM}{g:aP}(ht:0<=g.ay):∀(l:List cM)(n:Int),n<=8000->
  (∃m,lG p g l n=some m/\m<=8000/\n<=m/\eK p g l n=(true,m))\/((eK p g l n).1=false/\lG p g l n=none)
 |[],n,hn=>aH ⟨n,rfl,hn,by omega,rfl⟩
 |x::l,n,hn=>by
  rw[lG,eK];rcases KI (p:=p) (x:=x) ht hn with⟨h1,h2,h3,h4⟩|⟨h1,h2⟩
  ·rw[h4,if_pos rfl,if_neg (by rw[h1];simp;omega)];rcases Au ht l (n+(a8 p g x).1) h2 with⟨m,a,b,c,d⟩|h
   ·exact aH ⟨m,a,b,by omega,d⟩
   ·exact aT h
  ·rw[if_pos h2,h1];exact aT ⟨by simp,rfl⟩
theorem IX{t:T}:rW t=yes (t= .node 0 0 []):=by
 obtain⟨op,x,ks⟩:=t;rw[rW];by_cases h:op=0/\x=0/\ks.length=0
 ·obtain⟨rfl,rfl,h⟩:=h;have:=List.eq_nil_of_length_eq_zero h;subst this;rw[fZ rfl];simp
 ·rw[eG (λhh=>h (by injection hh with a b c;subst a b c;simp))];simpa using h
theorem O1{p:aM}{g:aP}{b:bW}{n:Int}(hn:n<=8000)(h1:1<=(g.blocks.length:Int)):
  ((fO p g b).2=true/\n+(fO p g b).1<=8000/\0<=(fO p g b).1/\dI p g n b=(true,n+(fO p g b).1))\/((dI p g n b).1=false/\((fO p g b).2=false\/n+(fO p g b).1>8000)):=by
 have nums:∀k:Int,fN k ((g.blocks.length:Int)-1)=decide (0<=k/\k<g.blocks.length):=λk=>by
  unfold fN
  congr 1
  exact propext ⟨λh=>⟨h.1,by omega⟩,λh=>⟨h.1,by omega⟩⟩
 unfold dI fO;rw[nums,nums];by_cases f1:b.fin=1
 ·rw[if_pos f1,if_pos f1];by_cases c:(0<=b.next/\b.next<g.blocks.length)/\b.els=0
  ·rw[if_pos c,IX];by_cases d:b.cond= .node 0 0 []
   ·rw[fZ d,fZ ⟨c.2,d⟩];exact aH ⟨by simp[c.1,c.2];omega,by simpa using hn,by simp,by simp⟩
   ·rw[eG d,eG (λh=>d h.2)];exact aT ⟨rfl,aH (by simp)⟩
  ·rw[if_neg c];refine aT ⟨rfl,aH ?_⟩;by_cases e:b.els=0
   ·have:¬(0<=b.next/\b.next<g.blocks.length):=λh=>c ⟨h,e⟩;simp[this]
   ·rw[eG (λh=>e h.1)];simp
 ·rw[if_neg f1,if_neg f1];have tree:∀c:Prop,c->∀q:Bool,q=true->((fK g.ay g.az.length p.ax.length b.cond).2 && q)=true/\n+(fK g.ay g.az.length p.ax.length b.cond).1<=8000/\0<=(fK g.ay g.az.length p.ax.length b.cond).1/\bS g.ay g.az.length p.ax.length n b.cond=(true,n+(fK g.ay g.az.length p.ax.length b.cond).1)\/((bS g.ay g.az.length p.ax.length n b.cond).1=false/\(((fK g.ay g.az.length p.ax.length b.cond).2 && q)=false\/n+(fK g.ay g.az.length p.ax.length b.cond).1>8000)):=by
   intro c _ q hq;subst hq;by_cases hm:oJ g.ay g.az.length p.ax.length b.cond
   ·rw[Af hm,yH hm];by_cases hs:n+b.cond.size<=8000
    ·exact aH ⟨rfl,hs,by simp only;omega,by simp[hs]⟩
    ·exact aT ⟨by simpa using hs,aT (by simp only;omega)⟩
   ·rw[CX hm];exact aT ⟨rfl,aH (by rw[EF hm];rfl)⟩
  by_cases f2:b.fin=2
  ·rw[if_pos f2,if_pos f2];by_cases c:(0<=b.next/\b.next<g.blocks.length)/\(0<=b.els/\b.els<g.blocks.length)
   ·rw[if_pos c];have:=tree True trivial (decide (0<=b.next/\b.next<g.blocks.length)&& decide (0<=b.els/\b.els<g.blocks.length)) (by simp[c.1,c.2]);simpa [Bool.and_assoc]using this
   ·rw[if_neg c];refine aT ⟨rfl,aH ?_⟩;by_cases e:0<=b.next/\b.next<g.blocks.length
    ·have:¬(0<=b.els/\b.els<g.blocks.length):=λh=>c ⟨e,h⟩;simp[this]
    ·simp[e]
  ·rw[if_neg f2,if_neg f2];by_cases f3:b.fin=3
   ·rw[if_pos f3,if_pos f3];by_cases c:b.next=0/\b.els=0
    ·rw[if_pos c,fZ c];have e1:(0<=b.next/\b.next<g.blocks.length):=by omega
     have e2:(0<=b.els/\b.els<g.blocks.length):=by omega
     have:=tree True trivial (true && decide (0<=b.next/\b.next<g.blocks.length)&& decide (0<=b.els/\b.els<g.blocks.length)) (by simp[e1,e2]);simpa [Bool.and_assoc]using this
    ·rw[if_neg c,eG c];exact aT ⟨rfl,aH (by simp)⟩
   ·rw[if_neg f3,if_neg f3];exact aT ⟨rfl,aH rfl⟩
theorem zH{p:aM}{g:aP}(ht:0<=g.ay)(h1:1<=(g.blocks.length:Int)):∀(l:List bW)(s n:Int),n<=8000->(dL p g l s n).1=fD p g l s n
 |[],s,n,hn=>rfl
 |b::l,s,n,hn=>by
  rw[dL,fD];rcases Au (p:=p) ht b.steps n hn with⟨m,a,c,d,e⟩|⟨a,c⟩
  ·rw[e,a,if_pos rfl];simp only;split
   ·rfl
   ·rcases O1 (p:=p) (b:=b) c h1 with⟨q1,q2,q3,q4⟩|⟨q1,q2⟩
    ·rw[q4,if_pos rfl,if_neg (by rw[q1];simp;omega)];exact zH ht h1 l _ _ q2
    ·rw[q1,if_pos q2];simp
  ·rw[a,c];simp
theorem RG{p:aM}{g:aP}:mE p g=LO p g:=by
 unfold mE LO;by_cases h:yJ g
 ·rw[if_pos h];obtain⟨a,b,c,d,e,f,k⟩:=h;rw[zH (by omega) (by omega) _ _ _ (by omega)];have p0:0<=g.params:=by omega
  have p1:g.params<=4:=by omega
  have p2:1<=(g.blocks.length:Int):=by omega
  have p3:(g.blocks.length:Int)<=1000:=by omega
  simp[fN,iI,e,c,d,p0,p1,p2,p3]
 ·rw[if_neg h];by_cases a:fN g.params 4=true
  ·by_cases c:g.params>g.ay
   ·simp[c]
   ·by_cases d:g.ay>1000
    ·simp[d]
    ·by_cases e:eV g.az 24=true
     ·by_cases f:iI g.blocks.length 1 1000=true
      ·exact absurd ⟨by simp[fN]at a;omega,by simp[fN]at a;omega,c,d,e,by simp[iI]at f;omega,by simp[iI]at f;omega⟩ h
      ·simp[f]
     ·simp[e]
  ·simp[a]
theorem FM{p:aM}:∀(l:List aP),qI p l=Bq p l
 |[]=>rfl
 |g::l=>by rw[qI,Bq,RG,FM l]
theorem ND{p:aM}:fA p=rA p:=by
 unfold fA rA;by_cases h:C3 p
 ·rw[if_pos h,FM];obtain⟨a,b,c,d,e⟩:=h;rw[a,fZ e];have d1:iI p.funcs.length 1 8=true:=by simp[iI];omega
  have d2:fN p.main ((p.funcs.length:Int)-1)=true:=by simp[fN];omega
  rw[d1,d2];simp
 ·rw[if_neg h];by_cases a:eV p.ax 16=true
  ·by_cases b:iI p.funcs.length 1 8=true
   ·by_cases c:fN p.main ((p.funcs.length:Int)-1)=true
    ·by_cases d:(p.funcs.getD p.main.toNat jv).params=0
     ·exact absurd ⟨a,by simp[iI]at b;omega,by simp[iI]at b;omega,by simp[fN]at c;omega,d⟩ h
     ·rw[eG d];simp
    ·simp[c]
   ·simp[b]
  ·simp[a]
theorem EN{na nb nc:Int}:∀(ks:List T),nP na nb nc ks->T.sizes ks<=200*ks.length
 |[],_=>by simp[T.sizes]
 |k::ks,h=>by
  have h1:=(oA.1 (h k (by simp)).1).2;have h2:=EN ks (λx hx=>h x (by simp[hx]));rw[T.sizes];simp only[List.length_cons];omega
theorem EM{p:aM}{g:aP}{x:cM}(hl:x.args.length<=200000000000000):0<=(a8 p g x).1/\(a8 p g x).1<=100000000000000000:=by
 unfold a8;split
 ·exact⟨by simp,by simp⟩
 ·by_cases hm:nP g.ay g.az.length p.ax.length x.args
  ·rw[BF _ _ hm];have:=EN _ hm;simp only;omega
  ·rw[BD _ _ hm];exact⟨by simp,by simp⟩
theorem EG{na nb nc:Int}{t:T}:0<=(fK na nb nc t).1/\(fK na nb nc t).1<=100000000000000000:=by
 have h:=yN t 0 (by omega) (by omega);have e:(fK na nb nc t).1=(cnt t 0).1:=rfl;rw[e];omega
theorem J9{p:aM}{g:aP}{b:bW}:0<=(fO p g b).1/\(fO p g b).1<=100000000000000000:=by
 unfold fO;split
 ·exact⟨by simp,by simp⟩
 split
 ·exact EG (na:=g.ay) (nb:=g.az.length) (nc:=p.ax.length) (t:=b.cond)
 split
 ·exact EG (na:=g.ay) (nb:=g.az.length) (nc:=p.ax.length) (t:=b.cond)
 ·exact⟨by simp,by simp⟩
theorem KJ(p:aM)(g:aP)(x:cM)(hl:x.args.length<=200000000000000)(hg1:g.az.length<=9223372036854775807)(qK:p.ax.length<=9223372036854775807):kI p g x:=by
 obtain⟨op,dst,size,fn,ks⟩:=x;simp only at hl;by_cases h1:op=1
 ·subst h1;exact Ue p g dst size fn ks hl hg1 qK
 by_cases h2:op=2
 ·subst h2;exact Ud p g dst size fn ks hl hg1 qK
 by_cases h3:op=3
 ·subst h3;exact Uc p g dst size fn ks hl hg1 qK
 by_cases h4:op=4
 ·subst h4;exact Ub p g dst size fn ks hl hg1 qK
 by_cases h5:op=5
 ·subst h5;exact Ua p g dst size fn ks hl hg1 qK
 by_cases h6:op=6
 ·subst h6;exact T9 p g dst size fn ks hl hg1 qK
 exact Uf p g op dst size fn ks h1 h2 h3 h4 h5 h6 hl hg1 qK
theorem O3(p:aM)(g:aP)(b:bW)(bR:bz b.next)(Fw:bz b.els)(hg0:g.blocks.length<=9223372036854775807)(hg1:g.az.length<=9223372036854775807)(qK:p.ax.length<=9223372036854775807):sQ p g b:=by
 obtain⟨st,fin,t,nx,el⟩:=b;simp only at bR Fw;by_cases h1:fin=1
 ·subst h1;exact YQ p g t st nx el bR Fw hg0 hg1 qK
 by_cases h2:fin=2
 ·subst h2;exact YP p g t st nx el bR Fw hg0 hg1 qK
 by_cases h3:fin=3
 ·subst h3;exact YO p g t st nx el bR Fw hg0 hg1 qK
 exact YR p g t st nx el fin h1 h2 h3 bR Fw hg0 hg1 qK
theorem bH.ends{w:World}{B:Nat}{P:Value×Value×Value}{p:aM}(h:bH w B P p):∀g,g∈p.funcs->∀b,b∈g.blocks->bz b.next/\bz b.els:=by
 obtain⟨hg,hf,_⟩:=h;intro g Ri b hb;obtain⟨c,_,_,_,⟨v,_,hl⟩,_⟩:=hf.mem Ri;obtain⟨c,_,_,_,_,_,_,h1,h2⟩:=hl.mem hb;exact⟨h1,h2⟩
theorem Ns(p:aM)(hsz:xQ p)(P:Value×Value×Value)(B:Nat)(w:World)(hB:B<=w.heap.size)(hP:bH w B P p):
  Calls prog 5 #[.agg #[P.1,P.2.1,P.2.2]] w λe w'=>e= .returned (.bool (fA p))/\Below w.heap.size w w':=by
 obtain⟨h1,h2,h3,h4⟩:=hsz;rw[ND];refine Nr p (λg hg=>?_) P B w hB ⟨hP.1,hP.2.1,hP.2.2.1,hP.2.2.2⟩;obtain⟨g1,g2,g3,g4⟩:=h4 g hg;refine U9 p g (λb hb x hx=>?_) (λb hb=>?_) (λb hb=>⟨?_,J9.1,J9.2⟩)
 ·obtain⟨b1,b2,b3⟩:=g4 b hb;obtain⟨x1,x2⟩:=b2 x hx;exact⟨KJ p g x (by omega) (by omega) (by omega),(EM (by omega)).1,(EM (by omega)).2⟩
 ·obtain⟨b1,b2,b3⟩:=g4 b hb;omega
 ·obtain⟨n1,n2⟩:=hP.ends g hg b hb;exact O3 p g b n1 n2 (by omega) (by omega) (by omega)
theorem kJ.at{w:World}{B:Nat}{c:Nat->Option Value}{p:aM}(h:kJ w B c p):∃P:Value×Value×Value,c 0=some P.1/\c 1=some P.2.1/\c 2=some P.2.2/\bH w B P p:=by
 obtain⟨⟨v,h0,h1⟩,⟨u,h2,h3⟩,h4,h5⟩:=h;exact⟨(v,u,.int .i64 p.main),h0,h2,h4,h1,h3,rfl,h5⟩
theorem ID(ps:List aM)(PA IA:Option Addr)(pn pc il ic:Nat)(ah:Int)(B:Nat)(w:World)(hB:B<=w.heap.size)(Tw:aL w B 3 (kJ w B) ps (.slice PA pn pc))(Z7:pn<=200000000000000)(x7:il<=200000000000000)(hsz:∀p,p∈ps->p.ax.length<=200000000000000/\∀g,g∈p.funcs->g.az.length<=200000000000000):
  Calls prog 4 #[.agg #[.slice PA pn pc,.slice IA il ic,.int .i64 ah]] w λe w'=>∃b,e= .returned (.bool b)/\Below w.heap.size w w':=by
 have HP:=ae Tw;have yR:=ae hsz;clear Tw hsz;go_enter func4,ntmps4;refine ak λQ HQ=>?_;go_wp2_with fail;go_loopw [3,4] (λa i wr=>∃(k:Nat)(n:Int),a= .int .i64 n/\i= .int .i64 k/\k<=pn/\0<=n/\n<=2000000000000000/\Below w.heap.size w wr/\Row wr w.heap.size #[.slice PA pn pc,.slice IA il ic,.int .i64 ah] 25) (λ_ i _=>pn-(intOf i).toNat)
 case atStart=>exact⟨0,il+pn,rfl,rfl,by omega,by omega,by omega,aj _ _,Row.new w _ _⟩
 case round=>
  obtain⟨k,n,rfl,rfl,hk2,mX,mr,aG,hr⟩:=hrel;have cV:=ae aG;have HR:=ae hr;have r0:=hr.cell (j:=0) rfl;have rl:=hr.lt;have fV:=aG.size;by_cases hgo:k<pn/\n<1048576
  ·obtain⟨hlt,hn⟩:=hgo;obtain⟨b,off,p,XT,hb,bA,hE⟩:=(HP.below (aG.mono hB) (aN _) (λ_ _ h=>h.below (aG.mono hB) (aN _))).get hlt;obtain⟨P,c0,c1,c2,Wu⟩:=hE.at;simp only[Nat.add_zero]at c0 c1 c2;subst XT;have hs:=yR.out p (List.mem_of_getElem? bA);have HC:=ae (Nq p P B wr (by omega) Wu hs.1 hs.2);have eY:(k:Int)<(pn:Int):=by omega
   have GR:decide ((k:Int)<(pn:Int))=true:=by simpa using hlt
   have TE:decide (n<1048576)=true:=by simpa using hn
   have hbl:b<wr.heap.size:=by omega
   clear bA Wu hE aG hr hs;go_wp2_with fail;refine HC.mono ?_;rintro e w1 ⟨q,rfl,zP,jZ,hb1⟩;have bn:=ae hb1;clear hb1;go_wp2_with fail;go_roundw
   case rel=>exact⟨k+1,n+q,rfl,by go_num,by omega,by omega,by omega,cV.trans (bn.mono fV),HR.below bn.out HR.lt⟩
   case measure=>simp[intOf];omega
  ·have GL:decide (k<pn)=false\/(decide (k<pn)=true/\decide (n<1048576)=false):=by
    by_cases hlt:k<pn
    ·exact aT ⟨by simpa using hlt,by simp;exact Int.not_lt.1 (λh=>hgo ⟨hlt,h⟩)⟩
    ·exact aH (by simp;omega)
   clear hgo aG hr;rcases GL with hd|⟨hd,zQ⟩
   all_goals
    go_wp2_with fail;refine HQ _ _ _ ?_;exact aR (v:= .bool (decide (12000<n))) (by simp[results,results4,go_sem]) rfl ⟨_,rfl,cV.out⟩
theorem iQ{w:World}{B:Nat}{l:List Int}{A:Option Addr}{c:Nat}(h:bE w B l (.slice A l.length c))(h1:l.length<=c)(h2:c<=9223372036854775807):vE w B (.slice A l.length c) l:=by
 obtain⟨A',c',h0,_,h3⟩:=h;injection h0 with e1 e2 e3;subst e1 e3;refine⟨A,c,rfl,h1,h2,λhp=>?_⟩;obtain⟨b,off,hA,hb,hx⟩:=h3 hp;refine⟨b,off,hA,hb,λj x hj=>?_⟩;have:=hx j x hj;simpa using this
theorem I3(p:aM)(P:Value×Value×Value)(B:Nat)(w:World)(hB:B<=w.heap.size)(hP:bH w B P p)(Fk:∀g,g∈p.funcs->∀b,b∈g.blocks->b.steps.length<=200000000000000):
  Calls prog 7 #[.agg #[P.1,P.2.1,P.2.2]] w λe w'=>e= .returned (.int .i64 (if fA p=true then 0 else 1))/\Below w.heap.size w w':=by
 obtain⟨GA,gc,FA,fc,rfl⟩:=hP.shape;have HM:=ae (λW(hb:Below w.heap.size w W)=>FK p (.slice GA p.ax.length gc,.slice FA p.funcs.length fc,.int .i64 p.main) B W (by have:=hb.size;omega) (hP.below (hb.mono hB)) Fk);have HB:=ae (aj w (.cells #[.slice GA p.ax.length gc,.slice FA p.funcs.length fc,.int .i64 p.main] 31));clear hP Fk;cases hm:fA p with
 |true=>
  rw[hm]at HM;clear hm;go_enter func7,ntmps7;refine ak λQ HQ=>?_;go_wp2_with fail;refine(HM _ HB.out).mono ?_;rintro e w1 ⟨rfl,hb1⟩;have bn:=ae (HB.trans (hb1.mono HB.size));clear hb1;go_wp2_with fail;refine HQ _ _ _ ?_;exact aR (v:= .int .i64 0) (by simp[results,results7,go_sem]) rfl ⟨rfl,bn.out⟩
 |false=>
  rw[hm]at HM;clear hm;go_enter func7,ntmps7;refine ak λQ HQ=>?_;go_wp2_with fail;refine(HM _ HB.out).mono ?_;rintro e w1 ⟨rfl,hb1⟩;have bn:=ae (HB.trans (hb1.mono HB.size));clear hb1;go_wp2_with fail;refine HQ _ _ _ ?_;exact aR (v:= .int .i64 1) (by simp[results,results7,go_sem]) rfl ⟨rfl,bn.out⟩
def oh(n:Int):Int:=wrap64 ((IntKind.u64.wrap n).tmod 300)
theorem s8(n:Int)(w:World):
  Calls prog 8 #[.int .i64 n,.int .i64 300] w λe w'=>e= .returned (.int .i64 (oh n))/\w=w':=by
 go_enter func8,ntmps8;go_wp2_with fail;go_ret;exact⟨by unfold oh;rfl,rfl⟩
theorem bH.toE{w:World}{B:Nat}{P:Value×Value×Value}{p:aM}(h:bH w B P p)(c:Nat->Option Value)(h0:c 0=some P.1)(h1:c 1=some P.2.1)(h2:c 2=some P.2.2):kJ w B c p:=
 ⟨⟨_,h0,h.1⟩,⟨_,h1,h.2.1⟩,by rw[h2,h.2.2.1],h.2.2.2⟩
theorem bH.grow{w:World}{B B':Nat}{P:Value×Value×Value}{p:aM}(h:bH w B P p)(hB:B<=B'):bH w B' P p:=h.sub (Sub.refl _) hB
theorem FX(p:aM)(P:Value×Value×Value)(B:Nat)(w:World)(hB:B<=w.heap.size)(hP:bH w B P p)(hsz:xQ p):
  Calls prog 9 #[.agg #[P.1,P.2.1,P.2.2]] w λe w'=>∃nS gc' nT nR,e= .returned (.agg #[.slice nS p.ax.length gc',.slice nT p.funcs.length nR,.int .i64 p.main])/\bH (only w' (From w.heap.size)) w'.heap.size (.slice nS p.ax.length gc',.slice nT p.funcs.length nR,.int .i64 p.main) p/\Below w.heap.size w w':=by
 refine(DZ p B w (λj=>[P.1,P.2.1,P.2.2][j]?) _ _ _ hB (hP.toE _ rfl rfl rfl) rfl rfl rfl hsz).mono ?_;rintro e w' ⟨u0,u1,u2,rfl,hE,hb⟩;obtain⟨Q,e0,e1,e2,hat⟩:=hE.at;obtain⟨GA,gc,FA,fc,rfl⟩:=hat.shape;obtain rfl:=Option.some.inj e0;obtain rfl:=Option.some.inj e1;obtain rfl:=Option.some.inj e2;exact⟨GA,gc,FA,fc,rfl,hat,hb⟩
theorem qJ(p:aM){P Q:Value×Value×Value}(B:Nat)(w:World)(hB:B<=w.heap.size)(hP:bH w B P p)(hQ:bH w B Q p):
  Calls prog 15 #[.agg #[P.1,P.2.1,P.2.2],.agg #[Q.1,Q.2.1,Q.2.2]] w λe w'=>e= .returned (.bool true)/\Below w.heap.size w w':=
 I9 p B w (λj=>[P.1,P.2.1,P.2.2][j]?) (λj=>[Q.1,Q.2.1,Q.2.2][j]?) _ _ _ _ _ _ hB (hP.toE _ rfl rfl rfl) (hQ.toE _ rfl rfl rfl) rfl rfl rfl rfl rfl rfl
end Go.Proofs.YtikbdplllopjlaaGreat
namespace Go.Proofs.YtikbdplllopjlaaGreat
open Go.RowKit Go.Deep
theorem cJ{cs l:List Value}{j n i:Nat}(h:(cs.drop j).take n=l)(hi:i<l.length):cs[j+i]? =l[i]? :=by
 subst h;rw[List.length_take]at hi;rw[List.getElem?_take,if_pos (by omega),List.getElem?_drop]
section
variable {H:Type} {enc:TypeId×Value->H} {w:World} {ai:Nat} {spare:Nat->Bool} {held:Bool}
end
end Go.Proofs.YtikbdplllopjlaaGreat
namespace Go.Proofs.YtikbdplllopjlaaGreat
open Go.RowKit Go.Deep
section
variable {H:Type} {enc:TypeId×Value->H} {w:World} {ai:Nat} {spare:Nat->Bool} {held:Bool}
theorem jT{te ts:TypeId}{sz Qi:Nat}{α:Type}(fH:prog.underlying ts=some (.slice te))(hce:prog.cellsOf te=sz)(hby:prog.bytesOf te=Qi)(hsz:0<sz)(hb1:1<=Qi)
  (E:(Nat->Option Value)->α->Prop)(Sz:α->Prop)
  (hE:∀(k:Nat)(cs:List Value)(x:DataW H×List MemPlace),DataW.trod enc prog w ai spare held k te cs=some x->(∀n,n∈x.1.weights prog te->n<=reachBytes)->∃t,Sz t/\∀c:Nat->Option Value,(∀j,j<sz->c j=cs[j]?)->E c t)
  {m:Nat}{cs:List Value}{x:DataW H×List MemPlace}(h:DataW.trod enc prog w ai spare held m ts cs=some x)(hw:∀n,n∈x.1.weights prog ts->n<=reachBytes):
  ∃(l:List α)(A:Option Addr)(c:Nat),cs=[.slice A l.length c]/\aL w w.heap.size sz E l (.slice A l.length c)/\l.length*Qi<=140737488351232/\l.length<=c/\c<=9223372036854775807/\∀t,t∈l->Sz t:=by
 have Iy:maxLen=9223372036854775807:=rfl;have hr:reachBytes=140737488351232:=rfl;rcases DataW.trod_slice fH h with⟨rfl,_⟩|⟨a,len,aA,elems,rest,k,hk,rfl,hx,_,hl,hc,Fw,he,_⟩
 ·exact⟨[],none,0,rfl,⟨none,0,rfl,by simp,λh=>by simp at h⟩,by simp,by simp,by omega,λt ht=>by cases ht⟩
 ·rw[hce]at he;have hx1:x.1= .slice (elems.map (·.1)) (rest.map (·.1)):=by rw[hx]
  have hwl:len*Qi<=140737488351232:=by
   have h1:=hw ((elems.length+rest.length)*prog.bytesOf te) (by rw[hx1];simp only[DataW.weights,fH,List.length_map,List.mem_cons,true_or]);rw[hby,hr]at h1;exact Nat.le_trans (Nat.mul_le_mul_right _ (by omega)) h1
  have raw:∀i,i<len->∃t,∃cs',w.cells? ai (a.add (i*sz)) sz=some cs'/\Sz t/\∀c:Nat->Option Value,(∀j,j<sz->c j=cs'[j]?)->E c t:=by
   intro i hi;have h1:=he i hi;rw[List.getElem?_eq_getElem (by omega)]at h1;obtain⟨cs',h2,h3⟩:=Option.bind_eq_some_iff.1 h1;obtain⟨t,Q2,Ws⟩:=hE k cs' _ h3 (λn hn=>hw n (by
    rw[hx1];simp only[DataW.weights,fH,List.mem_cons,List.mem_append];exact aT (aH (mL (List.mem_map.2 ⟨_,List.getElem_mem (by omega),rfl⟩) hn))))
   exact⟨t,cs',h2,Q2,Ws⟩
  rcases Nat.eq_zero_or_pos len with h0|hp
  ·subst h0;exact⟨[],some a,aA,rfl,⟨_,aA,rfl,by simp,λh=>by simp at h⟩,by simp,by simp,by omega,λt ht=>by cases ht⟩
  ·have hspot:a.spot=none/\a.block<w.heap.size:=by
    obtain⟨t,cs',h2,_⟩:=raw 0 hp;have hb:=World.cells?_block h2 (by omega);have c0:=(World.cells?_some h2).2.2 0 (by omega);obtain⟨b,off,spot⟩:=a;have hs:spot=none:=by
     have hlt:0<cs'.length:=by rw[(World.cells?_some h2).2.1];omega
     rw[List.getElem?_eq_getElem hlt]at c0;simpa [Addr.add]using World.cell?_spot c0
    exact⟨hs,by simpa [Addr.add]using hb⟩
   obtain⟨b,off,spot⟩:=a;obtain⟨hs,hb⟩:=hspot;simp only at hs hb;subst hs;have key:∀i,i<len->∃t,Sz t/\E (λj=>w.cell? ⟨b,off+i*sz+j,none⟩) t:=by
    intro i hi;obtain⟨t,cs',h2,h3,h4⟩:=raw i hi;rw[Go.WideShapes.add_plain]at h2;obtain⟨_,hlen,hcell⟩:=World.cells?_some h2;refine⟨t,h3,h4 _ (λj hj=>?_)⟩;have c0:=hcell j (by omega);rw[Go.WideShapes.add_plain]at c0;exact c0
   obtain⟨l,jb,hls⟩:=JY len (λi t=>Sz t/\E (λj=>w.cell? ⟨b,off+i*sz+j,none⟩) t) key;subst jb;exact⟨l,some ⟨b,off,none⟩,aA,rfl,⟨_,aA,rfl,by omega,λ_=>⟨b,off,rfl,hb,λi t hi=>(hls i t hi).2⟩⟩,hwl,by omega,by omega,λt ht=>by obtain⟨i,hi⟩:=List.mem_iff_getElem?.1 ht;exact(hls i t hi).1⟩
theorem AR{n:Nat}(ih:∀(m:Nat)(cs:List Value)(x:DataW H×List MemPlace),m<n->DataW.trod enc prog w ai spare held m 90 cs=some x->(∀n,n∈x.1.weights prog 90->n<=reachBytes)->∃t v0 v1 v2,cs=[v0,v1,v2]/\aX w (dP w.heap.size) t v0 v1 v2/\T.few t)
  {m:Nat}(hm:m<=n){cs:List Value}{x:DataW H×List MemPlace}(h:DataW.trod enc prog w ai spare held m 88 cs=some x)(hw:∀n,n∈x.1.weights prog 88->n<=reachBytes):∃ts A n c,cs=[.slice A n c]/\bC w w.heap.size ts A n/\n*40<=140737488351232/\T.xJ ts:=by
 have hr:reachBytes=140737488351232:=rfl;rcases DataW.trod_slice underlying88 h with⟨rfl,_⟩|⟨a,len,aA,elems,rest,k,hk,rfl,hx,_,hl,hc,Fw,he,_⟩
 ·exact⟨[],none,0,0,rfl,⟨rfl,by omega,λh=>by omega⟩,by omega,by rw[T.xJ];trivial⟩
 ·have hce:prog.cellsOf 90=3:=by kernel_rfl
  have hby:prog.bytesOf 90=40:=by kernel_rfl
  rw[hce]at he;have hx1:x.1= .slice (elems.map (·.1)) (rest.map (·.1)):=by rw[hx]
  have hwl:len*40<=140737488351232:=by
   have h1:=hw ((elems.length+rest.length)*prog.bytesOf 90) (by rw[hx1];simp only[DataW.weights,underlying88,List.length_map,List.mem_cons,true_or]);rw[hby,hr]at h1;exact Nat.le_trans (Nat.mul_le_mul_right _ (by omega)) h1
  have raw:∀i,i<len->∃t,∃v0 v1 v2,w.cells? ai (a.add (i*3)) 3=some [v0,v1,v2]/\aX w (dP w.heap.size) t v0 v1 v2/\T.few t:=by
   intro i hi;have h1:=he i hi;rw[List.getElem?_eq_getElem (by omega)]at h1;obtain⟨cs',h2,h3⟩:=Option.bind_eq_some_iff.1 h1;obtain⟨t,v0,v1,v2,rfl,ht,hf⟩:=ih k cs' _ (by omega) h3 (λn hn=>hw n (by
    rw[hx1];simp only[DataW.weights,underlying88,List.mem_cons,List.mem_append];exact aT (aH (mL (List.mem_map.2 ⟨_,List.getElem_mem (by omega),rfl⟩) hn))))
   exact⟨t,v0,v1,v2,h2,ht,hf⟩
  have Iy:maxLen=9223372036854775807:=rfl;rcases Nat.eq_zero_or_pos len with h0|hp
  ·subst h0;exact⟨[],some a,0,aA,rfl,⟨rfl,by omega,λh=>by omega⟩,by omega,by rw[T.xJ];trivial⟩
  ·have hspot:a.spot=none/\a.block<w.heap.size:=by
    obtain⟨t,v0,v1,v2,h2,_⟩:=raw 0 hp;have hb:=World.cells?_block h2 (by omega);have c0:=(World.cells?_some h2).2.2 0 (by omega);obtain⟨b,off,spot⟩:=a;have hs:spot=none:=by simpa [Addr.add]using World.cell?_spot c0
    exact⟨hs,by simpa [Addr.add]using hb⟩
   obtain⟨b,off,spot⟩:=a;obtain⟨hs,hb⟩:=hspot;simp only at hs hb;subst hs;have key:∀i,i<len->∃t,(∃v0 v1 v2,w.cell? ⟨b,off+i*3,none⟩=some v0/\w.cell? ⟨b,off+i*3+1,none⟩=some v1/\w.cell? ⟨b,off+i*3+2,none⟩=some v2/\aX w (dP w.heap.size) t v0 v1 v2)/\T.few t:=by
    intro i hi;obtain⟨t,v0,v1,v2,h2,ht,hf⟩:=raw i hi;rw[Go.WideShapes.add_plain]at h2;obtain⟨_,_,hcell⟩:=World.cells?_some h2;have c0:=hcell 0 (by omega);have c1:=hcell 1 (by omega);have c2:=hcell 2 (by omega);rw[Go.WideShapes.add_plain]at c0 c1 c2;exact⟨t,⟨v0,v1,v2,by simpa using c0,by simpa using c1,by simpa using c2,ht⟩,hf⟩
   obtain⟨ts,uY,fH⟩:=JY len _ key;exact⟨ts,some ⟨b,off,none⟩,len,aA,rfl,⟨uY,by omega,λhp=>⟨b,off,rfl,hb,cU.of (λi t hi=>(fH i t hi).1)⟩⟩,hwl,T.J7 (λi t hi=>(fH i t hi).2)⟩
theorem Ao:∀(n m:Nat)(cs:List Value)(x:DataW H×List MemPlace),m<n->DataW.trod enc prog w ai spare held m 90 cs=some x->(∀n,n∈x.1.weights prog 90->n<=reachBytes)->∃t v0 v1 v2,cs=[v0,v1,v2]/\aX w (dP w.heap.size) t v0 v1 v2/\T.few t:=by
 intro n
 induction n with
 |zero=>intro m cs x h;omega
 |succ n ih=>
  intro m cs x hm h hw;obtain⟨xs,k,_,Le,hl,nV,hf⟩:=DataW.trod_struct underlying90 h;have hce:prog.cellsOf 90=3:=by kernel_rfl
  have hc3:prog.cellsOf 3=1:=by kernel_rfl
  have hc2:prog.cellsOf 2=1:=by kernel_rfl
  have hcs:prog.cellsOf 88=1:=by kernel_rfl
  rw[hce]at hl;have f0:DataW.trod enc prog w ai spare held k 3 ((cs.drop 0).take (prog.cellsOf 3))=xs[0]? :=hf 0 _ rfl;have f1:DataW.trod enc prog w ai spare held k 2 ((cs.drop 1).take (prog.cellsOf 2))=xs[1]? :=hf 1 _ rfl;have f2:DataW.trod enc prog w ai spare held k 88 ((cs.drop 2).take (prog.cellsOf 88))=xs[2]? :=hf 2 _ rfl;rw[hc3]at f0;rw[hc2]at f1;rw[hcs]at f2;obtain⟨x0,x1,x2,rfl⟩:∃x0 x1 x2,xs=[x0,x1,x2]:=by
   match xs,nV with
   |[a,b,c],_=>exact⟨a,b,c,rfl⟩
  have hx1:x.1= .agg [x0.1,x1.1,x2.1]:=by rw[Le];rfl
  obtain⟨a,e0,_,w0⟩:=DataW.trod_int underlying3 f0;obtain⟨b,e1,_,w1⟩:=DataW.trod_int underlying2 f1;obtain⟨ts,A,len,c,e2,hk,qg,hkf⟩:=AR (ih:=ih) (by omega) f2 (λn hn=>hw n (by
   rw[hx1];simp only[DataW.weights,underlying90,List.map_cons,List.map_nil,DataW.weightsEach,List.append_nil];simp[hn]))
  obtain⟨bA,hk2,hk3⟩:=hk;subst bA;refine⟨.node a b ts,_,_,_,cs3 hl e0 e1 e2,?_,by rw[T.few];exact⟨qg,hkf⟩⟩;rw[aX];exact⟨rfl,rfl,cZ w0,cZ w1,hk2,A,c,rfl,hk3⟩
theorem Ia{m:Nat}{cs:List Value}{x:DataW H×List MemPlace}(h:DataW.trod enc prog w ai spare held m 88 cs=some x)(hw:∀n,n∈x.1.weights prog 88->n<=reachBytes):∃ts A n c,cs=[.slice A n c]/\bC w w.heap.size ts A n/\n*40<=140737488351232/\T.xJ ts:=
 AR (n:=m+1) (Ao (m+1)) (by omega) h hw
theorem Hv{k:Nat}{cs:List Value}{x:DataW H×List MemPlace}(h:DataW.trod enc prog w ai spare held k 2 cs=some x):∃t:Int,True/\∀c:Nat->Option Value,(∀j,j<1->c j=cs[j]?)->c 0=some (.int .i64 t)/\bz t:=by
 obtain⟨a,e,_,w0⟩:=DataW.trod_int underlying2 h;exact⟨a,trivial,λc hc=>⟨by rw[hc 0 (by omega),e];rfl,cZ w0⟩⟩
theorem zt{m:Nat}{cs:List Value}{x:DataW H×List MemPlace}(h:DataW.trod enc prog w ai spare held m 23 cs=some x)(hw:∀n,n∈x.1.weights prog 23->n<=reachBytes):
  ∃l A c,cs=[.slice A l.length c]/\aL w w.heap.size 1 (λc x=>c 0=some (.int .i64 x)/\bz x) l (.slice A l.length c)/\l.length*8<=140737488351232/\l.length<=c/\c<=9223372036854775807/\∀t,t∈l->True:=
 jT underlying23 (by kernel_rfl) (Qi:=8) (by kernel_rfl) (by omega) (by omega) (λc x=>c 0=some (.int .i64 x)/\bz x) (λt=>True) (λk cs x h hw=>Hv h) h hw
theorem KV{k:Nat}{cs:List Value}{x:DataW H×List MemPlace}(h:DataW.trod enc prog w ai spare held k 85 cs=some x)(hw:∀n,n∈x.1.weights prog 85->n<=reachBytes):
  ∃o:jR,Ee o/\∀c:Nat->Option Value,(∀j,j<3->c j=cs[j]?)->rf w w.heap.size c o:=by
 obtain⟨xs,m,_,Le,hl,nV,hf⟩:=DataW.trod_struct underlying85 h;have hc0:prog.cellsOf 3=1:=by kernel_rfl
 have hc1:prog.cellsOf 23=1:=by kernel_rfl
 have f0:DataW.trod enc prog w ai spare held m 3 ((cs.drop 0).take (prog.cellsOf 3))=xs[0]? :=hf 0 _ rfl;rw[hc0]at f0;have f1:DataW.trod enc prog w ai spare held m 3 ((cs.drop 1).take (prog.cellsOf 3))=xs[1]? :=hf 1 _ rfl;rw[hc0]at f1;have f2:DataW.trod enc prog w ai spare held m 23 ((cs.drop 2).take (prog.cellsOf 23))=xs[2]? :=hf 2 _ rfl;rw[hc1]at f2;obtain⟨x0,x1,x2,rfl⟩:∃x0 x1 x2,xs=[x0,x1,x2]:=by
  match xs,nV with
  |[p,q,r],_=>exact⟨p,q,r,rfl⟩
 have hx1:x.1= .agg [x0.1,x1.1,x2.1]:=by rw[Le];rfl
 have hwt:∀n,n∈x0.1.weights prog 3++x1.1.weights prog 3++x2.1.weights prog 23->n<=reachBytes:=λn hn=>hw n (by
  rw[hx1];simp only[DataW.weights,underlying85,List.map_cons,List.map_nil,DataW.weightsEach,List.append_nil];simpa using hn)
 obtain⟨v0,e0,_,i0⟩:=DataW.trod_int underlying3 f0;have h0:=cJ e0 (i:=0) (by simp);obtain⟨v1,e1,_,i1⟩:=DataW.trod_int underlying3 f1;have h1:=cJ e1 (i:=0) (by simp);obtain⟨v2,A2,c2,e2,r2,z2,_,_,y2⟩:=zt f2 (λn hn=>hwt n (by simp[hn]));have h2:=cJ e2 (i:=0) (by simp);simp at h0 h1 h2;exact⟨⟨v0,v1,v2⟩,z2,λc hc=>⟨by rw[hc 0 (by omega),h0],by rw[hc 1 (by omega),h1],⟨_,by rw[hc 2 (by omega),h2],r2⟩,cZ i0,cZ i1⟩⟩
theorem AD{m:Nat}{cs:List Value}{x:DataW H×List MemPlace}(h:DataW.trod enc prog w ai spare held m 28 cs=some x)(hw:∀n,n∈x.1.weights prog 28->n<=reachBytes):
  ∃l A c,cs=[.slice A l.length c]/\aL w w.heap.size 3 (rf w w.heap.size) l (.slice A l.length c)/\l.length*40<=140737488351232/\l.length<=c/\c<=9223372036854775807/\∀t,t∈l->Ee t:=
 jT underlying28 (by kernel_rfl) (Qi:=40) (by kernel_rfl) (by omega) (by omega) (rf w w.heap.size) (λt=>Ee t) (λk cs x h hw=>KV h hw) h hw
theorem Ha{k:Nat}{cs:List Value}{x:DataW H×List MemPlace}(h:DataW.trod enc prog w ai spare held k 96 cs=some x)(hw:∀n,n∈x.1.weights prog 96->n<=reachBytes):
  ∃o:cM,C9 o/\∀c:Nat->Option Value,(∀j,j<5->c j=cs[j]?)->gA w w.heap.size c o:=by
 obtain⟨xs,m,_,Le,hl,nV,hf⟩:=DataW.trod_struct underlying96 h;have hc0:prog.cellsOf 3=1:=by kernel_rfl
 have hc1:prog.cellsOf 88=1:=by kernel_rfl
 have f0:DataW.trod enc prog w ai spare held m 3 ((cs.drop 0).take (prog.cellsOf 3))=xs[0]? :=hf 0 _ rfl;rw[hc0]at f0;have f1:DataW.trod enc prog w ai spare held m 3 ((cs.drop 1).take (prog.cellsOf 3))=xs[1]? :=hf 1 _ rfl;rw[hc0]at f1;have f2:DataW.trod enc prog w ai spare held m 3 ((cs.drop 2).take (prog.cellsOf 3))=xs[2]? :=hf 2 _ rfl;rw[hc0]at f2;have f3:DataW.trod enc prog w ai spare held m 3 ((cs.drop 3).take (prog.cellsOf 3))=xs[3]? :=hf 3 _ rfl;rw[hc0]at f3;have f4:DataW.trod enc prog w ai spare held m 88 ((cs.drop 4).take (prog.cellsOf 88))=xs[4]? :=hf 4 _ rfl;rw[hc1]at f4;obtain⟨x0,x1,x2,x3,x4,rfl⟩:∃x0 x1 x2 x3 x4,xs=[x0,x1,x2,x3,x4]:=by
  match xs,nV with
  |[p,q,r,s,t],_=>exact⟨p,q,r,s,t,rfl⟩
 have hx1:x.1= .agg [x0.1,x1.1,x2.1,x3.1,x4.1]:=by rw[Le];rfl
 have hwt:∀n,n∈x0.1.weights prog 3++x1.1.weights prog 3++x2.1.weights prog 3++x3.1.weights prog 3++x4.1.weights prog 88->n<=reachBytes:=λn hn=>hw n (by
  rw[hx1];simp only[DataW.weights,underlying96,List.map_cons,List.map_nil,DataW.weightsEach,List.append_nil];simpa using hn)
 obtain⟨v0,e0,_,i0⟩:=DataW.trod_int underlying3 f0;have h0:=cJ e0 (i:=0) (by simp);obtain⟨v1,e1,_,i1⟩:=DataW.trod_int underlying3 f1;have h1:=cJ e1 (i:=0) (by simp);obtain⟨v2,e2,_,i2⟩:=DataW.trod_int underlying3 f2;have h2:=cJ e2 (i:=0) (by simp);obtain⟨v3,e3,_,i3⟩:=DataW.trod_int underlying3 f3;have h3:=cJ e3 (i:=0) (by simp);obtain⟨v4,A4,n4,c4,e4,r4,z4⟩:=Ia f4 (λn hn=>hwt n (by simp[hn]));have h4:=cJ e4 (i:=0) (by simp);simp at h0 h1 h2 h3 h4;exact⟨⟨v0,v1,v2,v3,v4⟩,⟨(by have:=r4.1;subst this;exact z4.1),z4.2⟩,λc hc=>⟨by rw[hc 0 (by omega),h0],by rw[hc 1 (by omega),h1],by rw[hc 2 (by omega),h2],by rw[hc 3 (by omega),h3],⟨_,by rw[hc 4 (by omega),h4],_,_,_,rfl,r4⟩,cZ i0,cZ i1,cZ i2,cZ i3⟩⟩
theorem EL{m:Nat}{cs:List Value}{x:DataW H×List MemPlace}(h:DataW.trod enc prog w ai spare held m 91 cs=some x)(hw:∀n,n∈x.1.weights prog 91->n<=reachBytes):
  ∃l A c,cs=[.slice A l.length c]/\aL w w.heap.size 5 (gA w w.heap.size) l (.slice A l.length c)/\l.length*56<=140737488351232/\l.length<=c/\c<=9223372036854775807/\∀t,t∈l->C9 t:=
 jT underlying91 (by kernel_rfl) (Qi:=56) (by kernel_rfl) (by omega) (by omega) (gA w w.heap.size) (λt=>C9 t) (λk cs x h hw=>Ha h hw) h hw
theorem F8{k:Nat}{cs:List Value}{x:DataW H×List MemPlace}(h:DataW.trod enc prog w ai spare held k 93 cs=some x)(hw:∀n,n∈x.1.weights prog 93->n<=reachBytes):
  ∃o:bW,zg o/\∀c:Nat->Option Value,(∀j,j<7->c j=cs[j]?)->dX w w.heap.size c o:=by
 obtain⟨xs,m,_,Le,hl,nV,hf⟩:=DataW.trod_struct underlying93 h;have hc0:prog.cellsOf 91=1:=by kernel_rfl
 have hc1:prog.cellsOf 3=1:=by kernel_rfl
 have hc2:prog.cellsOf 90=3:=by kernel_rfl
 have f0:DataW.trod enc prog w ai spare held m 91 ((cs.drop 0).take (prog.cellsOf 91))=xs[0]? :=hf 0 _ rfl;rw[hc0]at f0;have f1:DataW.trod enc prog w ai spare held m 3 ((cs.drop 1).take (prog.cellsOf 3))=xs[1]? :=hf 1 _ rfl;rw[hc1]at f1;have f2:DataW.trod enc prog w ai spare held m 90 ((cs.drop 2).take (prog.cellsOf 90))=xs[2]? :=hf 2 _ rfl;rw[hc2]at f2;have f3:DataW.trod enc prog w ai spare held m 3 ((cs.drop 5).take (prog.cellsOf 3))=xs[3]? :=hf 3 _ rfl;rw[hc1]at f3;have f4:DataW.trod enc prog w ai spare held m 3 ((cs.drop 6).take (prog.cellsOf 3))=xs[4]? :=hf 4 _ rfl;rw[hc1]at f4;obtain⟨x0,x1,x2,x3,x4,rfl⟩:∃x0 x1 x2 x3 x4,xs=[x0,x1,x2,x3,x4]:=by
  match xs,nV with
  |[p,q,r,s,t],_=>exact⟨p,q,r,s,t,rfl⟩
 have hx1:x.1= .agg [x0.1,x1.1,x2.1,x3.1,x4.1]:=by rw[Le];rfl
 have hwt:∀n,n∈x0.1.weights prog 91++x1.1.weights prog 3++x2.1.weights prog 90++x3.1.weights prog 3++x4.1.weights prog 3->n<=reachBytes:=λn hn=>hw n (by
  rw[hx1];simp only[DataW.weights,underlying93,List.map_cons,List.map_nil,DataW.weightsEach,List.append_nil];simpa using hn)
 obtain⟨v0,A0,c0,e0,r0,z0,_,_,y0⟩:=EL f0 (λn hn=>hwt n (by simp[hn]));have h0:=cJ e0 (i:=0) (by simp);obtain⟨v1,e1,_,i1⟩:=DataW.trod_int underlying3 f1;have h1:=cJ e1 (i:=0) (by simp);obtain⟨v2,u0,u1,u2,e2,r2,z2⟩:=Ao (m+1) m _ _ (by omega) f2 (λn hn=>hwt n (by simp[hn]));have h2:=cJ e2 (i:=0) (by simp);have h3:=cJ e2 (i:=1) (by simp);have h4:=cJ e2 (i:=2) (by simp);obtain⟨v5,e5,_,i5⟩:=DataW.trod_int underlying3 f3;have h5:=cJ e5 (i:=0) (by simp);obtain⟨v6,e6,_,i6⟩:=DataW.trod_int underlying3 f4;have h6:=cJ e6 (i:=0) (by simp);simp at h0 h1 h2 h3 h4 h5 h6
 exact⟨⟨v0,v1,v2,v5,v6⟩,⟨z0,y0,z2⟩,λc hc=>⟨⟨_,by rw[hc 0 (by omega),h0],r0⟩,by rw[hc 1 (by omega),h1],⟨_,_,_,by rw[hc 2 (by omega),h2],by rw[hc 3 (by omega),h3],by rw[hc 4 (by omega),h4],r2⟩,by rw[hc 5 (by omega),h5],by rw[hc 6 (by omega),h6],cZ i1,cZ i5,cZ i6⟩⟩
theorem D4{m:Nat}{cs:List Value}{x:DataW H×List MemPlace}(h:DataW.trod enc prog w ai spare held m 52 cs=some x)(hw:∀n,n∈x.1.weights prog 52->n<=reachBytes):
  ∃l A c,cs=[.slice A l.length c]/\aL w w.heap.size 7 (dX w w.heap.size) l (.slice A l.length c)/\l.length*88<=140737488351232/\l.length<=c/\c<=9223372036854775807/\∀t,t∈l->zg t:=
 jT underlying52 (by kernel_rfl) (Qi:=88) (by kernel_rfl) (by omega) (by omega) (dX w w.heap.size) (λt=>zg t) (λk cs x h hw=>F8 h hw) h hw
theorem FI{k:Nat}{cs:List Value}{x:DataW H×List MemPlace}(h:DataW.trod enc prog w ai spare held k 54 cs=some x)(hw:∀n,n∈x.1.weights prog 54->n<=reachBytes):
  ∃o:aP,zf o/\∀c:Nat->Option Value,(∀j,j<4->c j=cs[j]?)->dV w w.heap.size c o:=by
 obtain⟨xs,m,_,Le,hl,nV,hf⟩:=DataW.trod_struct underlying54 h;have hc0:prog.cellsOf 3=1:=by kernel_rfl
 have hc1:prog.cellsOf 28=1:=by kernel_rfl
 have hc2:prog.cellsOf 52=1:=by kernel_rfl
 have f0:DataW.trod enc prog w ai spare held m 3 ((cs.drop 0).take (prog.cellsOf 3))=xs[0]? :=hf 0 _ rfl;rw[hc0]at f0;have f1:DataW.trod enc prog w ai spare held m 3 ((cs.drop 1).take (prog.cellsOf 3))=xs[1]? :=hf 1 _ rfl;rw[hc0]at f1;have f2:DataW.trod enc prog w ai spare held m 28 ((cs.drop 2).take (prog.cellsOf 28))=xs[2]? :=hf 2 _ rfl;rw[hc1]at f2;have f3:DataW.trod enc prog w ai spare held m 52 ((cs.drop 3).take (prog.cellsOf 52))=xs[3]? :=hf 3 _ rfl;rw[hc2]at f3;obtain⟨x0,x1,x2,x3,rfl⟩:∃x0 x1 x2 x3,xs=[x0,x1,x2,x3]:=by
  match xs,nV with
  |[p,q,r,s],_=>exact⟨p,q,r,s,rfl⟩
 have hx1:x.1= .agg [x0.1,x1.1,x2.1,x3.1]:=by rw[Le];rfl
 have hwt:∀n,n∈x0.1.weights prog 3++x1.1.weights prog 3++x2.1.weights prog 28++x3.1.weights prog 52->n<=reachBytes:=λn hn=>hw n (by
  rw[hx1];simp only[DataW.weights,underlying54,List.map_cons,List.map_nil,DataW.weightsEach,List.append_nil];simpa using hn)
 obtain⟨v0,e0,_,i0⟩:=DataW.trod_int underlying3 f0;have h0:=cJ e0 (i:=0) (by simp);obtain⟨v1,e1,_,i1⟩:=DataW.trod_int underlying3 f1;have h1:=cJ e1 (i:=0) (by simp);obtain⟨v2,A2,c2,e2,r2,z2,_,_,y2⟩:=AD f2 (λn hn=>hwt n (by simp[hn]));have h2:=cJ e2 (i:=0) (by simp);obtain⟨v3,A3,c3,e3,r3,z3,_,_,y3⟩:=D4 f3 (λn hn=>hwt n (by simp[hn]));have h3:=cJ e3 (i:=0) (by simp);simp at h0 h1 h2 h3;exact⟨⟨v0,v1,v2,v3⟩,⟨z2,y2,z3,y3⟩,λc hc=>⟨by rw[hc 0 (by omega),h0],by rw[hc 1 (by omega),h1],⟨_,by rw[hc 2 (by omega),h2],r2⟩,⟨_,by rw[hc 3 (by omega),h3],r3⟩,cZ i0,cZ i1⟩⟩
theorem DK{m:Nat}{cs:List Value}{x:DataW H×List MemPlace}(h:DataW.trod enc prog w ai spare held m 29 cs=some x)(hw:∀n,n∈x.1.weights prog 29->n<=reachBytes):
  ∃l A c,cs=[.slice A l.length c]/\aL w w.heap.size 4 (dV w w.heap.size) l (.slice A l.length c)/\l.length*64<=140737488351232/\l.length<=c/\c<=9223372036854775807/\∀t,t∈l->zf t:=
 jT underlying29 (by kernel_rfl) (Qi:=64) (by kernel_rfl) (by omega) (by omega) (dV w w.heap.size) (λt=>zf t) (λk cs x h hw=>FI h hw) h hw
theorem Hk{k:Nat}{cs:List Value}{x:DataW H×List MemPlace}(h:DataW.trod enc prog w ai spare held k 31 cs=some x)(hw:∀n,n∈x.1.weights prog 31->n<=reachBytes):
  ∃o:aM,xQ o/\∀c:Nat->Option Value,(∀j,j<3->c j=cs[j]?)->kJ w w.heap.size c o:=by
 obtain⟨xs,m,_,Le,hl,nV,hf⟩:=DataW.trod_struct underlying31 h;have hc0:prog.cellsOf 28=1:=by kernel_rfl
 have hc1:prog.cellsOf 29=1:=by kernel_rfl
 have hc2:prog.cellsOf 3=1:=by kernel_rfl
 have f0:DataW.trod enc prog w ai spare held m 28 ((cs.drop 0).take (prog.cellsOf 28))=xs[0]? :=hf 0 _ rfl;rw[hc0]at f0;have f1:DataW.trod enc prog w ai spare held m 29 ((cs.drop 1).take (prog.cellsOf 29))=xs[1]? :=hf 1 _ rfl;rw[hc1]at f1;have f2:DataW.trod enc prog w ai spare held m 3 ((cs.drop 2).take (prog.cellsOf 3))=xs[2]? :=hf 2 _ rfl;rw[hc2]at f2;obtain⟨x0,x1,x2,rfl⟩:∃x0 x1 x2,xs=[x0,x1,x2]:=by
  match xs,nV with
  |[p,q,r],_=>exact⟨p,q,r,rfl⟩
 have hx1:x.1= .agg [x0.1,x1.1,x2.1]:=by rw[Le];rfl
 have hwt:∀n,n∈x0.1.weights prog 28++x1.1.weights prog 29++x2.1.weights prog 3->n<=reachBytes:=λn hn=>hw n (by
  rw[hx1];simp only[DataW.weights,underlying31,List.map_cons,List.map_nil,DataW.weightsEach,List.append_nil];simpa using hn)
 obtain⟨v0,A0,c0,e0,r0,z0,_,_,y0⟩:=AD f0 (λn hn=>hwt n (by simp[hn]));have h0:=cJ e0 (i:=0) (by simp);obtain⟨v1,A1,c1,e1,r1,z1,_,_,y1⟩:=DK f1 (λn hn=>hwt n (by simp[hn]));have h1:=cJ e1 (i:=0) (by simp);obtain⟨v2,e2,_,i2⟩:=DataW.trod_int underlying3 f2;have h2:=cJ e2 (i:=0) (by simp);simp at h0 h1 h2;exact⟨⟨v0,v1,v2⟩,⟨z0,y0,z1,y1⟩,λc hc=>⟨⟨_,by rw[hc 0 (by omega),h0],r0⟩,⟨_,by rw[hc 1 (by omega),h1],r1⟩,by rw[hc 2 (by omega),h2],cZ i2⟩⟩
theorem EW{m:Nat}{cs:List Value}{x:DataW H×List MemPlace}(h:DataW.trod enc prog w ai spare held m 22 cs=some x)(hw:∀n,n∈x.1.weights prog 22->n<=reachBytes):
  ∃l A c,cs=[.slice A l.length c]/\aL w w.heap.size 3 (kJ w w.heap.size) l (.slice A l.length c)/\l.length*56<=140737488351232/\l.length<=c/\c<=9223372036854775807/\∀t,t∈l->xQ t:=
 jT underlying22 (by kernel_rfl) (Qi:=56) (by kernel_rfl) (by omega) (by omega) (kJ w w.heap.size) (λt=>xQ t) (λk cs x h hw=>Hk h hw) h hw
theorem Jt{k:Nat}{cs:List Value}{x:DataW H×List MemPlace}(h:DataW.trod enc prog w ai spare held k 25 cs=some x)(hw:∀n,n∈x.1.weights prog 25->n<=reachBytes):
  ∃(ps:List aM)(inp:List Int)(PA IA:Option Addr)(pc ic:Nat)(fu:Int),cs=[.slice PA ps.length pc,.slice IA inp.length ic,.int .i64 fu]/\aL w w.heap.size 3 (kJ w w.heap.size) ps (.slice PA ps.length pc)/\ps.length*56<=140737488351232/\inp.length*8<=140737488351232/\(∀t,t∈ps->xQ t)/\inp.length<=ic/\ic<=9223372036854775807/\bE w w.heap.size inp (.slice IA inp.length ic)/\bz fu:=by
 obtain⟨xs,m,_,Le,hl,nV,hf⟩:=DataW.trod_struct underlying25 h;have hc0:prog.cellsOf 22=1:=by kernel_rfl
 have hc1:prog.cellsOf 23=1:=by kernel_rfl
 have hc2:prog.cellsOf 3=1:=by kernel_rfl
 have f0:DataW.trod enc prog w ai spare held m 22 ((cs.drop 0).take (prog.cellsOf 22))=xs[0]? :=hf 0 _ rfl;rw[hc0]at f0;have f1:DataW.trod enc prog w ai spare held m 23 ((cs.drop 1).take (prog.cellsOf 23))=xs[1]? :=hf 1 _ rfl;rw[hc1]at f1;have f2:DataW.trod enc prog w ai spare held m 3 ((cs.drop 2).take (prog.cellsOf 3))=xs[2]? :=hf 2 _ rfl;rw[hc2]at f2;obtain⟨x0,x1,x2,rfl⟩:∃x0 x1 x2,xs=[x0,x1,x2]:=by
  match xs,nV with
  |[a,b,c],_=>exact⟨a,b,c,rfl⟩
 have hx1:x.1= .agg [x0.1,x1.1,x2.1]:=by rw[Le];rfl
 have hwt:∀n,n∈x0.1.weights prog 22++x1.1.weights prog 23++x2.1.weights prog 3->n<=reachBytes:=λn hn=>hw n (by
  rw[hx1];simp only[DataW.weights,underlying25,List.map_cons,List.map_nil,DataW.weightsEach,List.append_nil];simpa using hn)
 obtain⟨v0,A0,c0,e0,s0,l0,q0,q0',z0⟩:=EW f0 (λn hn=>hwt n (by simp[hn]));obtain⟨v1,A1,c1,e1,s1,l1,q1,q1',z1⟩:=zt f1 (λn hn=>hwt n (by simp[hn]));obtain⟨v2,e2,_,w2⟩:=DataW.trod_int underlying3 f2;have hce:prog.cellsOf 25=3:=by kernel_rfl
 rw[hce]at hl;exact⟨v0,v1,A0,A1,c0,c1,v2,cs3 hl e0 e1 e2,s0,l0,l1,z0,q1,q1',s1,cZ w2⟩
end
theorem Ju{H:Type}{enc:TypeId×Value->H}{w:World}{v:Value}{d:DataW H}{ps:List MemPlace}{cs:Array Value}(hv:v= .agg cs)(h:DataW.Trod enc prog w 0 (λ_=>true) true 25 v d ps)
  (hsz:(DataW.weightsEach prog [25] [d]).all (·<=reachBytes)=true):
  ∃(ps:List aM)(inp:List Int)(PA IA:Option Addr)(pc ic:Nat)(fu:Int),v= .agg #[.slice PA ps.length pc,.slice IA inp.length ic,.int .i64 fu]/\aL w w.heap.size 3 (kJ w w.heap.size) ps (.slice PA ps.length pc)/\ps.length*56<=140737488351232/\inp.length*8<=140737488351232/\(∀t,t∈ps->xQ t)/\inp.length<=ic/\ic<=9223372036854775807/\bE w w.heap.size inp (.slice IA inp.length ic)/\bz fu:=by
 subst hv;obtain⟨m,h⟩:=h;obtain⟨ps',inp,PA,IA,pc,ic,fu,e,rest⟩:=Jt h (λn hn=>by
  have:=List.all_eq_true.1 hsz n (DataW.weights_mem_each (j:=0) rfl rfl n hn);simpa using this)
 refine⟨ps',inp,PA,IA,pc,ic,fu,?_,rest⟩;have e':cs.toList=[.slice PA ps'.length pc,.slice IA inp.length ic,.int .i64 fu]:=by simpa [Value.cells]using e
 rw[<-Array.toArray_toList (xs:=cs),e']
end Go.Proofs.YtikbdplllopjlaaGreat
