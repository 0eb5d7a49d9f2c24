/- The graph's asker: a step. Conditions: as stated. -/
import Derived.Test.YtikbdplllopjlaaGreatQ11Zz
set_option linter.unusedVariables false
set_option linter.unusedSimpArgs false
set_option maxHeartbeats 8000000
set_option maxRecDepth 100000
open Go.Proofs.Tryz
namespace Go.Proofs.YtikbdplllopjlaaGreat
open Go.RowKit
def bB(na nb nc:Int):List T->Int->Bool×Int
 |[],n=>(true,n)
 |k::ks,n=>if(bS na nb nc n k).1=true then bB na nb nc ks (bS na nb nc n k).2 else(false,(bS na nb nc n k).2)
def lD(p:aM)(g:aP)(x:cM):Prop:=(eM p x).2.2=false\/(x.args.length:Int)≠(eM p x).1\/((eM p x).2.1=true/\¬(0<=x.to/\x.to<g.ay))\/((eM p x).2.1=false/\x.to≠ -1)
instance(p:aM)(g:aP)(x:cM):Decidable (lD p g x):=by unfold lD;exact inferInstance
def cR(p:aM)(g:aP)(n:Int)(x:cM):Bool×Int:=
 if lD p g x then(false,n)else if(x.op≠2/\x.size≠0)\/(x.op≠3/\x.fn≠0)then(false,n)else bB g.ay g.az.length p.ax.length x.args n
theorem iW{na nb nc n:Int}{t:T}(h:(bS na nb nc n t).1=true)(hn:0<=n):0<=(bS na nb nc n t).2/\(bS na nb nc n t).2<=8000:=by
 unfold bS at h ⊢;split
 ·rename_i hc;rw[if_pos hc]at h;simp only[decide_eq_true_eq]at h;exact⟨by simp only;omega,h⟩
 ·rename_i hc;rw[if_neg hc]at h;cases h
theorem IP(a:oM)(ab:Nat)(n:Int)(p:aM)(g:aP)(x:cM)(A:Option Addr)(kn kc:Nat)(B:Nat)(w:World)(hB:B<=w.heap.size)(hab:B<=ab)(ha:BK w B a p g)(hr:ry w ab a n)(BO:0<=n)(jw:n<=8000)(hk:bC w B x.args A kn)(hfn:bz x.fn):
  Calls prog 59 #[.pointer (some ⟨ab,0,none⟩),.agg #[.int .i64 x.op,.int .i64 x.to,.int .i64 x.size,.int .i64 x.fn,.slice A kn kc]] w λe w'=>fE a ab (cR p g n x) w e w':=by
 have El:=ae (IV a ab n p g x A kn kc B (w.alloc (.cells #[.int .i64 x.op,.int .i64 x.to,.int .i64 x.size,.int .i64 x.fn,.slice A kn kc] 96)) (by simp;omega) (ha.below ((aj w _).mono hB)) (hr.below (aj w _)) hfn);obtain⟨op,to,size,fn,ks⟩:=x;obtain⟨ar,tob,okb,Uy⟩:∃ar tob okb,eM p ⟨op,to,size,fn,ks⟩=(ar,tob,okb):=⟨_,_,_,rfl⟩
 simp only at hk hfn El ⊢;rw[Uy]at El;simp only[Da]at El;have qg:=hk.1;have Qa:=hk.2.1;have HK:=ae hk;have HR:=ae hr;have HA:=ae ha;have N2:=Row.lt hr;have ed:=ae (Row.new w #[.int .i64 op,.int .i64 to,.int .i64 size,.int .i64 fn,.slice A kn kc] 96);clear hk hr ha;cases okb with
 |false=>
  have gU:=ae (show∀W,Calls prog 38 #[.int .i64 to,.int .i64 a.ay] W λe w'=>e= .returned (.bool (decide (0<=to/\to<a.ay)))/\W=w' from λW=>cQ to a.ay W);rw[show cR p g n ⟨op,to,size,fn,ks⟩=(false,n)from by unfold cR;rw[if_pos (show lD p g ⟨op,to,size,fn,ks⟩from by unfold lD;rw[Uy];exact aH rfl)]];go_enter func59,ntmps59;refine ak λQ HQ=>?_;go_wp2_with fail;refine El.mono ?_;rintro e w1 ⟨rfl,hb1⟩;have bn:=ae ((aj w _).trans (hb1.mono (aj w _).size));have aV:=ed.below hb1 ed.lt;have m8:=ae aV;have x0:=aV.cell (j:=0) rfl;have x1:=aV.cell (j:=1) rfl;have x2:=aV.cell (j:=2) rfl;have x3:=aV.cell (j:=3) rfl;have x4:=aV.cell (j:=4) rfl;have xl:=aV.lt
  have hr1:=HR.below bn.out;have iK:=ae hr1;have r4:w1.cell? ⟨ab,4,none⟩=some (.int .i64 a.ay):=Row.cell hr1 rfl;have rl:=Row.lt hr1;clear hb1 aV hr1;go_wp2_with fail;go_quiet ((go_at_call 38;exact Calls.quiet_of_same ((gU _).mono λ_ _ h=>⟨h.1,h.2.symm⟩)));go_wp2_with fail;refine HQ _ _ _ ?_;exact aR (v:= .bool false) (by simp[results,results59,go_sem]) rfl ⟨rfl,HR.below (below_drewN bn _),Wr.of_below (below_drewN bn _)⟩
 |true=>
  by_cases h2:(kn:Int)=ar
  ·have e2:((kn:Int) !=ar)=false:=by simpa using h2
   have IM:(ks.length:Int)=ar:=by omega
   cases tob with
   |true=>
    by_cases h3:0<=to/\to<a.ay
    ·have gU:=ae (show∀W,Calls prog 38 #[.int .i64 to,.int .i64 a.ay] W λe w'=>e= .returned (.bool true)/\W=w' from λW=>by have:=cQ to a.ay W;rwa [decide_eq_true h3]at this);have IC:¬lD p g ⟨op,to,size,fn,ks⟩:=by
      unfold lD;rw[Uy];simp only;rw[not_or,not_or,not_or];exact⟨by simp,λh=>h IM,λh=>h.2 (by rw[<-HA.ay];exact h3),λh=>by cases h.1⟩
     by_cases hb1:op≠2/\size≠0
     ·rw[show cR p g n ⟨op,to,size,fn,ks⟩=(false,n)from by unfold cR;rw[if_neg IC,if_pos (aH hb1)]];have e5:(op !=2)=true:=by simpa using hb1.1
      have e6:(size !=0)=true:=by simpa using hb1.2
      clear hb1 IC h2 IM;go_enter func59,ntmps59;refine ak λQ HQ=>?_;go_wp2_with fail;refine El.mono ?_;rintro e w1 ⟨rfl,hb1⟩;have bn:=ae ((aj w _).trans (hb1.mono (aj w _).size));have aV:=ed.below hb1 ed.lt;have m8:=ae aV;have x0:=aV.cell (j:=0) rfl;have x1:=aV.cell (j:=1) rfl;have x2:=aV.cell (j:=2) rfl;have x3:=aV.cell (j:=3) rfl;have x4:=aV.cell (j:=4) rfl;have xl:=aV.lt;have hr1:=HR.below bn.out;have iK:=ae hr1;have r4:w1.cell? ⟨ab,4,none⟩=some (.int .i64 a.ay):=Row.cell hr1 rfl;have rl:=Row.lt hr1;clear hb1 aV hr1;go_wp2_with fail;go_quiet ((go_at_call 38;exact Calls.quiet_of_same ((gU _).mono λ_ _ h=>⟨h.1,h.2.symm⟩)));go_wp2_with fail;refine HQ _ _ _ ?_
      exact aR (v:= .bool false) (by simp[results,results59,go_sem]) rfl ⟨rfl,HR.below (below_drewN bn _),Wr.of_below (below_drewN bn _)⟩
     ·by_cases hb2:op≠3/\fn≠0
      ·rw[show cR p g n ⟨op,to,size,fn,ks⟩=(false,n)from by unfold cR;rw[if_neg IC,if_pos (aT hb2)]];have e7:(op !=3)=true:=by simpa using hb2.1
       have e8:(fn !=0)=true:=by simpa using hb2.2
       by_cases h5:op=2
       ·subst h5;clear hb1 hb2 IC h2;go_enter func59,ntmps59;refine ak λQ HQ=>?_;go_wp2_with fail;refine El.mono ?_;rintro e w1 ⟨rfl,hb1⟩;have bn:=ae ((aj w _).trans (hb1.mono (aj w _).size));have aV:=ed.below hb1 ed.lt;have m8:=ae aV;have x0:=aV.cell (j:=0) rfl;have x1:=aV.cell (j:=1) rfl;have x2:=aV.cell (j:=2) rfl;have x3:=aV.cell (j:=3) rfl;have x4:=aV.cell (j:=4) rfl;have xl:=aV.lt;have hr1:=HR.below bn.out;have iK:=ae hr1;have r4:w1.cell? ⟨ab,4,none⟩=some (.int .i64 a.ay):=Row.cell hr1 rfl;have rl:=Row.lt hr1;clear hb1 aV hr1;go_wp2_with fail;go_quiet ((go_at_call 38;exact Calls.quiet_of_same ((gU _).mono λ_ _ h=>⟨h.1,h.2.symm⟩)));go_wp2_with fail;refine HQ _ _ _ ?_
        exact aR (v:= .bool false) (by simp[results,results59,go_sem]) rfl ⟨rfl,HR.below (below_drewN bn _),Wr.of_below (below_drewN bn _)⟩
       ·have h6:size=0:=by omega
        subst h6;have e5:(op !=2)=true:=by simpa using h5
        clear hb1 hb2 IC h2 h5;go_enter func59,ntmps59;refine ak λQ HQ=>?_;go_wp2_with fail;refine El.mono ?_;rintro e w1 ⟨rfl,hb1⟩;have bn:=ae ((aj w _).trans (hb1.mono (aj w _).size));have aV:=ed.below hb1 ed.lt;have m8:=ae aV;have x0:=aV.cell (j:=0) rfl;have x1:=aV.cell (j:=1) rfl;have x2:=aV.cell (j:=2) rfl;have x3:=aV.cell (j:=3) rfl;have x4:=aV.cell (j:=4) rfl;have xl:=aV.lt;have hr1:=HR.below bn.out;have iK:=ae hr1;have r4:w1.cell? ⟨ab,4,none⟩=some (.int .i64 a.ay):=Row.cell hr1 rfl;have rl:=Row.lt hr1;clear hb1 aV hr1;go_wp2_with fail;go_quiet ((go_at_call 38;exact Calls.quiet_of_same ((gU _).mono λ_ _ h=>⟨h.1,h.2.symm⟩)));go_wp2_with fail;refine HQ _ _ _ ?_
        exact aR (v:= .bool false) (by simp[results,results59,go_sem]) rfl ⟨rfl,HR.below (below_drewN bn _),Wr.of_below (below_drewN bn _)⟩
      ·rw[show cR p g n ⟨op,to,size,fn,ks⟩=bB g.ay g.az.length p.ax.length ks n from by unfold cR;rw[if_neg IC,if_neg (by simp only;omega)]];have hq:(op=2/\fn=0)\/(op=3/\size=0)\/(op≠2/\op≠3/\size=0/\fn=0):=by omega
       clear hb1 hb2 IC;rcases hq with⟨rfl,rfl⟩|⟨rfl,rfl⟩|⟨h7,h8,rfl,rfl⟩
       ·clear h2 IM;go_enter func59,ntmps59;refine ak λQ HQ=>?_;go_wp2_with fail;refine El.mono ?_;rintro e w1 ⟨rfl,hb1⟩;have bn:=ae ((aj w _).trans (hb1.mono (aj w _).size));have aV:=ed.below hb1 ed.lt;have m8:=ae aV;have x0:=aV.cell (j:=0) rfl;have x1:=aV.cell (j:=1) rfl;have x2:=aV.cell (j:=2) rfl;have x3:=aV.cell (j:=3) rfl;have x4:=aV.cell (j:=4) rfl;have xl:=aV.lt;have hr1:=HR.below bn.out;have iK:=ae hr1;have r4:w1.cell? ⟨ab,4,none⟩=some (.int .i64 a.ay):=Row.cell hr1 rfl;have rl:=Row.lt hr1;clear hb1 aV hr1;go_wp2_with fail;go_quiet ((go_at_call 38;exact Calls.quiet_of_same ((gU _).mono λ_ _ h=>⟨h.1,h.2.symm⟩)));go_wp2_with fail
        go_loopw [70] (λi wr=>∃(j:Nat)(m:Int),i= .int .i64 j/\j<=kn/\0<=m/\m<=8000/\bB g.ay g.az.length p.ax.length (ks.drop j) m=bB g.ay g.az.length p.ax.length ks n/\ry wr ab a m/\Wr (λk=>k=ab) w wr) (λi _=>kn-(intOf i).toNat)
        case atStart=>exact⟨0,n,rfl,by omega,BO,jw,rfl,HR.below (below_drewN bn _),Wr.of_below (below_drewN bn _)⟩
        case round=>
         obtain⟨j,m,rfl,hj,mX,mr,heq,sK,hwr⟩:=hrel;have jC:=ae heq;have mK:=ae hwr;have fV:=hwr.size;have iV:Below B w wr:=hwr.below hB (λk hk=>by omega);by_cases hlt:j<kn
         ·obtain⟨b,off,k,u0,u1,u2,rfl,hb,bA,k0,k1,k2,ht⟩:=(HK.below iV (aN _)).get hlt;obtain⟨a0,b0,A1,n1,c1,rfl,rfl,rfl⟩:=ht.eH;have HC:=ae (lM a ab m k B (wr.alloc (.cells #[.int .i64 a0,.int .i64 b0,.slice A1 n1 c1] 90)) _ _ _ (by simp;omega) (ht.below ((aj wr _).mono (by omega)) (aN _)) (sK.below (aj wr _)) mX (by omega));rw[HA.ay,HA.nl,HA.ng]at HC;have iw:=ae bA;have EA:(j:Int)<(kn:Int):=by omega
          have hbl:b<wr.heap.size:=by omega
          have IK:ab<wr.heap.size:=by omega
          clear bA ht heq hwr sK iV;cases hg1:(bS g.ay g.az.length p.ax.length m k).1 with
          |true=>
           have HG:=ae hg1;have dO:=iW hg1 mX;simp only[fE]at HC;rw[hg1]at HC;clear hg1;go_wp2_with fail;refine HC.mono ?_;rintro e w3 ⟨rfl,hr3,hw3⟩;have x9:=ae hr3;have lZ:=ae ((mK.trans (di (aj wr (.cells #[.int .i64 a0,.int .i64 b0,.slice A1 n1 c1] 90))) (λ_ h=>h.elim)).trans hw3 (λ_ h=>aH h));clear hr3 hw3;go_wp2_with fail;go_roundw
           case rel=>exact⟨j+1,(bS g.ay g.az.length p.ax.length m k).2,by go_num,by omega,dO.1,dO.2,by have h9:=jC.out;rw[b8 iw.out,bB,if_pos HG.out]at h9;exact h9,x9.out,lZ.out⟩
           case measure=>simp[intOf];omega
          |false=>
           have HG:=ae hg1;simp only[fE]at HC;rw[hg1]at HC;clear hg1;go_wp2_with fail;refine HC.mono ?_;rintro e w3 ⟨rfl,hr3,hw3⟩;have x9:=ae hr3;have lZ:=ae ((mK.trans (di (aj wr (.cells #[.int .i64 a0,.int .i64 b0,.slice A1 n1 c1] 90))) (λ_ h=>h.elim)).trans hw3 (λ_ h=>aH h));clear hr3 hw3;go_wp2_with fail;refine HQ _ _ _ ?_;have j4:bB g.ay g.az.length p.ax.length ks n=(false,(bS g.ay g.az.length p.ax.length m k).2):=by
            rw[<-jC.out,b8 iw.out,bB,if_neg (by rw[HG.out];simp)]
           rw[j4];exact aR (v:= .bool false) (by simp[results,results59,go_sem]) rfl ⟨rfl,x9.out,lZ.out⟩
         ·obtain rfl:j=kn:=by omega
          rw[bD (by omega)]at jC;have MJ:=ae sK;clear hwr heq sK iV;go_wp2_with fail;refine HQ _ _ _ ?_;rw[<-jC.out,bB];exact aR (v:= .bool true) (by simp[results,results59,go_sem]) rfl ⟨rfl,MJ.out,mK.out⟩
       ·clear h2 IM;go_enter func59,ntmps59;refine ak λQ HQ=>?_;go_wp2_with fail;refine El.mono ?_;rintro e w1 ⟨rfl,hb1⟩;have bn:=ae ((aj w _).trans (hb1.mono (aj w _).size));have aV:=ed.below hb1 ed.lt;have m8:=ae aV;have x0:=aV.cell (j:=0) rfl;have x1:=aV.cell (j:=1) rfl;have x2:=aV.cell (j:=2) rfl;have x3:=aV.cell (j:=3) rfl;have x4:=aV.cell (j:=4) rfl;have xl:=aV.lt;have hr1:=HR.below bn.out;have iK:=ae hr1;have r4:w1.cell? ⟨ab,4,none⟩=some (.int .i64 a.ay):=Row.cell hr1 rfl;have rl:=Row.lt hr1;clear hb1 aV hr1;go_wp2_with fail;go_quiet ((go_at_call 38;exact Calls.quiet_of_same ((gU _).mono λ_ _ h=>⟨h.1,h.2.symm⟩)));go_wp2_with fail
        go_loopw [70] (λi wr=>∃(j:Nat)(m:Int),i= .int .i64 j/\j<=kn/\0<=m/\m<=8000/\bB g.ay g.az.length p.ax.length (ks.drop j) m=bB g.ay g.az.length p.ax.length ks n/\ry wr ab a m/\Wr (λk=>k=ab) w wr) (λi _=>kn-(intOf i).toNat)
        case atStart=>exact⟨0,n,rfl,by omega,BO,jw,rfl,HR.below (below_drewN bn _),Wr.of_below (below_drewN bn _)⟩
        case round=>
         obtain⟨j,m,rfl,hj,mX,mr,heq,sK,hwr⟩:=hrel;have jC:=ae heq;have mK:=ae hwr;have fV:=hwr.size;have iV:Below B w wr:=hwr.below hB (λk hk=>by omega);by_cases hlt:j<kn
         ·obtain⟨b,off,k,u0,u1,u2,rfl,hb,bA,k0,k1,k2,ht⟩:=(HK.below iV (aN _)).get hlt;obtain⟨a0,b0,A1,n1,c1,rfl,rfl,rfl⟩:=ht.eH;have HC:=ae (lM a ab m k B (wr.alloc (.cells #[.int .i64 a0,.int .i64 b0,.slice A1 n1 c1] 90)) _ _ _ (by simp;omega) (ht.below ((aj wr _).mono (by omega)) (aN _)) (sK.below (aj wr _)) mX (by omega));rw[HA.ay,HA.nl,HA.ng]at HC;have iw:=ae bA;have EA:(j:Int)<(kn:Int):=by omega
          have hbl:b<wr.heap.size:=by omega
          have IK:ab<wr.heap.size:=by omega
          clear bA ht heq hwr sK iV;cases hg1:(bS g.ay g.az.length p.ax.length m k).1 with
          |true=>
           have HG:=ae hg1;have dO:=iW hg1 mX;simp only[fE]at HC;rw[hg1]at HC;clear hg1;go_wp2_with fail;refine HC.mono ?_;rintro e w3 ⟨rfl,hr3,hw3⟩;have x9:=ae hr3;have lZ:=ae ((mK.trans (di (aj wr (.cells #[.int .i64 a0,.int .i64 b0,.slice A1 n1 c1] 90))) (λ_ h=>h.elim)).trans hw3 (λ_ h=>aH h));clear hr3 hw3;go_wp2_with fail;go_roundw
           case rel=>exact⟨j+1,(bS g.ay g.az.length p.ax.length m k).2,by go_num,by omega,dO.1,dO.2,by have h9:=jC.out;rw[b8 iw.out,bB,if_pos HG.out]at h9;exact h9,x9.out,lZ.out⟩
           case measure=>simp[intOf];omega
          |false=>
           have HG:=ae hg1;simp only[fE]at HC;rw[hg1]at HC;clear hg1;go_wp2_with fail;refine HC.mono ?_;rintro e w3 ⟨rfl,hr3,hw3⟩;have x9:=ae hr3;have lZ:=ae ((mK.trans (di (aj wr (.cells #[.int .i64 a0,.int .i64 b0,.slice A1 n1 c1] 90))) (λ_ h=>h.elim)).trans hw3 (λ_ h=>aH h));clear hr3 hw3;go_wp2_with fail;refine HQ _ _ _ ?_;have j4:bB g.ay g.az.length p.ax.length ks n=(false,(bS g.ay g.az.length p.ax.length m k).2):=by
            rw[<-jC.out,b8 iw.out,bB,if_neg (by rw[HG.out];simp)]
           rw[j4];exact aR (v:= .bool false) (by simp[results,results59,go_sem]) rfl ⟨rfl,x9.out,lZ.out⟩
         ·obtain rfl:j=kn:=by omega
          rw[bD (by omega)]at jC;have MJ:=ae sK;clear hwr heq sK iV;go_wp2_with fail;refine HQ _ _ _ ?_;rw[<-jC.out,bB];exact aR (v:= .bool true) (by simp[results,results59,go_sem]) rfl ⟨rfl,MJ.out,mK.out⟩
       ·have e7:(op !=2)=true:=by simpa using h7
        have e8:(op !=3)=true:=by simpa using h8
        clear h2 h7 h8;go_enter func59,ntmps59;refine ak λQ HQ=>?_;go_wp2_with fail;refine El.mono ?_;rintro e w1 ⟨rfl,hb1⟩;have bn:=ae ((aj w _).trans (hb1.mono (aj w _).size));have aV:=ed.below hb1 ed.lt;have m8:=ae aV;have x0:=aV.cell (j:=0) rfl;have x1:=aV.cell (j:=1) rfl;have x2:=aV.cell (j:=2) rfl;have x3:=aV.cell (j:=3) rfl;have x4:=aV.cell (j:=4) rfl;have xl:=aV.lt;have hr1:=HR.below bn.out;have iK:=ae hr1;have r4:w1.cell? ⟨ab,4,none⟩=some (.int .i64 a.ay):=Row.cell hr1 rfl;have rl:=Row.lt hr1;clear hb1 aV hr1;go_wp2_with fail;go_quiet ((go_at_call 38;exact Calls.quiet_of_same ((gU _).mono λ_ _ h=>⟨h.1,h.2.symm⟩)));go_wp2_with fail
        go_loopw [70] (λi wr=>∃(j:Nat)(m:Int),i= .int .i64 j/\j<=kn/\0<=m/\m<=8000/\bB g.ay g.az.length p.ax.length (ks.drop j) m=bB g.ay g.az.length p.ax.length ks n/\ry wr ab a m/\Wr (λk=>k=ab) w wr) (λi _=>kn-(intOf i).toNat)
        case atStart=>exact⟨0,n,rfl,by omega,BO,jw,rfl,HR.below (below_drewN bn _),Wr.of_below (below_drewN bn _)⟩
        case round=>
         obtain⟨j,m,rfl,hj,mX,mr,heq,sK,hwr⟩:=hrel;have jC:=ae heq;have mK:=ae hwr;have fV:=hwr.size;have iV:Below B w wr:=hwr.below hB (λk hk=>by omega);by_cases hlt:j<kn
         ·obtain⟨b,off,k,u0,u1,u2,rfl,hb,bA,k0,k1,k2,ht⟩:=(HK.below iV (aN _)).get hlt;obtain⟨a0,b0,A1,n1,c1,rfl,rfl,rfl⟩:=ht.eH;have HC:=ae (lM a ab m k B (wr.alloc (.cells #[.int .i64 a0,.int .i64 b0,.slice A1 n1 c1] 90)) _ _ _ (by simp;omega) (ht.below ((aj wr _).mono (by omega)) (aN _)) (sK.below (aj wr _)) mX (by omega));rw[HA.ay,HA.nl,HA.ng]at HC;have iw:=ae bA;have EA:(j:Int)<(kn:Int):=by omega
          have hbl:b<wr.heap.size:=by omega
          have IK:ab<wr.heap.size:=by omega
          clear bA ht heq hwr sK iV;cases hg1:(bS g.ay g.az.length p.ax.length m k).1 with
          |true=>
           have HG:=ae hg1;have dO:=iW hg1 mX;simp only[fE]at HC;rw[hg1]at HC;clear hg1;go_wp2_with fail;refine HC.mono ?_;rintro e w3 ⟨rfl,hr3,hw3⟩;have x9:=ae hr3;have lZ:=ae ((mK.trans (di (aj wr (.cells #[.int .i64 a0,.int .i64 b0,.slice A1 n1 c1] 90))) (λ_ h=>h.elim)).trans hw3 (λ_ h=>aH h));clear hr3 hw3;go_wp2_with fail;go_roundw
           case rel=>exact⟨j+1,(bS g.ay g.az.length p.ax.length m k).2,by go_num,by omega,dO.1,dO.2,by have h9:=jC.out;rw[b8 iw.out,bB,if_pos HG.out]at h9;exact h9,x9.out,lZ.out⟩
           case measure=>simp[intOf];omega
          |false=>
           have HG:=ae hg1;simp only[fE]at HC;rw[hg1]at HC;clear hg1;go_wp2_with fail;refine HC.mono ?_;rintro e w3 ⟨rfl,hr3,hw3⟩;have x9:=ae hr3;have lZ:=ae ((mK.trans (di (aj wr (.cells #[.int .i64 a0,.int .i64 b0,.slice A1 n1 c1] 90))) (λ_ h=>h.elim)).trans hw3 (λ_ h=>aH h));clear hr3 hw3;go_wp2_with fail;refine HQ _ _ _ ?_;have j4:bB g.ay g.az.length p.ax.length ks n=(false,(bS g.ay g.az.length p.ax.length m k).2):=by
            rw[<-jC.out,b8 iw.out,bB,if_neg (by rw[HG.out];simp)]
           rw[j4];exact aR (v:= .bool false) (by simp[results,results59,go_sem]) rfl ⟨rfl,x9.out,lZ.out⟩
         ·obtain rfl:j=kn:=by omega
          rw[bD (by omega)]at jC;have MJ:=ae sK;clear hwr heq sK iV;go_wp2_with fail;refine HQ _ _ _ ?_;rw[<-jC.out,bB];exact aR (v:= .bool true) (by simp[results,results59,go_sem]) rfl ⟨rfl,MJ.out,mK.out⟩
    ·have gU:=ae (show∀W,Calls prog 38 #[.int .i64 to,.int .i64 a.ay] W λe w'=>e= .returned (.bool false)/\W=w' from λW=>by have:=cQ to a.ay W;rwa [decide_eq_false h3]at this);rw[show cR p g n ⟨op,to,size,fn,ks⟩=(false,n)from by unfold cR;rw[if_pos (show lD p g ⟨op,to,size,fn,ks⟩from by unfold lD;rw[Uy];exact aT (aT (aH ⟨rfl,λh=>h3 (by rw[HA.ay];exact h)⟩)))]];clear h2 IM h3;go_enter func59,ntmps59;refine ak λQ HQ=>?_;go_wp2_with fail;refine El.mono ?_;rintro e w1 ⟨rfl,hb1⟩;have bn:=ae ((aj w _).trans (hb1.mono (aj w _).size));have aV:=ed.below hb1 ed.lt;have m8:=ae aV;have x0:=aV.cell (j:=0) rfl;have x1:=aV.cell (j:=1) rfl;have x2:=aV.cell (j:=2) rfl
     have x3:=aV.cell (j:=3) rfl;have x4:=aV.cell (j:=4) rfl;have xl:=aV.lt;have hr1:=HR.below bn.out;have iK:=ae hr1;have r4:w1.cell? ⟨ab,4,none⟩=some (.int .i64 a.ay):=Row.cell hr1 rfl;have rl:=Row.lt hr1;clear hb1 aV hr1;go_wp2_with fail;go_quiet ((go_at_call 38;exact Calls.quiet_of_same ((gU _).mono λ_ _ h=>⟨h.1,h.2.symm⟩)));go_wp2_with fail;refine HQ _ _ _ ?_;exact aR (v:= .bool false) (by simp[results,results59,go_sem]) rfl ⟨rfl,HR.below (below_drewN bn _),Wr.of_below (below_drewN bn _)⟩
   |false=>
    by_cases h3:to= -1
    ·subst h3;have gU:=ae (show∀W,Calls prog 38 #[.int .i64 (-1),.int .i64 a.ay] W λe w'=>e= .returned (.bool (decide (0<=(-1)/\(-1)<a.ay)))/\W=w' from λW=>cQ (-1) a.ay W);have IC:¬lD p g ⟨op,-1,size,fn,ks⟩:=by
      unfold lD;rw[Uy];simp only;rw[not_or,not_or,not_or];exact⟨by simp,λh=>h IM,λh=>(by cases h.1),λh=>h.2 rfl⟩
     by_cases hb1:op≠2/\size≠0
     ·rw[show cR p g n ⟨op,-1,size,fn,ks⟩=(false,n)from by unfold cR;rw[if_neg IC,if_pos (aH hb1)]];have e5:(op !=2)=true:=by simpa using hb1.1
      have e6:(size !=0)=true:=by simpa using hb1.2
      clear hb1 IC h2;go_enter func59,ntmps59;refine ak λQ HQ=>?_;go_wp2_with fail;refine El.mono ?_;rintro e w1 ⟨rfl,hb1⟩;have bn:=ae ((aj w _).trans (hb1.mono (aj w _).size));have aV:=ed.below hb1 ed.lt;have m8:=ae aV;have x0:=aV.cell (j:=0) rfl;have x1:=aV.cell (j:=1) rfl;have x2:=aV.cell (j:=2) rfl;have x3:=aV.cell (j:=3) rfl;have x4:=aV.cell (j:=4) rfl;have xl:=aV.lt;have hr1:=HR.below bn.out;have iK:=ae hr1;have r4:w1.cell? ⟨ab,4,none⟩=some (.int .i64 a.ay):=Row.cell hr1 rfl;have rl:=Row.lt hr1;clear hb1 aV hr1;go_wp2_with fail;go_quiet ((go_at_call 38;exact Calls.quiet_of_same ((gU _).mono λ_ _ h=>⟨h.1,h.2.symm⟩)));go_wp2_with fail;refine HQ _ _ _ ?_
      exact aR (v:= .bool false) (by simp[results,results59,go_sem]) rfl ⟨rfl,HR.below (below_drewN bn _),Wr.of_below (below_drewN bn _)⟩
     ·by_cases hb2:op≠3/\fn≠0
      ·rw[show cR p g n ⟨op,-1,size,fn,ks⟩=(false,n)from by unfold cR;rw[if_neg IC,if_pos (aT hb2)]];have e7:(op !=3)=true:=by simpa using hb2.1
       have e8:(fn !=0)=true:=by simpa using hb2.2
       by_cases h5:op=2
       ·subst h5;clear hb1 hb2 IC h2;go_enter func59,ntmps59;refine ak λQ HQ=>?_;go_wp2_with fail;refine El.mono ?_;rintro e w1 ⟨rfl,hb1⟩;have bn:=ae ((aj w _).trans (hb1.mono (aj w _).size));have aV:=ed.below hb1 ed.lt;have m8:=ae aV;have x0:=aV.cell (j:=0) rfl;have x1:=aV.cell (j:=1) rfl;have x2:=aV.cell (j:=2) rfl;have x3:=aV.cell (j:=3) rfl;have x4:=aV.cell (j:=4) rfl;have xl:=aV.lt;have hr1:=HR.below bn.out;have iK:=ae hr1;have r4:w1.cell? ⟨ab,4,none⟩=some (.int .i64 a.ay):=Row.cell hr1 rfl;have rl:=Row.lt hr1;clear hb1 aV hr1;go_wp2_with fail;go_quiet ((go_at_call 38;exact Calls.quiet_of_same ((gU _).mono λ_ _ h=>⟨h.1,h.2.symm⟩)));go_wp2_with fail;refine HQ _ _ _ ?_
        exact aR (v:= .bool false) (by simp[results,results59,go_sem]) rfl ⟨rfl,HR.below (below_drewN bn _),Wr.of_below (below_drewN bn _)⟩
       ·have h6:size=0:=by omega
        subst h6;have e5:(op !=2)=true:=by simpa using h5
        clear hb1 hb2 IC h2 h5;go_enter func59,ntmps59;refine ak λQ HQ=>?_;go_wp2_with fail;refine El.mono ?_;rintro e w1 ⟨rfl,hb1⟩;have bn:=ae ((aj w _).trans (hb1.mono (aj w _).size));have aV:=ed.below hb1 ed.lt;have m8:=ae aV;have x0:=aV.cell (j:=0) rfl;have x1:=aV.cell (j:=1) rfl;have x2:=aV.cell (j:=2) rfl;have x3:=aV.cell (j:=3) rfl;have x4:=aV.cell (j:=4) rfl;have xl:=aV.lt;have hr1:=HR.below bn.out;have iK:=ae hr1;have r4:w1.cell? ⟨ab,4,none⟩=some (.int .i64 a.ay):=Row.cell hr1 rfl;have rl:=Row.lt hr1;clear hb1 aV hr1;go_wp2_with fail;go_quiet ((go_at_call 38;exact Calls.quiet_of_same ((gU _).mono λ_ _ h=>⟨h.1,h.2.symm⟩)));go_wp2_with fail;refine HQ _ _ _ ?_
        exact aR (v:= .bool false) (by simp[results,results59,go_sem]) rfl ⟨rfl,HR.below (below_drewN bn _),Wr.of_below (below_drewN bn _)⟩
      ·rw[show cR p g n ⟨op,-1,size,fn,ks⟩=bB g.ay g.az.length p.ax.length ks n from by unfold cR;rw[if_neg IC,if_neg (by simp only;omega)]];have hq:(op=2/\fn=0)\/(op=3/\size=0)\/(op≠2/\op≠3/\size=0/\fn=0):=by omega
       clear hb1 hb2 IC;rcases hq with⟨rfl,rfl⟩|⟨rfl,rfl⟩|⟨h7,h8,rfl,rfl⟩
       ·clear h2;go_enter func59,ntmps59;refine ak λQ HQ=>?_;go_wp2_with fail;refine El.mono ?_;rintro e w1 ⟨rfl,hb1⟩;have bn:=ae ((aj w _).trans (hb1.mono (aj w _).size));have aV:=ed.below hb1 ed.lt;have m8:=ae aV;have x0:=aV.cell (j:=0) rfl;have x1:=aV.cell (j:=1) rfl;have x2:=aV.cell (j:=2) rfl;have x3:=aV.cell (j:=3) rfl;have x4:=aV.cell (j:=4) rfl;have xl:=aV.lt;have hr1:=HR.below bn.out;have iK:=ae hr1;have r4:w1.cell? ⟨ab,4,none⟩=some (.int .i64 a.ay):=Row.cell hr1 rfl;have rl:=Row.lt hr1;clear hb1 aV hr1;go_wp2_with fail;go_quiet ((go_at_call 38;exact Calls.quiet_of_same ((gU _).mono λ_ _ h=>⟨h.1,h.2.symm⟩)));go_wp2_with fail
        go_loopw [70] (λi wr=>∃(j:Nat)(m:Int),i= .int .i64 j/\j<=kn/\0<=m/\m<=8000/\bB g.ay g.az.length p.ax.length (ks.drop j) m=bB g.ay g.az.length p.ax.length ks n/\ry wr ab a m/\Wr (λk=>k=ab) w wr) (λi _=>kn-(intOf i).toNat)
        case atStart=>exact⟨0,n,rfl,by omega,BO,jw,rfl,HR.below (below_drewN bn _),Wr.of_below (below_drewN bn _)⟩
        case round=>
         obtain⟨j,m,rfl,hj,mX,mr,heq,sK,hwr⟩:=hrel;have jC:=ae heq;have mK:=ae hwr;have fV:=hwr.size;have iV:Below B w wr:=hwr.below hB (λk hk=>by omega);by_cases hlt:j<kn
         ·obtain⟨b,off,k,u0,u1,u2,rfl,hb,bA,k0,k1,k2,ht⟩:=(HK.below iV (aN _)).get hlt;obtain⟨a0,b0,A1,n1,c1,rfl,rfl,rfl⟩:=ht.eH;have HC:=ae (lM a ab m k B (wr.alloc (.cells #[.int .i64 a0,.int .i64 b0,.slice A1 n1 c1] 90)) _ _ _ (by simp;omega) (ht.below ((aj wr _).mono (by omega)) (aN _)) (sK.below (aj wr _)) mX (by omega));rw[HA.ay,HA.nl,HA.ng]at HC;have iw:=ae bA;have EA:(j:Int)<(kn:Int):=by omega
          have hbl:b<wr.heap.size:=by omega
          have IK:ab<wr.heap.size:=by omega
          clear bA ht heq hwr sK iV;cases hg1:(bS g.ay g.az.length p.ax.length m k).1 with
          |true=>
           have HG:=ae hg1;have dO:=iW hg1 mX;simp only[fE]at HC;rw[hg1]at HC;clear hg1;go_wp2_with fail;refine HC.mono ?_;rintro e w3 ⟨rfl,hr3,hw3⟩;have x9:=ae hr3;have lZ:=ae ((mK.trans (di (aj wr (.cells #[.int .i64 a0,.int .i64 b0,.slice A1 n1 c1] 90))) (λ_ h=>h.elim)).trans hw3 (λ_ h=>aH h));clear hr3 hw3;go_wp2_with fail;go_roundw
           case rel=>exact⟨j+1,(bS g.ay g.az.length p.ax.length m k).2,by go_num,by omega,dO.1,dO.2,by have h9:=jC.out;rw[b8 iw.out,bB,if_pos HG.out]at h9;exact h9,x9.out,lZ.out⟩
           case measure=>simp[intOf];omega
          |false=>
           have HG:=ae hg1;simp only[fE]at HC;rw[hg1]at HC;clear hg1;go_wp2_with fail;refine HC.mono ?_;rintro e w3 ⟨rfl,hr3,hw3⟩;have x9:=ae hr3;have lZ:=ae ((mK.trans (di (aj wr (.cells #[.int .i64 a0,.int .i64 b0,.slice A1 n1 c1] 90))) (λ_ h=>h.elim)).trans hw3 (λ_ h=>aH h));clear hr3 hw3;go_wp2_with fail;refine HQ _ _ _ ?_;have j4:bB g.ay g.az.length p.ax.length ks n=(false,(bS g.ay g.az.length p.ax.length m k).2):=by
            rw[<-jC.out,b8 iw.out,bB,if_neg (by rw[HG.out];simp)]
           rw[j4];exact aR (v:= .bool false) (by simp[results,results59,go_sem]) rfl ⟨rfl,x9.out,lZ.out⟩
         ·obtain rfl:j=kn:=by omega
          rw[bD (by omega)]at jC;have MJ:=ae sK;clear hwr heq sK iV;go_wp2_with fail;refine HQ _ _ _ ?_;rw[<-jC.out,bB];exact aR (v:= .bool true) (by simp[results,results59,go_sem]) rfl ⟨rfl,MJ.out,mK.out⟩
       ·clear h2;go_enter func59,ntmps59;refine ak λQ HQ=>?_;go_wp2_with fail;refine El.mono ?_;rintro e w1 ⟨rfl,hb1⟩;have bn:=ae ((aj w _).trans (hb1.mono (aj w _).size));have aV:=ed.below hb1 ed.lt;have m8:=ae aV;have x0:=aV.cell (j:=0) rfl;have x1:=aV.cell (j:=1) rfl;have x2:=aV.cell (j:=2) rfl;have x3:=aV.cell (j:=3) rfl;have x4:=aV.cell (j:=4) rfl;have xl:=aV.lt;have hr1:=HR.below bn.out;have iK:=ae hr1;have r4:w1.cell? ⟨ab,4,none⟩=some (.int .i64 a.ay):=Row.cell hr1 rfl;have rl:=Row.lt hr1;clear hb1 aV hr1;go_wp2_with fail;go_quiet ((go_at_call 38;exact Calls.quiet_of_same ((gU _).mono λ_ _ h=>⟨h.1,h.2.symm⟩)));go_wp2_with fail
        go_loopw [70] (λi wr=>∃(j:Nat)(m:Int),i= .int .i64 j/\j<=kn/\0<=m/\m<=8000/\bB g.ay g.az.length p.ax.length (ks.drop j) m=bB g.ay g.az.length p.ax.length ks n/\ry wr ab a m/\Wr (λk=>k=ab) w wr) (λi _=>kn-(intOf i).toNat)
        case atStart=>exact⟨0,n,rfl,by omega,BO,jw,rfl,HR.below (below_drewN bn _),Wr.of_below (below_drewN bn _)⟩
        case round=>
         obtain⟨j,m,rfl,hj,mX,mr,heq,sK,hwr⟩:=hrel;have jC:=ae heq;have mK:=ae hwr;have fV:=hwr.size;have iV:Below B w wr:=hwr.below hB (λk hk=>by omega);by_cases hlt:j<kn
         ·obtain⟨b,off,k,u0,u1,u2,rfl,hb,bA,k0,k1,k2,ht⟩:=(HK.below iV (aN _)).get hlt;obtain⟨a0,b0,A1,n1,c1,rfl,rfl,rfl⟩:=ht.eH;have HC:=ae (lM a ab m k B (wr.alloc (.cells #[.int .i64 a0,.int .i64 b0,.slice A1 n1 c1] 90)) _ _ _ (by simp;omega) (ht.below ((aj wr _).mono (by omega)) (aN _)) (sK.below (aj wr _)) mX (by omega));rw[HA.ay,HA.nl,HA.ng]at HC;have iw:=ae bA;have EA:(j:Int)<(kn:Int):=by omega
          have hbl:b<wr.heap.size:=by omega
          have IK:ab<wr.heap.size:=by omega
          clear bA ht heq hwr sK iV;cases hg1:(bS g.ay g.az.length p.ax.length m k).1 with
          |true=>
           have HG:=ae hg1;have dO:=iW hg1 mX;simp only[fE]at HC;rw[hg1]at HC;clear hg1;go_wp2_with fail;refine HC.mono ?_;rintro e w3 ⟨rfl,hr3,hw3⟩;have x9:=ae hr3;have lZ:=ae ((mK.trans (di (aj wr (.cells #[.int .i64 a0,.int .i64 b0,.slice A1 n1 c1] 90))) (λ_ h=>h.elim)).trans hw3 (λ_ h=>aH h));clear hr3 hw3;go_wp2_with fail;go_roundw
           case rel=>exact⟨j+1,(bS g.ay g.az.length p.ax.length m k).2,by go_num,by omega,dO.1,dO.2,by have h9:=jC.out;rw[b8 iw.out,bB,if_pos HG.out]at h9;exact h9,x9.out,lZ.out⟩
           case measure=>simp[intOf];omega
          |false=>
           have HG:=ae hg1;simp only[fE]at HC;rw[hg1]at HC;clear hg1;go_wp2_with fail;refine HC.mono ?_;rintro e w3 ⟨rfl,hr3,hw3⟩;have x9:=ae hr3;have lZ:=ae ((mK.trans (di (aj wr (.cells #[.int .i64 a0,.int .i64 b0,.slice A1 n1 c1] 90))) (λ_ h=>h.elim)).trans hw3 (λ_ h=>aH h));clear hr3 hw3;go_wp2_with fail;refine HQ _ _ _ ?_;have j4:bB g.ay g.az.length p.ax.length ks n=(false,(bS g.ay g.az.length p.ax.length m k).2):=by
            rw[<-jC.out,b8 iw.out,bB,if_neg (by rw[HG.out];simp)]
           rw[j4];exact aR (v:= .bool false) (by simp[results,results59,go_sem]) rfl ⟨rfl,x9.out,lZ.out⟩
         ·obtain rfl:j=kn:=by omega
          rw[bD (by omega)]at jC;have MJ:=ae sK;clear hwr heq sK iV;go_wp2_with fail;refine HQ _ _ _ ?_;rw[<-jC.out,bB];exact aR (v:= .bool true) (by simp[results,results59,go_sem]) rfl ⟨rfl,MJ.out,mK.out⟩
       ·have e7:(op !=2)=true:=by simpa using h7
        have e8:(op !=3)=true:=by simpa using h8
        clear h2 h7 h8;go_enter func59,ntmps59;refine ak λQ HQ=>?_;go_wp2_with fail;refine El.mono ?_;rintro e w1 ⟨rfl,hb1⟩;have bn:=ae ((aj w _).trans (hb1.mono (aj w _).size));have aV:=ed.below hb1 ed.lt;have m8:=ae aV;have x0:=aV.cell (j:=0) rfl;have x1:=aV.cell (j:=1) rfl;have x2:=aV.cell (j:=2) rfl;have x3:=aV.cell (j:=3) rfl;have x4:=aV.cell (j:=4) rfl;have xl:=aV.lt;have hr1:=HR.below bn.out;have iK:=ae hr1;have r4:w1.cell? ⟨ab,4,none⟩=some (.int .i64 a.ay):=Row.cell hr1 rfl;have rl:=Row.lt hr1;clear hb1 aV hr1;go_wp2_with fail;go_quiet ((go_at_call 38;exact Calls.quiet_of_same ((gU _).mono λ_ _ h=>⟨h.1,h.2.symm⟩)));go_wp2_with fail
        go_loopw [70] (λi wr=>∃(j:Nat)(m:Int),i= .int .i64 j/\j<=kn/\0<=m/\m<=8000/\bB g.ay g.az.length p.ax.length (ks.drop j) m=bB g.ay g.az.length p.ax.length ks n/\ry wr ab a m/\Wr (λk=>k=ab) w wr) (λi _=>kn-(intOf i).toNat)
        case atStart=>exact⟨0,n,rfl,by omega,BO,jw,rfl,HR.below (below_drewN bn _),Wr.of_below (below_drewN bn _)⟩
        case round=>
         obtain⟨j,m,rfl,hj,mX,mr,heq,sK,hwr⟩:=hrel;have jC:=ae heq;have mK:=ae hwr;have fV:=hwr.size;have iV:Below B w wr:=hwr.below hB (λk hk=>by omega);by_cases hlt:j<kn
         ·obtain⟨b,off,k,u0,u1,u2,rfl,hb,bA,k0,k1,k2,ht⟩:=(HK.below iV (aN _)).get hlt;obtain⟨a0,b0,A1,n1,c1,rfl,rfl,rfl⟩:=ht.eH;have HC:=ae (lM a ab m k B (wr.alloc (.cells #[.int .i64 a0,.int .i64 b0,.slice A1 n1 c1] 90)) _ _ _ (by simp;omega) (ht.below ((aj wr _).mono (by omega)) (aN _)) (sK.below (aj wr _)) mX (by omega));rw[HA.ay,HA.nl,HA.ng]at HC;have iw:=ae bA;have EA:(j:Int)<(kn:Int):=by omega
          have hbl:b<wr.heap.size:=by omega
          have IK:ab<wr.heap.size:=by omega
          clear bA ht heq hwr sK iV;cases hg1:(bS g.ay g.az.length p.ax.length m k).1 with
          |true=>
           have HG:=ae hg1;have dO:=iW hg1 mX;simp only[fE]at HC;rw[hg1]at HC;clear hg1;go_wp2_with fail;refine HC.mono ?_;rintro e w3 ⟨rfl,hr3,hw3⟩;have x9:=ae hr3;have lZ:=ae ((mK.trans (di (aj wr (.cells #[.int .i64 a0,.int .i64 b0,.slice A1 n1 c1] 90))) (λ_ h=>h.elim)).trans hw3 (λ_ h=>aH h));clear hr3 hw3;go_wp2_with fail;go_roundw
           case rel=>exact⟨j+1,(bS g.ay g.az.length p.ax.length m k).2,by go_num,by omega,dO.1,dO.2,by have h9:=jC.out;rw[b8 iw.out,bB,if_pos HG.out]at h9;exact h9,x9.out,lZ.out⟩
           case measure=>simp[intOf];omega
          |false=>
           have HG:=ae hg1;simp only[fE]at HC;rw[hg1]at HC;clear hg1;go_wp2_with fail;refine HC.mono ?_;rintro e w3 ⟨rfl,hr3,hw3⟩;have x9:=ae hr3;have lZ:=ae ((mK.trans (di (aj wr (.cells #[.int .i64 a0,.int .i64 b0,.slice A1 n1 c1] 90))) (λ_ h=>h.elim)).trans hw3 (λ_ h=>aH h));clear hr3 hw3;go_wp2_with fail;refine HQ _ _ _ ?_;have j4:bB g.ay g.az.length p.ax.length ks n=(false,(bS g.ay g.az.length p.ax.length m k).2):=by
            rw[<-jC.out,b8 iw.out,bB,if_neg (by rw[HG.out];simp)]
           rw[j4];exact aR (v:= .bool false) (by simp[results,results59,go_sem]) rfl ⟨rfl,x9.out,lZ.out⟩
         ·obtain rfl:j=kn:=by omega
          rw[bD (by omega)]at jC;have MJ:=ae sK;clear hwr heq sK iV;go_wp2_with fail;refine HQ _ _ _ ?_;rw[<-jC.out,bB];exact aR (v:= .bool true) (by simp[results,results59,go_sem]) rfl ⟨rfl,MJ.out,mK.out⟩
    ·have e3:(to != -1)=true:=by simpa using h3
     have gU:=ae (show∀W,Calls prog 38 #[.int .i64 to,.int .i64 a.ay] W λe w'=>e= .returned (.bool (decide (0<=to/\to<a.ay)))/\W=w' from λW=>cQ to a.ay W);rw[show cR p g n ⟨op,to,size,fn,ks⟩=(false,n)from by unfold cR;rw[if_pos (show lD p g ⟨op,to,size,fn,ks⟩from by unfold lD;rw[Uy];exact aT (aT (aT ⟨rfl,h3⟩)))]];clear h2 IM h3;go_enter func59,ntmps59;refine ak λQ HQ=>?_;go_wp2_with fail;refine El.mono ?_;rintro e w1 ⟨rfl,hb1⟩;have bn:=ae ((aj w _).trans (hb1.mono (aj w _).size));have aV:=ed.below hb1 ed.lt;have m8:=ae aV;have x0:=aV.cell (j:=0) rfl;have x1:=aV.cell (j:=1) rfl;have x2:=aV.cell (j:=2) rfl;have x3:=aV.cell (j:=3) rfl;have x4:=aV.cell (j:=4) rfl
     have xl:=aV.lt;have hr1:=HR.below bn.out;have iK:=ae hr1;have r4:w1.cell? ⟨ab,4,none⟩=some (.int .i64 a.ay):=Row.cell hr1 rfl;have rl:=Row.lt hr1;clear hb1 aV hr1;go_wp2_with fail;go_quiet ((go_at_call 38;exact Calls.quiet_of_same ((gU _).mono λ_ _ h=>⟨h.1,h.2.symm⟩)));go_wp2_with fail;refine HQ _ _ _ ?_;exact aR (v:= .bool false) (by simp[results,results59,go_sem]) rfl ⟨rfl,HR.below (below_drewN bn _),Wr.of_below (below_drewN bn _)⟩
  ·have e2:((kn:Int) !=ar)=true:=by simpa using h2
   have gU:=ae (show∀W,Calls prog 38 #[.int .i64 to,.int .i64 a.ay] W λe w'=>e= .returned (.bool (decide (0<=to/\to<a.ay)))/\W=w' from λW=>cQ to a.ay W);rw[show cR p g n ⟨op,to,size,fn,ks⟩=(false,n)from by unfold cR;rw[if_pos (show lD p g ⟨op,to,size,fn,ks⟩from by unfold lD;rw[Uy];exact aT (aH (by simp only;omega)))]];clear h2;go_enter func59,ntmps59;refine ak λQ HQ=>?_;go_wp2_with fail;refine El.mono ?_;rintro e w1 ⟨rfl,hb1⟩;have bn:=ae ((aj w _).trans (hb1.mono (aj w _).size));have aV:=ed.below hb1 ed.lt;have m8:=ae aV;have x0:=aV.cell (j:=0) rfl;have x1:=aV.cell (j:=1) rfl;have x2:=aV.cell (j:=2) rfl;have x3:=aV.cell (j:=3) rfl;have x4:=aV.cell (j:=4) rfl
   have xl:=aV.lt;have hr1:=HR.below bn.out;have iK:=ae hr1;have r4:w1.cell? ⟨ab,4,none⟩=some (.int .i64 a.ay):=Row.cell hr1 rfl;have rl:=Row.lt hr1;clear hb1 aV hr1;go_wp2_with fail;go_quiet ((go_at_call 38;exact Calls.quiet_of_same ((gU _).mono λ_ _ h=>⟨h.1,h.2.symm⟩)));go_wp2_with fail;refine HQ _ _ _ ?_;exact aR (v:= .bool false) (by simp[results,results59,go_sem]) rfl ⟨rfl,HR.below (below_drewN bn _),Wr.of_below (below_drewN bn _)⟩
end Go.Proofs.YtikbdplllopjlaaGreat
