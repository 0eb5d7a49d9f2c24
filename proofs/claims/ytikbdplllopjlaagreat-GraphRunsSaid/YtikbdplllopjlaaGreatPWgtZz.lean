/- ProgWeight: it answers some number. Conditions: as stated. -/
import Derived.Test.YtikbdplllopjlaaGreatQ12Zz
import Derived.Test.YtikbdplllopjlaaGreatQ04Zz
set_option linter.unusedVariables false
set_option linter.unusedSimpArgs false
set_option maxHeartbeats 8000000
set_option maxRecDepth 100000
open Go.Proofs.Tryz
namespace Go.Proofs.YtikbdplllopjlaaGreat
open Go.RowKit
theorem bH.eH{w:World}{B:Nat}{P:Value×Value×Value}{p:aM}(h:bH w B P p):∃GA gc FA fc,P=(.slice GA p.ax.length gc,.slice FA p.funcs.length fc,.int .i64 p.main):=by
 obtain⟨P0,P1,P2⟩:=P;obtain⟨⟨A,c,h0,_⟩,⟨A',c',h1,_⟩,h2,_⟩:=h;simp only at h0 h1 h2;exact⟨_,_,_,_,by rw[h0,h1,h2]⟩
theorem Nq(p:aM)(P:Value×Value×Value)(B:Nat)(w:World)(hB:B<=w.heap.size)(hP:bH w B P p)(yF:p.ax.length<=200000000000000)(qV:∀g,g∈p.funcs->g.az.length<=200000000000000):
  Calls prog 18 #[.agg #[P.1,P.2.1,P.2.2]] w λe w'=>∃n:Int,e= .returned (.int .i64 n)/\0<=n/\n<=1000000000000000/\Below w.heap.size w w':=by
 obtain⟨GA,gc,FA,fc,rfl⟩:=hP.eH;have tq:=hP.2.1.len.2;have HP:=ae hP;have Kn:=ae qV;clear hP qV;go_enter func18,ntmps18;refine ak λQ HQ=>?_;go_wp2_with fail;go_loopw [3,4] (λnn i wr=>∃(k:Nat)(n:Int),nn= .int .i64 n/\i= .int .i64 k/\k<=p.funcs.length/\0<=n/\n<=1000000000000000/\Below w.heap.size w wr/\Row wr w.heap.size #[.slice GA p.ax.length gc,.slice FA p.funcs.length fc,.int .i64 p.main] 31) (λ_ i _=>p.funcs.length-(intOf i).toNat)
 case atStart=>exact⟨0,p.ax.length,rfl,rfl,by omega,by omega,by omega,aj w _,Row.new w _ _⟩
 case round=>
  obtain⟨k1,n1,rfl,rfl,bA,hn01,Ci,hb1,qK⟩:=hrel;obtain⟨w1,rfl⟩:∃w1:World,w1=wr:=⟨_,rfl⟩
  have hz1:=hb1.size;have bn:=ae hb1;clear hb1;have WH:=ae qK;clear qK;have p1:=WH.cell (j:=1) rfl;have pl:=WH.lt;by_cases hgo:k1<p.funcs.length/\n1<1048576
  ·obtain⟨Lk,hnl1⟩:=hgo;have GR:decide ((k1:Int)<(p.funcs.length:Int))=true:=by simpa using Lk
   have TE:decide (n1<1048576)=true:=by simpa using hnl1
   have hkl1:(k1:Int)<(p.funcs.length:Int):=by omega
   obtain⟨fb,lN,g,hfa,x8,GQ,z0,z1,⟨lv,z2,hlv⟩,⟨bv,z3,GS⟩,_,_⟩:=HP.2.1.get Lk;subst hfa;obtain⟨⟨LA,lc,Oj,_⟩,⟨BA,bc,Oy,_⟩⟩:=And.intro hlv GS;subst Oj Oy;have jb:=Kn.out g (List.mem_of_getElem? GQ);have hblen:=GS.len.2;have PJ:=ae GS;have HG:=ae (λ(W:World)(hW:Below w.heap.size w W)=>(⟨(hW.cell (p:=⟨fb,_,none⟩) (show fb<w.heap.size by omega)).trans z2,(hW.cell (p:=⟨fb,_,none⟩) (show fb<w.heap.size by omega)).trans z3⟩:W.cell? ⟨fb,lN+k1*4+2,none⟩=some (.slice LA g.az.length lc)/\W.cell? ⟨fb,lN+k1*4+3,none⟩=some (.slice BA g.blocks.length bc)));have z2':=(HG.out w1 bn.out).1;have UX:fb<w1.heap.size:=by omega
   clear hlv GS GQ z0 z1 z2 z3;go_wp2_with fail;go_loopw [3,5] (λnn i wr=>∃(k:Nat)(n:Int),nn= .int .i64 n/\i= .int .i64 k/\k<=g.blocks.length/\0<=n/\n<=1000000000000000/\Below w.heap.size w wr/\Row wr w.heap.size #[.slice GA p.ax.length gc,.slice (some ⟨fb,lN,none⟩) p.funcs.length fc,.int .i64 p.main] 31) (λ_ i _=>g.blocks.length-(intOf i).toNat)
   case atStart=>exact⟨0,n1+1+g.az.length,rfl,rfl,by omega,by omega,by omega,bn.out,WH.out⟩
   case round=>
    obtain⟨k2,n2,rfl,rfl,hk2,hn02,hn12,hb2,P7⟩:=hrel;obtain⟨w2,rfl⟩:∃w2:World,w2=wr:=⟨_,rfl⟩
    have hz2:=hb2.size;have bL:=ae hb2;clear hb2;have Zk:=ae P7;clear P7;have p1:=Zk.cell (j:=1) rfl;have pl:=Zk.lt;have z3:=(HG.out w2 bL.out).2;have hfbl2:fb<w2.heap.size:=by omega
    have hkl1':(k1:Int)<(p.funcs.length:Int):=by omega
    by_cases hgo:k2<g.blocks.length/\n2<1048576
    ·obtain⟨mA,hnl2⟩:=hgo;have GR:decide ((k2:Int)<(g.blocks.length:Int))=true:=by simpa using mA
     have TE:decide (n2<1048576)=true:=by simpa using hnl2
     have hkl2:(k2:Int)<(g.blocks.length:Int):=by omega
     obtain⟨bb,zW,b,Cm,qX,df,⟨sv,b0,rR⟩,b1,⟨cv0,cv1,cv2,b2,b3,b4,lW⟩,b5,b6,_,_,_⟩:=PJ.get mA;subst Cm;obtain⟨SA,sc,NZ⟩:∃SA sc,sv= .slice SA b.steps.length sc:=(by obtain⟨A',c',h,_⟩:=rR;exact⟨_,_,h⟩)
     subst NZ;obtain⟨ca,cb,CA,cl,cc,rfl,rfl,rfl⟩:=lW.eH;have Fk:=rR.len.2;have HS:=ae (λ(W:World)(hW:Below w.heap.size w W)=>rR.below (hW.mono hB) (aN _) (λ_ _ h=>h.below (hW.mono hB) (aN _)));simp only[Nat.add_zero]at b0 b1 b2 b3 b4 b5 b6;have KB:∀(j:Nat)(v:Value),w.cell? ⟨bb,j,none⟩=some v->w2.cell? ⟨bb,j,none⟩=some v:=λj v h=>(bL.cell (p:=⟨bb,j,none⟩) (show bb<w.heap.size by omega)).trans h;replace b0:=KB _ _ b0;replace b1:=KB _ _ b1;replace b2:=KB _ _ b2;replace b3:=KB _ _ b3;replace b4:=KB _ _ b4;replace b5:=KB _ _ b5;replace b6:=KB _ _ b6;have dO:=Dj b.cond 100 (by omega);have QW:=aj w2 (.cells #[.slice SA b.steps.length sc,.int .i64 b.fin,.int .i64 ca,.int .i64 cb,.slice CA cl cc,.int .i64 b.next,.int .i64 b.els] 93)
     have HWB:=ae (bL.trans (QW.mono hz2));have HC:=ae (JM b.cond.size b.cond 100 B (w2.alloc (.cells #[.slice SA b.steps.length sc,.int .i64 b.fin,.int .i64 ca,.int .i64 cb,.slice CA cl cc,.int .i64 b.next,.int .i64 b.els] 93)) _ _ _ (aN _) (by simp;omega) (lW.below ((bL.trans (QW.mono hz2)).mono hB) (aN _)) (by omega) (by omega));obtain⟨q2,hq⟩:∃q,q=Kt b.cond 100:=⟨_,rfl⟩
     rw[<-hq]at HC dO;obtain⟨OC,OB⟩:=dO;have Ro:bb<w2.heap.size:=by omega
     clear hq lW rR df QW KB;go_wp2_with fail;refine HC.mono ?_;rintro e w9 ⟨rfl,Rp⟩;have ZG:=ae (HWB.trans (Rp.mono HWB.size));have HP9:=ae ((Zk.alloc (.cells #[.slice SA b.steps.length sc,.int .i64 b.fin,.int .i64 ca,.int .i64 cb,.slice CA cl cc,.int .i64 b.next,.int .i64 b.els] 93)).below Rp (by have:=Zk.lt;simp;omega));have HBB9:=ae ((Row.new w2 #[.slice SA b.steps.length sc,.int .i64 b.fin,.int .i64 ca,.int .i64 cb,.slice CA cl cc,.int .i64 b.next,.int .i64 b.els] 93).below Rp (by simp));clear Rp;go_wp2_with fail
     go_loopw [3,7] (λnn i wr=>∃(k:Nat)(n:Int),nn= .int .i64 n/\i= .int .i64 k/\k<=b.steps.length/\0<=n/\n<=1000000000000000/\Below w.heap.size w wr/\Row wr w.heap.size #[.slice GA p.ax.length gc,.slice (some ⟨fb,lN,none⟩) p.funcs.length fc,.int .i64 p.main] 31/\Row wr w2.heap.size #[.slice SA b.steps.length sc,.int .i64 b.fin,.int .i64 ca,.int .i64 cb,.slice CA cl cc,.int .i64 b.next,.int .i64 b.els] 93) (λ_ i _=>b.steps.length-(intOf i).toNat)
     case atStart=>exact⟨0,n2+1+q2,rfl,rfl,by omega,by omega,by omega,ZG.out,HP9.out,HBB9.out⟩
     case round=>
      obtain⟨k3,n3,rfl,rfl,hk3,hn03,hn13,hb3,UC,YA⟩:=hrel;obtain⟨w3,rfl⟩:∃w3:World,w3=wr:=⟨_,rfl⟩
      have hz3:=hb3.size;have jd:=ae hb3;clear hb3;have BR:=ae UC;have V9:=ae YA;clear UC YA;have y0:=V9.cell (j:=0) rfl;have yl:=V9.lt;by_cases hgo:k3<b.steps.length/\n3<1048576
      ·obtain⟨xe,hnl3⟩:=hgo;have GR:decide ((k3:Int)<(b.steps.length:Int))=true:=by simpa using xe
       have TE:decide (n3<1048576)=true:=by simpa using hnl3
       have X9:(k3:Int)<(b.steps.length:Int):=by omega
       obtain⟨xb,Ks,x,GJ,Z3,hsk,_,_,_,_,⟨xv,x4,hxt⟩,_⟩:=(HS.out w (bI _ _)).get xe;obtain⟨XA,xn,xc,rfl,Ld⟩:=hxt;subst GJ;have hxn:=Ld.2.1;have HX:=ae (λ(W:World)(hW:Below w.heap.size w W)=>(⟨(hW.cell (p:=⟨xb,_,none⟩) (show xb<w.heap.size by omega)).trans x4,Ld.below (hW.mono hB) (aN _)⟩:W.cell? ⟨xb,Ks+k3*5+4,none⟩=some (.slice XA xn xc)/\bC W B x.args XA xn));have NV:xb<w3.heap.size:=by omega
       clear hsk Ld x4;go_wp2_with fail;go_loopw [3,8] (λnn i wr=>∃(k:Nat)(n:Int),nn= .int .i64 n/\i= .int .i64 k/\k<=xn/\0<=n/\n<=1000000000000000/\Below w.heap.size w wr/\Row wr w.heap.size #[.slice GA p.ax.length gc,.slice (some ⟨fb,lN,none⟩) p.funcs.length fc,.int .i64 p.main] 31/\Row wr w2.heap.size #[.slice (some ⟨xb,Ks,none⟩) b.steps.length sc,.int .i64 b.fin,.int .i64 ca,.int .i64 cb,.slice CA cl cc,.int .i64 b.next,.int .i64 b.els] 93) (λ_ i _=>xn-(intOf i).toNat)
       case atStart=>exact⟨0,n3+1,rfl,rfl,by omega,by omega,by omega,jd.out,BR.out,V9.out⟩
       case round=>
        obtain⟨k4,n4,rfl,rfl,hk4,hn04,hn14,hb4,P6,Yz⟩:=hrel;obtain⟨w4,rfl⟩:∃w4:World,w4=wr:=⟨_,rfl⟩
        have yC:=hb4.size;have gN:=ae hb4;clear hb4;have Db:=ae P6;have JG:=ae Yz;clear P6 Yz;obtain⟨y4',_⟩:=HX.out w4 gN.out;have y0':=JG.cell (j:=0) rfl;have yl':=JG.lt;have hxbl':xb<w4.heap.size:=by omega
        have hkl3':(k3:Int)<(b.steps.length:Int):=by omega
        by_cases hgo:k4<xn/\n4<1048576
        ·obtain⟨UJ,hnl4⟩:=hgo;have GR:decide ((k4:Int)<(xn:Int))=true:=by simpa using UJ
         have TE:decide (n4<1048576)=true:=by simpa using hnl4
         have hkl4:(k4:Int)<(xn:Int):=by omega
         obtain⟨y4,hkx⟩:=HX.out w4 gN.out;obtain⟨tb,toff,tt,v0,v1,v2,hta,Q1,htk,t0,t1,t2,ht⟩:=hkx.get UJ;subst hta;have dO:=Dj tt 100 (by omega);have HC:=ae (JM tt.size tt 100 B w4 v0 v1 v2 (aN _) (by omega) ht (by omega) (by omega));obtain⟨q,hq⟩:∃q,q=Kt tt 100:=⟨_,rfl⟩
         rw[<-hq]at HC dO;obtain⟨OC,OB⟩:=dO;have y0:=JG.cell (j:=0) rfl;have yl:=JG.lt;have htbl:tb<w4.heap.size:=by omega
         have NV:xb<w4.heap.size:=by omega
         clear hq ht htk hkx;go_wp2_with fail;refine HC.mono ?_;rintro e w9 ⟨rfl,Rp⟩;have ZG:=ae Rp;clear Rp;go_wp2_with fail;go_roundw
         case rel=>exact⟨k4+1,n4+q,by go_num,by go_num,by omega,by omega,by omega,gN.trans (ZG.mono yC),Db.below ZG.out Db.lt,JG.below ZG.out JG.lt⟩
         case measure=>simp[intOf];omega
        ·have GL:decide (k4<xn)=false\/(decide (k4<xn)=true/\decide (n4<1048576)=false):=by
          by_cases hlt:k4<xn
          ·exact aT ⟨by simpa using hlt,by simp;exact Int.not_lt.1 (λh=>hgo ⟨hlt,h⟩)⟩
          ·exact aH (by simp;omega)
         clear hgo;rcases GL with hd|⟨hd,zQ⟩
         all_goals
          go_wp2_with fail;go_roundw
          case rel=>exact⟨k3+1,n4,by go_num,by go_num,by omega,by omega,by omega,gN.out,Db.out,JG.out⟩
          case measure=>simp[intOf];omega
      ·have GL:decide (k3<b.steps.length)=false\/(decide (k3<b.steps.length)=true/\decide (n3<1048576)=false):=by
        by_cases hlt:k3<b.steps.length
        ·exact aT ⟨by simpa using hlt,by simp;exact Int.not_lt.1 (λh=>hgo ⟨hlt,h⟩)⟩
        ·exact aH (by simp;omega)
       clear hgo;rcases GL with hd|⟨hd,zQ⟩
       all_goals
        go_wp2_with fail;go_roundw
        case rel=>exact⟨k2+1,n3,by go_num,by go_num,by omega,by omega,by omega,jd.out,BR.out⟩
        case measure=>simp[intOf];omega
    ·have GL:decide (k2<g.blocks.length)=false\/(decide (k2<g.blocks.length)=true/\decide (n2<1048576)=false):=by
      by_cases hlt:k2<g.blocks.length
      ·exact aT ⟨by simpa using hlt,by simp;exact Int.not_lt.1 (λh=>hgo ⟨hlt,h⟩)⟩
      ·exact aH (by simp;omega)
     clear hgo;rcases GL with hd|⟨hd,zQ⟩
     all_goals
      go_wp2_with fail;go_roundw
      case rel=>exact⟨k1+1,n2,by go_num,by go_num,by omega,by omega,by omega,bL.out,Zk.out⟩
      case measure=>simp[intOf];omega
  ·have GL:decide (k1<p.funcs.length)=false\/(decide (k1<p.funcs.length)=true/\decide (n1<1048576)=false):=by
    by_cases hlt:k1<p.funcs.length
    ·exact aT ⟨by simpa using hlt,by simp;exact Int.not_lt.1 (λh=>hgo ⟨hlt,h⟩)⟩
    ·exact aH (by simp;omega)
   clear hgo;rcases GL with hd|⟨hd,zQ⟩
   all_goals
    go_wp2_with fail;refine HQ _ _ _ ?_;exact aR (v:= .int .i64 n1) (by simp[results,results18,go_sem]) rfl ⟨n1,rfl,by omega,by omega,bn.out⟩
end Go.Proofs.YtikbdplllopjlaaGreat
