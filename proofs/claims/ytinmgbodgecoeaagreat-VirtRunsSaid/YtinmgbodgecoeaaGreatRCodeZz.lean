/- The page's Code: may a function be? Conditions: as stated. -/
import Derived.Test.YtinmgbodgecoeaaGreatRFormDZz
import Derived.Test.YtinmgbodgecoeaaGreatQ13Zz
import Derived.Deep.CutRange
set_option linter.unusedSimpArgs false
set_option linter.unusedVariables false
set_option maxHeartbeats 8000000
set_option maxRecDepth 100000
open Go.Proofs.Tryz
namespace Go.Proofs.YtinmgbodgecoeaaGreat
open Go.RowKit
def Ax(c:aR)(x:bg):Bool:=(!(bE x).1||mG x.dst (c.regs-1))&& ((!(bE x).2.1||mG x.a (c.regs-1))&& (!(bE x).2.2.1||mG x.b (c.regs-1)))
def J4(c:aR)(ng:Int)(pl:List Int)(pre:List bg)(x:bg):Bool:=
 bD c.az.length ng pl x && (Ax c x && ((!(bE x).2.2.2||mF x.arg c.regs)&& (!(decide (x.op=14)&& dh pre x.n)&& (!decide (x.op=15\/x.op=16)||dh c.ins x.n))))
def wW(c:aR)(ng:Int)(pl:List Int):Nat->Bool
 |0=>true
 |k+1=>wW c ng pl k && J4 c ng pl (c.ins.take k) (c.ins.getD k ⟨0,0,0,0,0,[]⟩)
def DI(c:aR):Prop:=mG c.params 4=true/\¬c.params>c.regs/\¬c.regs>8000/\fR c.az 400=true/\oO c.ins.length 1 8000=true
instance(c:aR):Decidable (DI c):=by unfold DI;exact inferInstance
def pN(c:aR)(ng:Int)(pl:List Int):Bool:=if DI c then(wW c ng pl c.ins.length && nZ c)else false
theorem xZ{c:aR}{ng:Int}{pl:List Int}{k:Nat}{x:bg}(h:c.ins[k]? =some x):wW c ng pl (k+1)=(wW c ng pl k && J4 c ng pl (c.ins.take k) x):=by
 rw[wW,List.getD_eq_getElem?_getD,h,Option.getD_some]
theorem SZ{c:aR}{ng:Int}{pl:List Int}{k:Nat}(h:wW c ng pl k=false):∀m,k<=m->wW c ng pl m=false:=by
 intro m hm
 induction m with
 |zero=>
  have e:k=0:=by omega
  subst e
  exact h
 |succ m ih=>
  by_cases he:k=m+1
  ·rw[<-he];exact h
  ·rw[wW,ih (by omega),Bool.false_and]
theorem tI{c:aR}{ng:Int}{pl:List Int}{k:Nat}{x:bg}(h:c.ins[k]? =some x)(hx:J4 c ng pl (c.ins.take k) x=false):wW c ng pl c.ins.length=false:=
 SZ (k:=k+1) (by rw[xZ h,hx,Bool.and_false]) _ (List.getElem?_eq_some_iff.1 h).1
theorem O3{c:aR}{x:bg}(h:c.ins[c.ins.length-1]? =some x):nZ c=decide (x.op=15\/x.op=17\/x.op=13):=by
 unfold nZ;rw[List.getD_eq_getElem?_getD,h];rfl
theorem Mo(c:aR)(LA:Option Addr)(lc:Nat)(BA:Option Addr)(bc:Nat)(ng:Int)(pl:List Int)(PA:Option Addr)(pc B:Nat)(w:World)(hB:B<=w.heap.size)(hL:SliceAt w B 3 (sG w B) c.az (.slice LA c.az.length lc))(hK:SliceAt w B 6 (kI w B) c.ins (.slice BA c.ins.length bc))(hp:aD w B pl (.slice PA pl.length pc)):
  Calls prog 21 #[.agg #[.int .i64 c.params,.int .i64 c.regs,.slice LA c.az.length lc,.slice BA c.ins.length bc],.int .i64 ng,.slice PA pl.length pc] w λe w'=>e= .returned (.bool (pN c ng pl))/\Below w.heap.size w w':=by
 have N8:=ae (oQ c.params 4 (w.alloc (.cells #[.int .i64 c.params,.int .i64 c.regs,.slice LA c.az.length lc,.slice BA c.ins.length bc] 54)));have HO:=ae (λW(hW:Below w.heap.size w W)=>F8 c.az LA c.az.length lc 400 B W (by have:=hW.size;omega) (hL.below (hW.mono hB) (aY _) (λ_ _ h=>h.below (hW.mono hB) (aY _))));have QR:=ae (λW=>tG (c.ins.length:Int) 1 8000 W);have HK:=ae hK;have HP:=ae hp;have Zo:=hK.len.2;have xx:=ae (Row.new w #[.int .i64 c.params,.int .i64 c.regs,.slice LA c.az.length lc,.slice BA c.ins.length bc] 54);obtain⟨Z,hZ,ZU,hmk⟩:=JV;have HZ:=ae (And.intro hZ ZU);clear hL hK hp hZ ZU;cases c1:mG c.params 4 with
 |false=>
  rw[c1]at N8;have HE:=ae (show pN c ng pl=false from by unfold pN;rw[if_neg (λh=>absurd h.1 (by rw[c1];decide))]);clear c1;go_enter func21,ntmps21;refine aj λQ HQ=>?_;go_wp2_with fail;refine N8.mono ?_;rintro e w' ⟨rfl,rfl⟩;go_wp2_with fail;refine HQ _ _ _ ?_;exact aS (v:= .bool false) (by simp[results,results21,go_sem]) rfl ⟨by rw[HE.out],ax _ _⟩
 |true=>
  rw[c1]at N8;by_cases c2:c.params>c.regs
  ·have d2:decide (c.regs<c.params)=true:=by simpa using c2
   have HE:=ae (show pN c ng pl=false from by unfold pN;rw[if_neg (λh=>absurd c2 h.2.1)]);clear c1 c2;go_enter func21,ntmps21;refine aj λQ HQ=>?_;go_wp2_with fail;refine N8.mono ?_;rintro e w' ⟨rfl,rfl⟩;go_wp2_with fail;refine HQ _ _ _ ?_;exact aS (v:= .bool false) (by simp[results,results21,go_sem]) rfl ⟨by rw[HE.out],ax _ _⟩
  ·have d2:decide (c.regs<c.params)=false:=by simpa using c2
   by_cases c3:c.regs>8000
   ·have d3:decide (8000<c.regs)=true:=by simpa using c3
    have HE:=ae (show pN c ng pl=false from by unfold pN;rw[if_neg (λh=>absurd c3 h.2.2.1)]);clear c1 c2 c3;go_enter func21,ntmps21;refine aj λQ HQ=>?_;go_wp2_with fail;refine N8.mono ?_;rintro e w' ⟨rfl,rfl⟩;go_wp2_with fail;refine HQ _ _ _ ?_;exact aS (v:= .bool false) (by simp[results,results21,go_sem]) rfl ⟨by rw[HE.out],ax _ _⟩
   ·have d3:decide (8000<c.regs)=false:=by simpa using c3
    cases c4:fR c.az 400 with
    |false=>
     rw[c4]at HO;have HE:=ae (show pN c ng pl=false from by unfold pN;rw[if_neg (λh=>absurd h.2.2.2.1 (by rw[c4];decide))]);clear c1 c2 c3 c4;go_enter func21,ntmps21;refine aj λQ HQ=>?_;go_wp2_with fail;refine N8.mono ?_;rintro e w' ⟨rfl,rfl⟩;go_wp2_with fail;refine(HO _ (ax w _)).mono ?_;rintro e w1 ⟨rfl,hb1⟩;have bQ:=ae ((ax w (.cells #[.int .i64 c.params,.int .i64 c.regs,.slice LA c.az.length lc,.slice BA c.ins.length bc] 54)).trans (hb1.mono (ax w (.cells #[.int .i64 c.params,.int .i64 c.regs,.slice LA c.az.length lc,.slice BA c.ins.length bc] 54)).size));have hg1:=xx.below hb1 xx.lt;have vD:=ae hg1;have g0:=hg1.cell (j:=0) rfl;have g1:=hg1.cell (j:=1) rfl;have g2:=hg1.cell (j:=2) rfl;have g3:=hg1.cell (j:=3) rfl;have gl:=hg1.lt
     clear hb1 hg1;go_wp2_with fail;refine HQ _ _ _ ?_;exact aS (v:= .bool false) (by simp[results,results21,go_sem]) rfl ⟨by rw[HE.out],bQ.out⟩
    |true=>
     rw[c4]at HO;cases c5:oO c.ins.length 1 8000 with
     |false=>
      rw[c5]at QR;have HE:=ae (show pN c ng pl=false from by unfold pN;rw[if_neg (λh=>absurd h.2.2.2.2 (by rw[c5];decide))]);clear c1 c2 c3 c4 c5;go_enter func21,ntmps21;refine aj λQ HQ=>?_;go_wp2_with fail;refine N8.mono ?_;rintro e w' ⟨rfl,rfl⟩;go_wp2_with fail;refine(HO _ (ax w _)).mono ?_;rintro e w1 ⟨rfl,hb1⟩;have bQ:=ae ((ax w (.cells #[.int .i64 c.params,.int .i64 c.regs,.slice LA c.az.length lc,.slice BA c.ins.length bc] 54)).trans (hb1.mono (ax w (.cells #[.int .i64 c.params,.int .i64 c.regs,.slice LA c.az.length lc,.slice BA c.ins.length bc] 54)).size));have hg1:=xx.below hb1 xx.lt;have vD:=ae hg1;have g0:=hg1.cell (j:=0) rfl;have g1:=hg1.cell (j:=1) rfl;have g2:=hg1.cell (j:=2) rfl;have g3:=hg1.cell (j:=3) rfl
      have gl:=hg1.lt;clear hb1 hg1;go_wp2_with fail;refine(QR _).mono ?_;rintro e w' ⟨rfl,rfl⟩;go_wp2_with fail;refine HQ _ _ _ ?_;exact aS (v:= .bool false) (by simp[results,results21,go_sem]) rfl ⟨by rw[HE.out],bQ.out⟩
     |true=>
      rw[c5]at QR;have hlen:1<=c.ins.length/\c.ins.length<=8000:=by unfold oO at c5;simp at c5;omega
      have hrg:0<=c.regs/\c.regs<=8000:=by unfold mG at c1;simp at c1;omega
      have HE:=ae (show pN c ng pl=(wW c ng pl c.ins.length && nZ c)from by unfold pN;rw[if_pos ⟨c1,c2,c3,c4,c5⟩]);have HRG:=ae hrg;rw[HE.out];clear c1 c2 c3 c4 c5;go_enter func21,ntmps21;refine aj λQ HQ=>?_;go_wp2_with fail;refine N8.mono ?_;rintro e w' ⟨rfl,rfl⟩;go_wp2_with fail;refine(HO _ (ax w _)).mono ?_;rintro e w1 ⟨rfl,hb1⟩;have bQ:=ae ((ax w (.cells #[.int .i64 c.params,.int .i64 c.regs,.slice LA c.az.length lc,.slice BA c.ins.length bc] 54)).trans (hb1.mono (ax w (.cells #[.int .i64 c.params,.int .i64 c.regs,.slice LA c.az.length lc,.slice BA c.ins.length bc] 54)).size));have hg1:=xx.below hb1 xx.lt;have vD:=ae hg1;have g0:=hg1.cell (j:=0) rfl;have g1:=hg1.cell (j:=1) rfl;have g2:=hg1.cell (j:=2) rfl
      have g3:=hg1.cell (j:=3) rfl;have gl:=hg1.lt;clear hb1 hg1;go_wp2_with fail;refine(QR _).mono ?_;rintro e w' ⟨rfl,rfl⟩;go_wp2_with fail;have QG:=ae (yx c LA lc BA bc B w1 (by have:=bQ.size;omega) (HK.below (bQ.mono hB) (aY _) (λ_ _ h=>h.below (bQ.mono hB) (aY _))) hlen.2);refine QG.mono ?_;rintro e w2 ⟨tb,rfl,NY,hit,hb2⟩;have HIT:=ae hit;have bC:=ae (bQ.trans (hb2.mono bQ.size));have HG2:=ae (vD.below hb2 vD.lt);have hz1:=bQ.size;have hz2:=hb2.size;have htl:tb<w2.heap.size:=by obtain⟨_,h,_⟩:=hit;exact h.lt
      clear hit hb2 g0 g1 g2 g3 gl;have g3:=HG2.cell (j:=3) rfl;have gl:=HG2.lt;go_wp2_with fail;go_loopw [9] (λi wr=>∃k:Nat,i= .int .i64 (k:Nat)/\k<=c.ins.length/\wW c ng pl k=true/\fM wr tb 8000 (oH c.ins c.ins.length)/\qG wr w2.heap.size 8000 (λj=>dh (c.ins.take k) j)/\Row wr w.heap.size #[.int .i64 c.params,.int .i64 c.regs,.slice LA c.az.length lc,.slice BA c.ins.length bc] 54/\Wr (λi=>i=w2.heap.size) (w2.alloc (.cells Z 4)) wr) (λi _=>c.ins.length-(intOf i).toNat)
      case atStart=>exact⟨0,rfl,Nat.zero_le _,rfl,HIT.wr (eW (ax _ _)) (λh=>h),⟨Z,Row.new _ _ _,HZ.1,λj hj=>by rw[HZ.2 j hj];simp[dh]⟩,HG2.alloc _,Wr.refl _ _⟩
      case round=>
       obtain⟨k,rfl,hk,hall,hit,hbt,kJ,hwr⟩:=hrel;have pS:=hwr.size;simp only[World.size_alloc]at pS;have aJ:Below w.heap.size w wr:=bC.trans (((ax w2 (.cells Z 4)).trans (hwr.below (by simp) (λk hk=>by have:k=w2.heap.size:=hk;omega))).mono (by omega));have Fb:=ae hall;have HIT2:=ae hit;have HBT2:=ae hbt;have cS:=ae kJ;have tN:=ae hwr;have cB:=ae aJ;have Fl:=ae (show w2.heap.size<wr.heap.size by omega);have zR:=ae (show tb<wr.heap.size by omega);have x3:=kJ.cell (j:=3) rfl;have xl:=kJ.lt;clear hall hit hbt kJ hwr g3 gl;by_cases hlt:k<c.ins.length
       ·have hBw:Below B w wr:=aJ.mono hB;obtain⟨bb,zO,x,rfl,hbb,hbk,b0,b1,b2,b3,b4,⟨sv,b5,hst⟩,hx0,hx1,hx2,hx3,Fj⟩:=(HK.below hBw (aY _) (λ_ _ h=>h.below hBw (aY _))).get hlt;simp only[Nat.add_zero]at b0 b1 b2 b3 b4 b5;obtain⟨SA,scap,vA⟩:∃SA scap,sv= .slice SA x.arg.length scap:=(by obtain⟨A',c',h,_⟩:=hst;exact⟨_,_,h⟩)
        subst vA;have hkb:(k:Int)<(c.ins.length:Int):=by omega
        have iF:bb<wr.heap.size:=by omega
        have x2:=cS.cell (j:=2) rfl;have hb1:=ax wr (.cells #[.int .i64 x.op,.int .i64 x.dst,.int .i64 x.a,.int .i64 x.b,.int .i64 x.n,.slice SA x.arg.length scap] 94);have HFM:=ae (Mf c.az.length ng pl PA pc x SA scap B (wr.alloc (.cells #[.int .i64 x.op,.int .i64 x.dst,.int .i64 x.a,.int .i64 x.b,.int .i64 x.n,.slice SA x.arg.length scap] 94)) (by simp;omega) (hst.below (hb1.mono (by omega)) (aY _)) (HP.below (hBw.trans (hb1.mono (by omega))) (aY _)));have HST:=ae hst;have fD:=ae hbk;have HXB:=ae (Row.new wr #[.int .i64 x.op,.int .i64 x.dst,.int .i64 x.a,.int .i64 x.b,.int .i64 x.n,.slice SA x.arg.length scap] 94)
        have vC:=ae (show J4 c ng pl (c.ins.take k) x=(bD c.az.length ng pl x && (Ax c x && ((!(bE x).2.2.2||mF x.arg c.regs)&& (!(decide (x.op=14)&& dh (c.ins.take k) x.n)&& (!decide (x.op=15\/x.op=16)||dh c.ins x.n)))))from rfl);clear hbk hst hBw hb1 hx0 hx1 hx2 hx3 Fj;unfold cH at HFM;cases XH:bD c.az.length ng pl x with
        |false=>
         have sV:=ae (tI (ng:=ng) (pl:=pl) fD (by rw[vC.out,XH];rfl));rw[XH]at HFM;clear XH;go_wp2_with fail;refine HFM.mono ?_;rintro e w4 ⟨t0,t1,t2,t3,rfl,_,hb4⟩;have fO:=ae (cB.trans (((ax wr (.cells #[.int .i64 x.op,.int .i64 x.dst,.int .i64 x.a,.int .i64 x.b,.int .i64 x.n,.slice SA x.arg.length scap] 94)).trans (hb4.mono (ax wr (.cells #[.int .i64 x.op,.int .i64 x.dst,.int .i64 x.a,.int .i64 x.b,.int .i64 x.n,.slice SA x.arg.length scap] 94)).size)).mono (by have:=cB.size;omega)));clear hb4;go_wp2_with fail;refine HQ _ _ _ ?_;exact aS (v:= .bool false) (by simp[results,results21,go_sem]) rfl ⟨by rw[sV.out,Bool.false_and],fO.trans ((ax w4 _).mono fO.size)⟩
        |true=>
         have Xh:=ae XH;rw[XH]at HFM;clear XH;go_wp2_with fail;refine HFM.mono ?_;rintro e w4 ⟨t0,t1,t2,t3,rfl,hsh,hb4⟩;have Y7:=hsh rfl;have qZ:=ae Y7;have hb5:=(ax wr (.cells #[.int .i64 x.op,.int .i64 x.dst,.int .i64 x.a,.int .i64 x.b,.int .i64 x.n,.slice SA x.arg.length scap] 94)).trans (hb4.mono (ax wr (.cells #[.int .i64 x.op,.int .i64 x.dst,.int .i64 x.a,.int .i64 x.b,.int .i64 x.n,.slice SA x.arg.length scap] 94)).size);have yh:=ae hb5;have ZR:=hb4;have hn8:x.op=14\/x.op=15\/x.op=16->∃m:Nat,x.n=(m:Int)/\m<8000:=λh=>by
          have h1:pR x=true:=by
           have:=Xh.out;unfold bD at this;simp only[Bool.and_eq_true]at this;exact this.2.2.2.2
          unfold pR at h1;rw[if_neg (by omega),if_neg (by omega),if_neg (by omega),if_neg (by omega),if_pos (by omega)]at h1;simp at h1;exact⟨x.n.toNat,by omega,by omega⟩
         have HN8:=ae hn8;clear hsh Y7 hb4 hn8 x2 x3 xl b0 b1 b2 b3 b4 b5;go_upto_region 10 with fail;refine cO (λW5 hW5=>?_);have XK:Below wr.heap.size wr W5:=hW5▸hb5.trans ((ax w4 _).mono hb5.size);have XC:Row W5 w4.heap.size #[.bool t0,.bool t1,.bool t2,.bool t3] 98:=hW5▸Row.new _ _ _;have fW:=ae XK;have HSR:=ae XC
         have Qx:=ae (((HXB.below (ZR:Below (wr.alloc (.cells #[.int .i64 x.op,.int .i64 x.dst,.int .i64 x.a,.int .i64 x.b,.int .i64 x.n,.slice SA x.arg.length scap] 94)).heap.size (wr.alloc (.cells #[.int .i64 x.op,.int .i64 x.dst,.int .i64 x.a,.int .i64 x.b,.int .i64 x.n,.slice SA x.arg.length scap] 94)) w4) HXB.lt).alloc (.cells #[.bool t0,.bool t1,.bool t2,.bool t3] 98)):Row (w4.alloc (.cells #[.bool t0,.bool t1,.bool t2,.bool t3] 98)) wr.heap.size #[.int .i64 x.op,.int .i64 x.dst,.int .i64 x.a,.int .i64 x.b,.int .i64 x.n,.slice SA x.arg.length scap] 94);rw[<-hW5]at Qx;have HCR:=ae (cS.below XK cS.lt);have s0:=XC.cell (j:=0) rfl;have s1:=XC.cell (j:=1) rfl;have s2:=XC.cell (j:=2) rfl;have sl:=XC.lt;have y1:=Qx.cell (j:=1) rfl;have y2:=Qx.cell (j:=2) rfl;have y3:=Qx.cell (j:=3) rfl
         have yl:=Qx.lt;have k1:=HCR.cell (j:=1) rfl;have kl:=HCR.lt;clear hW5 XC XK hb5 ZR;go_cut [109]from 47 to 158 (λv wx=>v= .bool (!(Ax c x))/\wx=W5)
         case first=>
          have HD:=ae (oQ x.dst (c.regs-1) W5);have HA:=ae (oQ x.a (c.regs-1) W5);have Ab:=ae (oQ x.b (c.regs-1) W5);have rI:=ae (show Ax c x=((!t0||mG x.dst (c.regs-1))&& ((!t1||mG x.a (c.regs-1))&& (!t2||mG x.b (c.regs-1))))from by unfold Ax;rw[<-qZ.out]);obtain⟨nd,hnd⟩:∃b,b=mG x.dst (c.regs-1):=⟨_,rfl⟩
          obtain⟨na,hna⟩:∃b,b=mG x.a (c.regs-1):=⟨_,rfl⟩
          obtain⟨nb,hnb⟩:∃b,b=mG x.b (c.regs-1):=⟨_,rfl⟩
          rw[<-hnd]at HD rI;rw[<-hna]at HA rI;rw[<-hnb]at Ab rI;clear hnd hna hnb;have hT:(t0=false)\/(t0=true/\nd=true)\/(t0=true/\nd=false):=by cases t0<;>cases nd<;>simp
          have hA:(t1=false)\/(t1=true/\na=true)\/(t1=true/\na=false):=by cases t1<;>cases na<;>simp
          have hC:(t2=false)\/(t2=true/\nb=true)\/(t2=true/\nb=false):=by cases t2<;>cases nb<;>simp
          clear qZ HSR vC Xh;rcases hT with rfl|⟨rfl,rfl⟩|⟨rfl,rfl⟩
          ·skip
           rcases hA with rfl|⟨rfl,rfl⟩|⟨rfl,rfl⟩
           ·skip
            rcases hC with rfl|⟨rfl,rfl⟩|⟨rfl,rfl⟩
            ·skip
             go_wp2_with fail
             go_meet
             exact⟨by rw[rI.out];simp,rfl⟩
            ·skip
             go_wp2_with fail;refine Ab.mono ?_;rintro e w' ⟨rfl,rfl⟩;go_wp2_with fail
             go_meet
             exact⟨by rw[rI.out];simp,rfl⟩
            ·skip
             go_wp2_with fail;refine Ab.mono ?_;rintro e w' ⟨rfl,rfl⟩;go_wp2_with fail
             go_meet
             exact⟨by rw[rI.out];simp,rfl⟩
           ·skip
            rcases hC with rfl|⟨rfl,rfl⟩|⟨rfl,rfl⟩
            ·skip
             go_wp2_with fail;refine HA.mono ?_;rintro e w' ⟨rfl,rfl⟩;go_wp2_with fail
             go_meet
             exact⟨by rw[rI.out];simp,rfl⟩
            ·skip
             go_wp2_with fail;refine HA.mono ?_;rintro e w' ⟨rfl,rfl⟩;go_wp2_with fail;refine Ab.mono ?_;rintro e w' ⟨rfl,rfl⟩;go_wp2_with fail
             go_meet
             exact⟨by rw[rI.out];simp,rfl⟩
            ·skip
             go_wp2_with fail;refine HA.mono ?_;rintro e w' ⟨rfl,rfl⟩;go_wp2_with fail;refine Ab.mono ?_;rintro e w' ⟨rfl,rfl⟩;go_wp2_with fail
             go_meet
             exact⟨by rw[rI.out];simp,rfl⟩
           ·skip
            clear hC;go_wp2_with fail;refine HA.mono ?_;rintro e w' ⟨rfl,rfl⟩;go_wp2_with fail
            go_meet
            exact⟨by rw[rI.out];simp,rfl⟩
          ·skip
           rcases hA with rfl|⟨rfl,rfl⟩|⟨rfl,rfl⟩
           ·skip
            rcases hC with rfl|⟨rfl,rfl⟩|⟨rfl,rfl⟩
            ·skip
             go_wp2_with fail;refine HD.mono ?_;rintro e w' ⟨rfl,rfl⟩;go_wp2_with fail
             go_meet
             exact⟨by rw[rI.out];simp,rfl⟩
            ·skip
             go_wp2_with fail;refine HD.mono ?_;rintro e w' ⟨rfl,rfl⟩;go_wp2_with fail;refine Ab.mono ?_;rintro e w' ⟨rfl,rfl⟩;go_wp2_with fail
             go_meet
             exact⟨by rw[rI.out];simp,rfl⟩
            ·skip
             go_wp2_with fail;refine HD.mono ?_;rintro e w' ⟨rfl,rfl⟩;go_wp2_with fail;refine Ab.mono ?_;rintro e w' ⟨rfl,rfl⟩;go_wp2_with fail
             go_meet
             exact⟨by rw[rI.out];simp,rfl⟩
           ·skip
            rcases hC with rfl|⟨rfl,rfl⟩|⟨rfl,rfl⟩
            ·skip
             go_wp2_with fail;refine HD.mono ?_;rintro e w' ⟨rfl,rfl⟩;go_wp2_with fail;refine HA.mono ?_;rintro e w' ⟨rfl,rfl⟩;go_wp2_with fail
             go_meet
             exact⟨by rw[rI.out];simp,rfl⟩
            ·skip
             go_wp2_with fail;refine HD.mono ?_;rintro e w' ⟨rfl,rfl⟩;go_wp2_with fail;refine HA.mono ?_;rintro e w' ⟨rfl,rfl⟩;go_wp2_with fail;refine Ab.mono ?_;rintro e w' ⟨rfl,rfl⟩;go_wp2_with fail
             go_meet
             exact⟨by rw[rI.out];simp,rfl⟩
            ·skip
             go_wp2_with fail;refine HD.mono ?_;rintro e w' ⟨rfl,rfl⟩;go_wp2_with fail;refine HA.mono ?_;rintro e w' ⟨rfl,rfl⟩;go_wp2_with fail;refine Ab.mono ?_;rintro e w' ⟨rfl,rfl⟩;go_wp2_with fail
             go_meet
             exact⟨by rw[rI.out];simp,rfl⟩
           ·skip
            clear hC;go_wp2_with fail;refine HD.mono ?_;rintro e w' ⟨rfl,rfl⟩;go_wp2_with fail;refine HA.mono ?_;rintro e w' ⟨rfl,rfl⟩;go_wp2_with fail
            go_meet
            exact⟨by rw[rI.out];simp,rfl⟩
          ·skip
           clear hA hC;go_wp2_with fail;refine HD.mono ?_;rintro e w' ⟨rfl,rfl⟩;go_wp2_with fail
           go_meet
           exact⟨by rw[rI.out];simp,rfl⟩
         case rest=>
          obtain⟨rfl,hwc⟩:=hcut;subst hwc;have HSIZE:=ae fW.size;have HIT6:=ae (HIT2.wr (eW fW.out) (λh=>h));have HBT6:=ae (HBT2.wr (eW fW.out) (λh=>h));have HWR6:=ae (tN.trans (eW fW.out) (λ_ h=>h.elim));have QQ:=ae (cB.trans (fW.mono cB.size));cases jv:Ax c x with
          |false=>
           have sV:=ae (tI (ng:=ng) (pl:=pl) fD (by rw[vC.out,Xh.out,jv];rfl));rw[Bool.not_false];clear jv;go_wp2_with fail;refine HQ _ _ _ ?_;exact aS (v:= .bool false) (by simp[results,results21,go_sem]) rfl ⟨by rw[sV.out,Bool.false_and],QQ.out⟩
          |true=>
           have rI:=ae jv;rw[Bool.not_true];clear jv s0 s1 s2 y1 y2 y3 k1;go_wp2_with fail;obtain⟨wo,rfl⟩:∃wo:World,wo=wr:=⟨_,rfl⟩
           have hwrap:IntKind.i64.wrap (c.regs-1)=c.regs-1:=IntWalk.i64_in _ (by have:=HRG.out;omega);have HWP:=ae hwrap;clear hwrap;go_loopw [13] (λi ws=>∃j:Nat,i= .int .i64 (j:Nat)/\j<=x.arg.length/\(t3=true->mF (x.arg.take j) c.regs=true)/\Below wc.heap.size wc ws) (λi _=>x.arg.length-(intOf i).toNat)
           case atStart=>exact⟨0,rfl,Nat.zero_le _,λ_=>rfl,aV _ _⟩
           case round=>
            obtain⟨j,rfl,hj,tT,XJ⟩:=hrel;have HRB:=ae tT;have Tf:=ae XJ;have hzj:=XJ.size;have hsj:=HSR.below XJ HSR.lt;have YY:=Qx.below XJ Qx.lt;have hcj:=HCR.below XJ HCR.lt;have s3:=hsj.cell (j:=3) rfl;have sl:=hsj.lt;have y0:=YY.cell (j:=0) rfl;have y4:=YY.cell (j:=4) rfl;have y5:=YY.cell (j:=5) rfl;have yl:=YY.lt;have k1:=hcj.cell (j:=1) rfl;have kl:=hcj.lt;have HCJ:=ae hcj;clear tT XJ hsj YY hcj;by_cases hgo:t3=true/\j<x.arg.length
            ·obtain⟨rfl,hlt2⟩:=hgo;obtain⟨sb,so,hSA,Ey,g0,_⟩:=(HST.below ((fW.trans (Tf.mono fW.size)).mono (show B<=wo.heap.size by have:=cB.size;omega)) (aY _)).at hlt2;have hnal:=HST.out.len.2;rw[hSA]at y5;have hd:decide ((j:Int)<(x.arg.length:Int))=true:=by simpa using hlt2
             have hjl:(j:Int)<(x.arg.length:Int):=by omega
             have hsbl:sb<wr.heap.size:=by have:=cB.size;have:=fW.size;omega
             have hwrap:=HWP.out;have HNJ:=ae (λW=>oQ x.arg[j] (c.regs-1) W);cases TD:mG x.arg[j] (c.regs-1)with
             |true=>
              have IH:=ae (show mF (x.arg.take (j+1)) c.regs=true by rw[Ay hlt2,HRB.out rfl];unfold mG at TD;simp at TD ⊢;omega);rw[TD]at HNJ;clear TD;go_wp2_with fail;go_quiet ((go_at_call 12;exact Calls.quiet_of_same ((HNJ _).mono λ_ _ h=>⟨h.1,h.2.symm⟩)));clear hwrap;go_wp2_with fail;go_roundw
              case rel=>exact⟨j+1,by go_num,hlt2,λ_=>IH.out,below_drewN Tf _⟩
              case measure=>simp[intOf];omega
             |false=>
              have IH:=ae (show mF x.arg c.regs=false from FN hlt2 (λh=>by unfold mG at TD;simp at TD;omega));have sV:=ae (tI (ng:=ng) (pl:=pl) fD (by rw[vC.out,Xh.out,rI.out,IH.out,<-qZ.out];rfl));rw[TD]at HNJ;clear TD;go_wp2_with fail;go_quiet ((go_at_call 12;exact Calls.quiet_of_same ((HNJ _).mono λ_ _ h=>⟨h.1,h.2.symm⟩)));clear hwrap;go_wp2_with fail;refine HQ _ _ _ ?_;exact aS (v:= .bool false) (by simp[results,results21,go_sem]) rfl ⟨by rw[sV.out,Bool.false_and],below_drewN (QQ.trans (Tf.mono QQ.size)) _⟩
            ·have CC:=ae (show(!t3||mF x.arg c.regs)=true by
              cases t3 with
              |false=>rfl
              |true=>
               have hje:j=x.arg.length:=by have:¬j<x.arg.length:=λh=>hgo ⟨rfl,h⟩;omega
               have:=HRB.out rfl;rw[hje,List.take_length]at this;rw[this];rfl)
             have Py:t3=false\/(t3=true/\j=x.arg.length):=by
              cases t3 with
              |false=>exact aK rfl
              |true=>exact bu ⟨rfl,by have:¬j<x.arg.length:=λh=>hgo ⟨rfl,h⟩;omega⟩
             have Tc:=ae (HIT6.wr (eW Tf.out) (λh=>h));have Xn:=ae (HBT6.wr (eW Tf.out) (λh=>h));have WN:=ae (HWR6.trans (eW Tf.out) (λ_ h=>h.elim));have HBW7:=ae (QQ.trans (Tf.mono QQ.size));have DZ:=ae (λ(e1:(!(decide (x.op=14)&& dh (c.ins.take k) x.n))=true)(e2:(!decide (x.op=15\/x.op=16)||dh c.ins x.n)=true)=>(show wW c ng pl (k+1)=true from by rw[xZ fD.out,Fb.out,vC.out,Xh.out,rI.out,<-qZ.out,CC.out,e1,e2];rfl));have uY:=ae (bW fD.out);have hs8:w2.heap.size<wr.heap.size:=by have:=Fl.out;have:=fW.size;have:=Tf.size;omega
             have ht8:tb<wr.heap.size:=by have:=zR.out;have:=fW.size;have:=Tf.size;omega
             obtain⟨xo,hxo⟩:∃o,o=x.op:=⟨_,rfl⟩
             rw[<-hxo]at y0 DZ HN8;have HXO:=ae hxo;clear hgo hxo k1 kl;rcases Py with rfl|⟨rfl,rfl⟩
             all_goals
              by_cases Bk:xo=14
              ·subst Bk;obtain⟨m,hn,hm⟩:=HN8 (aK rfl);rw[hn]at y4 DZ;have HN:=ae hn;have hm0:(0:Int)<=(m:Int):=by omega
               have hm1:(m:Int)<8000:=by omega
               obtain⟨cs,hr,hc1,hc2⟩:=Xn.out;have c0:wr.cell? ⟨w2.heap.size,m,none⟩=some (.bool (dh (c.ins.take k) (m:Int))):=hr.cell (hc2 m hm);have c1:=hr.free m;cases hv:dh (c.ins.take k) (m:Int)with
               |true=>
                rw[hv]at c0;have sV:=ae (tI (ng:=ng) (pl:=pl) fD (by rw[vC.out,Xh.out,rI.out,<-qZ.out,CC.out,<-HXO.out,HN.out,hv];rfl));clear hn hr hc1 hc2 hv;go_wp2_with fail;refine HQ _ _ _ ?_;exact aS (v:= .bool false) (by simp[results,results21,go_sem]) rfl ⟨by rw[sV.out,Bool.false_and],HBW7.out⟩
               |false=>
                rw[hv]at c0;have IH:=ae (DZ (by rw[hv];rfl) (by rw[decide_eq_false (by decide)];rfl));have HB8:=ae (Xn.set (j:=m) (g:=λj=>dh (c.ins.take (k+1)) j) (v:=true) hm (by show dh (c.ins.take (k+1)) (m:Int)=true;rw[uY.out,nP,<-HXO.out,HN.out];simp) (λi hi=>by show dh (c.ins.take (k+1)) (i:Int)=dh (c.ins.take k) (i:Int);rw[uY.out,nP,HN.out,decide_eq_false (λh=>hi (by omega)),Bool.or_false]));have hwc:=Wr.cell1 wr w2.heap.size m (.bool true);have HI8:=ae (Tc.wr hwc (by omega));have HC8:=ae (HCJ.wr hwc (by omega));have HW8:=ae (WN.trans hwc (λ_ h=>aK h));clear hn hr hc1 hc2 hv hwc;go_wp2_with fail;go_roundw
                case rel=>exact⟨k+1,by go_num,hlt,IH.out,HI8.out,HB8.out,HC8.out,HW8.out⟩
                case measure=>simp[intOf];omega
              ·have h14b:(xo==14)=false:=by simpa using Bk
               have HB8:=ae (show qG wr w2.heap.size 8000 (λj=>dh (c.ins.take (k+1)) j)from by
                obtain⟨cs,r1,r2,r3⟩:=Xn.out;exact⟨cs,r1,r2,λi hi=>by rw[r3 i hi];show some (Value.bool (dh (c.ins.take k) (i:Int)))=some (Value.bool (dh (c.ins.take (k+1)) (i:Int)));rw[uY.out,nP,decide_eq_false (λh=>Bk (by rw[HXO.out];exact h.1)),Bool.or_false]⟩)
               by_cases iC:xo=15\/xo=16
               ·obtain⟨m,hn,hm⟩:=HN8 (bu iC);rw[hn]at y4 DZ;have HN:=ae hn;have hm0:(0:Int)<=(m:Int):=by omega
                have hm1:(m:Int)<8000:=by omega
                obtain⟨cs,hr,hc1,hc2⟩:=Tc.out;have c0:=hr.cell (hc2 m hm);have XB:=A8 (l:=c.ins) c.ins.length (aY _) m;rw[List.take_length]at XB;obtain⟨lv,hlv⟩:∃v,v=oH c.ins c.ins.length m:=⟨_,rfl⟩
                rw[<-hlv]at c0 XB;have H15:=ae iC;cases hv:dh c.ins (m:Int)with
                |true=>
                 have hl0:decide (lv<0)=false:=by have:=XB.2 hv;simp;omega
                 have IH:=ae (DZ (by rw[decide_eq_false Bk];rfl) (by rw[hv,Bool.or_true]));clear hn hr hc1 hc2 hv XB hlv Bk;rcases iC with rfl|rfl
                 all_goals
                  go_wp2_with fail;go_roundw
                  case rel=>exact⟨k+1,by go_num,hlt,IH.out,Tc.out,HB8.out,HCJ.out,WN.out⟩
                  case measure=>simp[intOf];omega
                |false=>
                 have hl0:decide (lv<0)=true:=decide_eq_true (Int.not_le.mp λh=>absurd (XB.1 h) (by rw[hv];decide));have sV:=ae (tI (ng:=ng) (pl:=pl) fD (by rw[vC.out,Xh.out,rI.out,<-qZ.out,CC.out,<-HXO.out,HN.out,hv,decide_eq_false Bk,decide_eq_true H15.out];rfl));clear hn hr hc1 hc2 hv XB hlv Bk;rcases iC with rfl|rfl
                 all_goals
                  go_wp2_with fail;refine HQ _ _ _ ?_;exact aS (v:= .bool false) (by simp[results,results21,go_sem]) rfl ⟨by rw[sV.out,Bool.false_and],HBW7.out⟩
               ·have Z8:(xo==15)=false:=by simp;exact λh=>iC (aK h)
                have e16:(xo==16)=false:=by simp;exact λh=>iC (bu h)
                have IH:=ae (DZ (by rw[decide_eq_false Bk];rfl) (by rw[decide_eq_false iC];rfl));clear Bk iC;go_wp2_with fail;go_roundw
                case rel=>exact⟨k+1,by go_num,hlt,IH.out,Tc.out,HB8.out,HCJ.out,WN.out⟩
                case measure=>simp[intOf];omega
       ·obtain rfl:k=c.ins.length:=by omega
        obtain⟨bb,zO,x,yH,hbb,hbk,b0,_⟩:=(HK.below (aJ.mono hB) (aY _) (λ_ _ h=>h.below (aJ.mono hB) (aY _))).get (show c.ins.length-1<c.ins.length by omega);subst yH;simp only[Nat.add_zero]at b0;have K5:=ae (O3 hbk);obtain⟨m,hm⟩:∃m,c.ins.length=m+1:=⟨c.ins.length-1,by omega⟩
        have hm2:c.ins.length-1=m:=by omega
        rw[hm2]at b0;obtain⟨xo,hxo⟩:∃o,o=x.op:=⟨_,rfl⟩
        rw[<-hxo]at b0 K5;have iF:bb<wr.heap.size:=by omega
        have hxc:xo=15\/xo=17\/xo=13\/(xo≠15/\xo≠17/\xo≠13):=by omega
        clear hbk aJ hxo hm2;rcases hxc with rfl|rfl|rfl|⟨n1,n2,n3⟩
        all_goals try have e1:(xo==15)=false:=by simpa using n1
        all_goals try have e2:(xo==17)=false:=by simpa using n2
        all_goals try have e3:(xo==13)=false:=by simpa using n3
        all_goals try have W7:=ae (And.intro n1 (And.intro n2 n3))
        all_goals try clear n1 n2 n3
        all_goals go_wp2_with fail
        all_goals refine HQ _ _ _ ?_
        iterate 3 (·refine aS (v:= .bool true) (by simp[results,results21,go_sem]) rfl ?_;rw[Fb.out,K5.out];exact⟨rfl,cB.out⟩)
        ·refine aS (v:= .bool false) (by simp[results,results21,go_sem]) rfl ?_;rw[Fb.out,K5.out,decide_eq_false (λh=>by rcases h with h|h|h;exact W7.1 h;exact W7.2.1 h;exact W7.2.2 h)];exact⟨rfl,cB.out⟩
end Go.Proofs.YtinmgbodgecoeaaGreat
