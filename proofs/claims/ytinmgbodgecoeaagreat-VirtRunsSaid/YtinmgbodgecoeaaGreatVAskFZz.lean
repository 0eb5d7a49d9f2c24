/- virt's checks: a function, whatever is asked of calls. Conditions: as stated. -/
import Derived.Test.YtinmgbodgecoeaaGreatVAskEZz
set_option linter.unusedSimpArgs false
set_option linter.unusedVariables false
set_option maxHeartbeats 8000000
set_option maxRecDepth 100000
open Go.Proofs.Tryz
namespace Go.Proofs.YtinmgbodgecoeaaGreat
open Go.RowKit
section
variable {σ:Type} (par:σ->Int->Nat->Bool×σ)
def CW(c:aR)(ng nf:Int)(s:σ)(x:bg):Bool×σ:=
 if x.op=10/\sJ c ng nf sX x=true then par s x.n x.arg.length else(sJ c ng nf cG x,s)
def qp(c:aR)(ng nf:Int):σ->List bg->Bool×σ
 |s,[]=>(true,s)
 |s,x::l=>if(CW par c ng nf s x).1=true then qp c ng nf (CW par c ng nf s x).2 l else(false,(CW par c ng nf s x).2)
def codeF(c:aR)(ng nf:Int)(s:σ):Bool×σ:=if wG c then((qp par c ng nf s c.ins).1 && nZ c,(qp par c ng nf s c.ins).2)else(false,s)
theorem J3{c:aR}{ng nf:Int}{s s':σ}{b:Bool}{x:bg}{l:List bg}(h:CW par c ng nf s x=(b,s')):qp par c ng nf s (x::l)=if b=true then qp par c ng nf s' l else(false,s'):=by
 rw[qp,h]
end
def Fe{σ:Type}(I:σ->World->Prop)(F:Nat->Prop)(ab:Nat)(r:Bool×σ)(w:World)(e:Ending)(w':World):Prop:=
 e= .returned (.bool r.1)/\I r.2 w'/\Wr (λk=>k=ab\/F k) w w'
theorem mJ{c:aR}:wG c↔(¬c.params<0/\¬c.params>4/\¬c.params>c.regs/\¬c.regs>8000/\fR c.az 400=true/\¬(c.ins.length:Int)<1/\¬(c.ins.length:Int)>8000/\i6 [] c.ins=true):=Iff.rfl
theorem O4{c:aR}{x:bg}(h:c.ins[c.ins.length-1]? =some x):nZ c=decide (x.op=15\/x.op=17\/x.op=13):=by
 unfold nZ;rw[List.getD_eq_getElem?_getD,h];rfl
theorem Rl{σ:Type}(I:σ->World->Prop)(par:σ->Int->Nat->Bool×σ)(F:Nat->Prop)(s0:σ)(ab:Nat)(c:aR)(LA:Option Addr)(lc:Nat)(BA:Option Addr)(bc:Nat)(nf ng:Int)(cv mv:Value)(B:Nat)(w:World)
  (h:tL w ab c LA lc BA bc nf ng (.func (.func 39) #[] #[cv]) mv)(hB:B<=w.heap.size)(hab:B<=ab)(hL:SliceAt w B 3 (sG w B) c.az (.slice LA c.az.length lc))(hK:SliceAt w B 6 (kI w B) c.ins (.slice BA c.ins.length bc))
  (hF:∀k,F k->B<=k/\k<w.heap.size/\k≠ab)(ZY:I s0 w)(hI:∀s W W',I s W->Wr (λk=>k=ab) W W'->I s W')
  (gH:∀s n(k:Nat)W,(0<=n/\n<nf)->I s W->Wr (λk=>k=ab\/F k) w W->Calls prog 39 #[.int .i64 n,.int .i64 k,cv] W λe w'=>e= .returned (.bool (par s n k).1)/\I (par s n k).2 w'/\Wr F W w'):
  Calls prog 40 #[.pointer (some ⟨ab,0,.none⟩)] w λe w'=>Fe I F ab (codeF par c ng nf s0) w e w':=by
 have HO:=ae (λW(hW:Below w.heap.size w W)=>DN c.az LA c.az.length lc 400 B W (by have:=hW.size;omega) (hL.below (hW.mono hB) (aY _) (λ_ _ h=>h.below (hW.mono hB) (aY _))));have HR:=ae h;have HK:=ae hK;have HF:=ae hF;have IM:=ae ZY;have HI:=ae hI;have HP:=ae gH;have hrl:=Row.lt h;have hrl1:ab<w.heap.size+1:=by omega
 have Zo:=hK.len.2;have r0:w.cell? ⟨ab,0,.none⟩=some (.int .i64 c.params):=Row.cell h rfl;have r1:w.cell? ⟨ab,1,.none⟩=some (.int .i64 c.regs):=Row.cell h rfl;have r2:w.cell? ⟨ab,2,.none⟩=some (.slice LA c.az.length lc):=Row.cell h rfl;have r3:w.cell? ⟨ab,3,.none⟩=some (.slice BA c.ins.length bc):=Row.cell h rfl;have xx:=ae (Row.new w #[.int .i64 c.params,.int .i64 c.regs,.slice LA c.az.length lc,.slice BA c.ins.length bc] 54);have qW:=ae (λW(hW:Below w.heap.size w W)(hl:c.ins.length<=8000)=>Fx B ab c.ins BA bc (.int .i64 c.params) (.int .i64 c.regs) (.slice LA c.az.length lc) (.int .i64 nf) (.int .i64 ng) (.func (.func 39) #[] #[cv]) mv W (Row.below h hW hrl) (hK.below (hW.mono hB) (aY _) (λ_ _ h=>h.below (hW.mono hB) (aY _))) hab hl);clear h hL hK hF ZY hI gH
 by_cases c1:c.params<0
 ·have d1:decide (c.params<0)=true:=by simpa using c1
  have HE:=ae (show codeF par c ng nf s0=(false,s0)from by unfold codeF;rw[if_neg (λh=>absurd c1 (mJ.1 h).1)]);rw[HE.out];clear c1;go_enter func40,ntmps40;refine aj λQ HQ=>?_;go_wp2_with fail;refine HQ _ _ _ ?_;exact aS (v:= .bool false) (by simp[results,results40,go_sem]) rfl ⟨rfl,HI _ _ _ IM (Wr.of_below (ax _ _)),Wr.of_below (ax _ _)⟩
 ·have d1:decide (c.params<0)=false:=by simpa using c1
  by_cases c2:c.params>4
  ·have d2:decide (4<c.params)=true:=by simpa using c2
   have HE:=ae (show codeF par c ng nf s0=(false,s0)from by unfold codeF;rw[if_neg (λh=>absurd c2 (mJ.1 h).2.1)]);rw[HE.out];clear c1 c2;go_enter func40,ntmps40;refine aj λQ HQ=>?_;go_wp2_with fail;refine HQ _ _ _ ?_;exact aS (v:= .bool false) (by simp[results,results40,go_sem]) rfl ⟨rfl,HI _ _ _ IM (Wr.of_below (ax _ _)),Wr.of_below (ax _ _)⟩
  ·have d2:decide (4<c.params)=false:=by simpa using c2
   by_cases c3:c.params>c.regs
   ·have d3:decide (c.regs<c.params)=true:=by simpa using c3
    have HE:=ae (show codeF par c ng nf s0=(false,s0)from by unfold codeF;rw[if_neg (λh=>absurd c3 (mJ.1 h).2.2.1)]);rw[HE.out];clear c1 c2 c3;go_enter func40,ntmps40;refine aj λQ HQ=>?_;go_wp2_with fail;refine HQ _ _ _ ?_;exact aS (v:= .bool false) (by simp[results,results40,go_sem]) rfl ⟨rfl,HI _ _ _ IM (Wr.of_below (ax _ _)),Wr.of_below (ax _ _)⟩
   ·have d3:decide (c.regs<c.params)=false:=by simpa using c3
    by_cases c4:c.regs>8000
    ·have d4:decide (8000<c.regs)=true:=by simpa using c4
     have HE:=ae (show codeF par c ng nf s0=(false,s0)from by unfold codeF;rw[if_neg (λh=>absurd c4 (mJ.1 h).2.2.2.1)]);rw[HE.out];clear c1 c2 c3 c4;go_enter func40,ntmps40;refine aj λQ HQ=>?_;go_wp2_with fail;refine HQ _ _ _ ?_;exact aS (v:= .bool false) (by simp[results,results40,go_sem]) rfl ⟨rfl,HI _ _ _ IM (Wr.of_below (ax _ _)),Wr.of_below (ax _ _)⟩
    ·have d4:decide (8000<c.regs)=false:=by simpa using c4
     cases c5:fR c.az 400 with
     |false=>
      rw[c5]at HO;have HE:=ae (show codeF par c ng nf s0=(false,s0)from by unfold codeF;rw[if_neg (λh=>absurd (mJ.1 h).2.2.2.2.1 (by rw[c5];decide))]);rw[HE.out];clear c1 c2 c3 c4 c5;go_enter func40,ntmps40;refine aj λQ HQ=>?_;go_wp2_with fail;refine(HO _ (ax w _)).mono ?_;rintro e w1 ⟨rfl,hb1⟩;have bQ:=ae ((ax w (.cells #[.int .i64 c.params,.int .i64 c.regs,.slice LA c.az.length lc,.slice BA c.ins.length bc] 54)).trans (hb1.mono (ax w (.cells #[.int .i64 c.params,.int .i64 c.regs,.slice LA c.az.length lc,.slice BA c.ins.length bc] 54)).size));have hg1:=xx.below hb1 xx.lt;have vD:=ae hg1;have g0:=hg1.cell (j:=0) rfl;have g1:=hg1.cell (j:=1) rfl;have g2:=hg1.cell (j:=2) rfl;have g3:=hg1.cell (j:=3) rfl;have gl:=hg1.lt
      clear hb1 hg1 r0 r1 r2 r3;go_wp2_with fail;refine HQ _ _ _ ?_;exact aS (v:= .bool false) (by simp[results,results40,go_sem]) rfl ⟨rfl,HI _ _ _ IM (Wr.of_below bQ.out),Wr.of_below bQ.out⟩
     |true=>
      rw[c5]at HO;by_cases c6:(c.ins.length:Int)<1
      ·have d6:decide ((c.ins.length:Int)<1)=true:=by simpa using c6
       have HE:=ae (show codeF par c ng nf s0=(false,s0)from by unfold codeF;rw[if_neg (λh=>absurd c6 (mJ.1 h).2.2.2.2.2.1)]);rw[HE.out];clear c1 c2 c3 c4 c5 c6;go_enter func40,ntmps40;refine aj λQ HQ=>?_;go_wp2_with fail;refine(HO _ (ax w _)).mono ?_;rintro e w1 ⟨rfl,hb1⟩;have bQ:=ae ((ax w (.cells #[.int .i64 c.params,.int .i64 c.regs,.slice LA c.az.length lc,.slice BA c.ins.length bc] 54)).trans (hb1.mono (ax w (.cells #[.int .i64 c.params,.int .i64 c.regs,.slice LA c.az.length lc,.slice BA c.ins.length bc] 54)).size));have hg1:=xx.below hb1 xx.lt;have vD:=ae hg1;have g0:=hg1.cell (j:=0) rfl;have g1:=hg1.cell (j:=1) rfl;have g2:=hg1.cell (j:=2) rfl;have g3:=hg1.cell (j:=3) rfl;have gl:=hg1.lt;clear hb1 hg1 r0 r1 r2 r3;go_wp2_with fail
       refine HQ _ _ _ ?_;exact aS (v:= .bool false) (by simp[results,results40,go_sem]) rfl ⟨rfl,HI _ _ _ IM (Wr.of_below bQ.out),Wr.of_below bQ.out⟩
      ·have d6:decide ((c.ins.length:Int)<1)=false:=by simpa using c6
       by_cases c7:(c.ins.length:Int)>8000
       ·have d7:decide (8000<(c.ins.length:Int))=true:=by simpa using c7
        have HE:=ae (show codeF par c ng nf s0=(false,s0)from by unfold codeF;rw[if_neg (λh=>absurd c7 (mJ.1 h).2.2.2.2.2.2.1)]);rw[HE.out];clear c1 c2 c3 c4 c5 c6 c7;go_enter func40,ntmps40;refine aj λQ HQ=>?_;go_wp2_with fail;refine(HO _ (ax w _)).mono ?_;rintro e w1 ⟨rfl,hb1⟩;have bQ:=ae ((ax w (.cells #[.int .i64 c.params,.int .i64 c.regs,.slice LA c.az.length lc,.slice BA c.ins.length bc] 54)).trans (hb1.mono (ax w (.cells #[.int .i64 c.params,.int .i64 c.regs,.slice LA c.az.length lc,.slice BA c.ins.length bc] 54)).size));have hg1:=xx.below hb1 xx.lt;have vD:=ae hg1;have g0:=hg1.cell (j:=0) rfl;have g1:=hg1.cell (j:=1) rfl;have g2:=hg1.cell (j:=2) rfl;have g3:=hg1.cell (j:=3) rfl;have gl:=hg1.lt;clear hb1 hg1 r0 r1 r2 r3;go_wp2_with fail
        refine HQ _ _ _ ?_;exact aS (v:= .bool false) (by simp[results,results40,go_sem]) rfl ⟨rfl,HI _ _ _ IM (Wr.of_below bQ.out),Wr.of_below bQ.out⟩
       ·have d7:decide (8000<(c.ins.length:Int))=false:=by simpa using c7
        have TF:c.ins.length<=8000:=by omega
        have Lt:1<=c.ins.length:=by omega
        cases c8:i6 [] c.ins with
        |false=>
         have HE:=ae (show codeF par c ng nf s0=(false,s0)from by unfold codeF;rw[if_neg (λh=>absurd (mJ.1 h).2.2.2.2.2.2.2 (by rw[c8];decide))]);rw[HE.out];unfold EZ at qW;simp only[c8]at qW;clear c1 c2 c3 c4 c5 c6 c7 c8;go_enter func40,ntmps40;refine aj λQ HQ=>?_;go_wp2_with fail;refine(HO _ (ax w _)).mono ?_;rintro e w1 ⟨rfl,hb1⟩;have bQ:=ae ((ax w (.cells #[.int .i64 c.params,.int .i64 c.regs,.slice LA c.az.length lc,.slice BA c.ins.length bc] 54)).trans (hb1.mono (ax w (.cells #[.int .i64 c.params,.int .i64 c.regs,.slice LA c.az.length lc,.slice BA c.ins.length bc] 54)).size));have hg1:=xx.below hb1 xx.lt;have vD:=ae hg1;have g0:=hg1.cell (j:=0) rfl;have g1:=hg1.cell (j:=1) rfl;have g2:=hg1.cell (j:=2) rfl
         have g3:=hg1.cell (j:=3) rfl;have gl:=hg1.lt;clear hb1 hg1 r0 r1 r2 r3;go_wp2_with fail;refine(qW.out w1 bQ (by omega)).mono ?_;rintro e w2 ⟨rfl,mb,Fh,hmb,hmln,hrow2,J9,hmlt,GL⟩;have hz1:=bQ.size;have LI:=ae hrow2;have Qz:=ae ((Wr.of_below bQ.out).trans J9 (λ_ h=>aK h));have TR:=ae GL;have hneg:¬w.heap.size=ab:=by omega
         have hg2:=vD.wr J9 hneg;have HG2:=ae hg2;have k3:=hg2.cell (j:=3) rfl;have kl:=hg2.lt;clear hrow2 J9 GL hg2 g0 g1 g2 g3 gl;go_wp2_with fail;refine HQ _ _ _ ?_;exact aS (v:= .bool false) (by simp[results,results40,go_sem]) rfl ⟨rfl,HI _ _ _ IM.out Qz.out,Qz.mono (λ_ h=>aK (aK h))⟩
        |true=>
         have HE:=ae (show codeF par c ng nf s0=((qp par c ng nf s0 c.ins).1 && nZ c,(qp par c ng nf s0 c.ins).2)from by unfold codeF;rw[if_pos (mJ.2 ⟨c1,c2,c3,c4,c5,c6,c7,c8⟩)]);rw[HE.out];unfold EZ at qW;simp only[c8]at qW;clear c1 c2 c3 c4 c5 c6 c7 c8;go_enter func40,ntmps40;refine aj λQ HQ=>?_;go_wp2_with fail;refine(HO _ (ax w _)).mono ?_;rintro e w1 ⟨rfl,hb1⟩;have bQ:=ae ((ax w (.cells #[.int .i64 c.params,.int .i64 c.regs,.slice LA c.az.length lc,.slice BA c.ins.length bc] 54)).trans (hb1.mono (ax w (.cells #[.int .i64 c.params,.int .i64 c.regs,.slice LA c.az.length lc,.slice BA c.ins.length bc] 54)).size));have hg1:=xx.below hb1 xx.lt;have vD:=ae hg1;have g0:=hg1.cell (j:=0) rfl;have g1:=hg1.cell (j:=1) rfl
         have g2:=hg1.cell (j:=2) rfl;have g3:=hg1.cell (j:=3) rfl;have gl:=hg1.lt;clear hb1 hg1 r0 r1 r2 r3;go_wp2_with fail;refine(qW.out w1 bQ (by omega)).mono ?_;rintro e w2 ⟨rfl,mb,Fh,hmb,hmln,hrow2,J9,hmlt,GL⟩;have hz1:=bQ.size;have LI:=ae hrow2;have Qz:=ae ((Wr.of_below bQ.out).trans J9 (λ_ h=>aK h));have TR:=ae GL;have hneg:¬w.heap.size=ab:=by omega
         have hg2:=vD.wr J9 hneg;have HG2:=ae hg2;have k3:=hg2.cell (j:=3) rfl;have kl:=hg2.lt;clear hrow2 J9 GL hg2 g0 g1 g2 g3 gl;go_wp2_with fail;have HLAB3:=ae (TR.out trivial);go_loopw [57] (λi wr=>∃(k:Nat)(s:σ),i= .int .i64 (k:Nat)/\k<=c.ins.length/\qp par c ng nf s (c.ins.drop k)=qp par c ng nf s0 c.ins/\I s wr/\tL wr ab c LA lc BA bc nf ng (.func (.func 39) #[] #[cv]) (.map (some mb))/\fL wr mb Fh (gS c.ins)/\Row wr w.heap.size #[.int .i64 c.params,.int .i64 c.regs,.slice LA c.az.length lc,.slice BA c.ins.length bc] 54/\Wr (λk=>k=ab\/F k) w wr) (λi _=>c.ins.length-(intOf i).toNat)
         case atStart=>exact⟨0,s0,rfl,Nat.zero_le _,rfl,HI _ _ _ IM.out Qz.out,LI.out,HLAB3.out,HG2.out,Qz.mono (λ_ h=>aK (aK h))⟩
         case round=>
          obtain⟨k,s,rfl,hk,hcs,Q3,pJ,hlb,hgc,hwr⟩:=hrel;have Fp:=ae hcs;have HIS:=ae Q3;have tZ:=ae pJ;have QG:=ae hlb;have HGC:=ae hgc;have tN:=ae hwr;have pS:=hwr.size;have hBw:Below B w wr:=hwr.below hB (λk hk=>by rcases hk with h'|h';exact h'▸hab;exact(HF.out k h').1);have hrwl:=Row.lt pJ;have gcl:=hgc.lt;have gc3:=hgc.cell (j:=3) rfl;clear hcs Q3 pJ hlb hgc hwr k3 kl;by_cases hlt:k<c.ins.length
          ·obtain⟨bb,zO,x,rfl,hbb,hbk,b0,b1,b2,b3,b4,⟨sv,b5,hst⟩,hx0,hx1,hx2,hx3,Fj⟩:=(HK.below hBw (aY _) (λ_ _ h=>h.below hBw (aY _))).get hlt;simp only[Nat.add_zero]at b0 b1 b2 b3 b4 b5;obtain⟨SA,scap,vA⟩:∃SA scap,sv= .slice SA x.arg.length scap:=(by obtain⟨A',c',h,_⟩:=hst;exact⟨_,_,h⟩)
           subst vA;have hb1:=ax wr (.cells #[.int .i64 x.op,.int .i64 x.dst,.int .i64 x.a,.int .i64 x.b,.int .i64 x.n,.slice SA x.arg.length scap] 94);have hwx:Wr (λk=>k=ab\/F k) w (wr.alloc (.cells #[.int .i64 x.op,.int .i64 x.dst,.int .i64 x.a,.int .i64 x.b,.int .i64 x.n,.slice SA x.arg.length scap] 94)):=tN.trans (eW hb1) (λ_ h=>h.elim)
           have vC:=ae (Oc (λb w'=>b=(par s x.n x.arg.length).1/\I (par s x.n x.arg.length).2 w'/\Wr F (wr.alloc (.cells #[.int .i64 x.op,.int .i64 x.dst,.int .i64 x.a,.int .i64 x.b,.int .i64 x.n,.slice SA x.arg.length scap] 94)) w') ab c LA lc (some ⟨bb,zO,.none⟩) bc nf ng cv mb Fh x SA scap B (wr.alloc (.cells #[.int .i64 x.op,.int .i64 x.dst,.int .i64 x.a,.int .i64 x.b,.int .i64 x.n,.slice SA x.arg.length scap] 94)) (Row.below tZ.out hb1 hrwl) (QG.below hb1) Fj (by simp;omega) (hst.below (hb1.mono (by omega)) (aY _)) (λh0 W hW=>(HP.out s x.n x.arg.length W h0 (HI _ _ _ HIS (Wr.of_below (hb1.trans (hW.mono hb1.size)))) (hwx.trans (eW hW) (λ_ h=>h.elim))).mono (λe w' h=>⟨_,h.1,rfl,h.2.1,(Wr.of_below hW).trans h.2.2 (λ_ h=>aK h)⟩)));have QT:=ae hb1
           have fD:=ae hbk;have hkb:(k:Int)<(c.ins.length:Int):=by omega
           have iF:bb<wr.heap.size:=by omega
           clear hst hbk hBw hb1 hwx hx0 hx1 hx2 hx3 Fj;unfold cH at vC;go_wp2_with fail;refine vC.mono ?_;rintro e w4 ⟨bz,rfl,hs⟩;have hst:∃s',CW par c ng nf s x=(bz,s')/\I s' w4/\Wr F wr w4:=by
            rcases hs with⟨h1,h2,h3,h4,h5⟩|⟨h1,h2,h3⟩
            ·refine⟨(par s x.n x.arg.length).2,?_,h4,(Wr.of_below QT.out).trans h5 (λ_ h=>aK h)⟩;unfold CW;rw[if_pos ⟨h1,h2⟩,h3]
            ·refine⟨s,?_,HI _ _ _ HIS (Wr.of_below (QT.trans (h3.mono QT.size))),Wr.of_below (QT.trans (h3.mono QT.size))⟩;unfold CW;rw[if_neg h1,h2]
           obtain⟨s',hs1,hs2,hs3⟩:=hst;have hnew:=(Fp.out).symm.trans (by rw[wO fD.out,J3 par hs1]);have E3:=ae hnew;have WR:=ae hs2;have zQ:=ae hs3;have HWT:=ae (tN.trans hs3 (λ_ h=>aK (bu h)));clear hs hs1 hs2 hs3 hnew b0 b1 b2 b3 b4 b5 gc3;have hbz:bz=true\/bz=false:=by cases bz<;>simp
           rcases hbz with rfl|rfl
           ·go_wp2_with fail;go_roundw
            case rel=>
             refine⟨k+1,s',by go_num,hlt,?_,WR.out,Row.wr tZ.out zQ (λh=>(HF _ h).2.2 rfl),QG.wr zQ (λh=>by have:=(HF _ h).2.1;omega),HGC.wr zQ (λh=>by have:=(HF _ h).2.1;omega),HWT.out⟩;have h9:=E3.out;rw[if_pos trivial]at h9;exact h9.symm
            case measure=>simp[intOf];omega
           ·go_wp2_with fail;have h9:=E3.out;rw[if_neg (by decide)]at h9;have H9:=ae h9;clear h9;refine HQ _ _ _ ?_;refine aS (v:= .bool false) (by simp[results,results40,go_sem]) rfl ?_;rw[H9.out];exact⟨rfl,WR.out,HWT.out⟩
          ·obtain rfl:k=c.ins.length:=by omega
           have h9:qp par c ng nf s0 c.ins=(true,s):=by rw[<-Fp.out,ou (aY _),qp]
           have H9:=ae h9;obtain⟨bb,zO,x,yH,hbb,hbk,b0,_⟩:=(HK.below hBw (aY _) (λ_ _ h=>h.below hBw (aY _))).get (show c.ins.length-1<c.ins.length by omega);subst yH;simp only[Nat.add_zero]at b0;have K5:=ae (O4 hbk);obtain⟨m,hm⟩:∃m,c.ins.length=m+1:=⟨c.ins.length-1,by omega⟩
           have hm2:c.ins.length-1=m:=by omega
           rw[hm2]at b0;obtain⟨xo,hxo⟩:∃o,o=x.op:=⟨_,rfl⟩
           rw[<-hxo]at b0 K5;have iF:bb<wr.heap.size:=by omega
           have hxc:xo=15\/xo=17\/xo=13\/(xo≠15/\xo≠17/\xo≠13):=by omega
           clear h9 hbk hBw hxo hm2;rcases hxc with rfl|rfl|rfl|⟨n1,n2,n3⟩
           all_goals try have e1:(xo==15)=false:=by simpa using n1
           all_goals try have e2:(xo==17)=false:=by simpa using n2
           all_goals try have e3:(xo==13)=false:=by simpa using n3
           all_goals try have W7:=ae (And.intro n1 (And.intro n2 n3))
           all_goals try clear n1 n2 n3
           all_goals go_wp2_with fail
           all_goals refine HQ _ _ _ ?_
           iterate 3 (·refine aS (v:= .bool true) (by simp[results,results40,go_sem]) rfl ?_;rw[H9.out,K5.out];exact⟨rfl,HIS.out,tN.out⟩)
           ·refine aS (v:= .bool false) (by simp[results,results40,go_sem]) rfl ?_;rw[H9.out,K5.out,decide_eq_false (λh=>by rcases h with h|h|h;exact W7.1 h;exact W7.2.1 h;exact W7.2.2 h)];exact⟨rfl,HIS.out,tN.out⟩
end Go.Proofs.YtinmgbodgecoeaaGreat
