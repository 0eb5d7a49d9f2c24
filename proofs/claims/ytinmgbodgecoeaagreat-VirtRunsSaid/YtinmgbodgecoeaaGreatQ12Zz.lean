/- virt.May. Conditions: as stated. What a run of virtual code answers, whatever is asked (plain). No program in sight. No condition. virt.Run, whatever is asked. Conditions: as stated. CopyTree, CopyTrees: a tree in memory of its own. Conditions: as stated. A memory of which some blocks alone are looked at; a row of its own whose elements lie in memory of their own. No condition. Virtual code in a memory of which some blocks alone are looked at. No condition. Copies of programs in memory of their own. Conditions: as stated. Programs that read the same are the same. Conditions: as stated. -/
import Derived.Test.YtinmgbodgecoeaaGreatVAskFZz
import Derived.Test.YtinmgbodgecoeaaGreatVRunBZz
import Derived.Laws.ByValue
set_option linter.unusedSimpArgs false
set_option linter.unusedVariables false
set_option maxHeartbeats 8000000
set_option maxRecDepth 100000
open Go.Proofs.Tryz
namespace Go.Proofs.YtinmgbodgecoeaaGreat
open Go.RowKit
theorem Gb{c:aR}{ng nf:Int}{par par':Int->Int->Bool}{x:bg}(h:x.op≠10):aH c ng nf par x=aH c ng nf par' x:=by
 unfold aH;rw[if_neg h,if_neg h]
theorem uJ{c:aR}{ng nf:Int}{par:Int->Int->Bool}{x:bg}(h:x.op=10):aH c ng nf par x=(sB c nf x && par x.n x.arg.length):=by
 obtain⟨op,dst,a,b,n,arg⟩:=x;simp only at h;subst h;simp[aH,sB,Bool.and_assoc]
theorem R7(q:Int->Int->Bool)(c:aR)(ng nf:Int)(x:bg):(CW (λ(_:Unit)n k=>(q n (k:Nat),())) c ng nf () x).1=sJ c ng nf q x:=by
 unfold CW;by_cases h:x.op=10
 ·rw[qw (par:=sX),qw (par:=cG),qw (par:=q),uJ h,uJ h,uJ h];simp only[sX,cG,h,true_and,Bool.and_true,Bool.and_false];split
  ·rename_i h1;simp only[Bool.and_eq_true]at h1;obtain⟨h2,h3,h4,h5,h6,h7,h8⟩:=h1;simp only[h2,h3,h4,h5,h6,h7,h8,Bool.true_and]
  ·rename_i h1
   symm
   cases hq:q x.n x.arg.length with
   |false=>simp
   |true=>simpa using h1
 ·rw[if_neg (λhh=>h hh.1),qw (par:=cG),qw (par:=q),Gb (par':=q) h]
theorem DC(q:Int->Int->Bool)(c:aR)(ng nf:Int):∀l:List bg,(qp (λ(_:Unit)n k=>(q n (k:Nat),())) c ng nf () l).1=l.all (sJ c ng nf q)
 |[]=>rfl
 |x::l=>by
  rw[qp,List.all_cons,<-R7 q c ng nf x];by_cases h:(CW (λ(_:Unit)n k=>(q n (k:Nat),())) c ng nf () x).1=true
  ·rw[if_pos h,h,Bool.true_and];exact DC q c ng nf l
  ·rw[if_neg h];simp at h;rw[h];rfl
theorem codeF_eq(q:Int->Int->Bool)(c:aR)(ng nf:Int):(codeF (λ(_:Unit)n k=>(q n (k:Nat),())) c ng nf ()).1=gD c ng nf q:=by
 unfold codeF gD;split
 ·simp only[DC]
 ·rfl
theorem I4(p:bB)(pb:Nat)(GA FA:Option Addr)(gc fc:Nat)(n:Int)(k:Nat)(B:Nat)(W:World)(hr:Row W pb #[.slice GA p.ay.length gc,.slice FA p.funcs.length fc,.int .i64 p.main] 31)(hf:SliceAt W B 4 (fT W B) p.funcs (.slice FA p.funcs.length fc))(hB:B<=W.heap.size)(hn:0<=n/\n<(p.funcs.length:Nat)):
  Calls prog 39 #[.int .i64 n,.int .i64 k,.pointer (some ⟨pb,0,.none⟩)] W λe w'=>e= .returned (.bool (gN p n (k:Nat)))/\W=w':=by
 obtain⟨f,rfl⟩:=Int.eq_ofNat_of_zero_le hn.1;have hfl:f<p.funcs.length:=by omega
 obtain⟨b,off,g,rfl,hb,hg,g0,_⟩:=hf.get hfl;simp only[Nat.add_zero]at g0;have r1:=hr.cell (j:=1) rfl;have rl:=hr.lt;have hbl:b<W.heap.size:=by omega
 have hfi:(f:Int)<(p.funcs.length:Int):=by omega
 have HE:=ae (show gN p (f:Int) (k:Nat)=(g.params==(k:Int))from by
  unfold gN;rw[Int.toNat_natCast,List.getD_eq_getElem?_getD,hg,Option.getD_some];by_cases h:g.params=(k:Int)<;>simp[h])
 rw[HE.out];clear hf hr hg hn;go_enter func39,ntmps39;go_wp2_with fail;go_ret;exact⟨rfl,rfl⟩
theorem Fw(p:bB)(P:Value×Value×Value)(B:Nat)(w:World)(hB:B<=w.heap.size)(hP:bP w B P p):
  Calls prog 22 #[.agg #[P.1,P.2.1,P.2.2]] w λe w'=>e= .returned (.bool (bY p))/\Below w.heap.size w w':=by
 obtain⟨GA,gc,FA,fc,rfl⟩:=hP.shape;have XG:∀(fn:Fn)(first aA:Array Value)(w:World),(Instr.makeFunc fn first aA).run prog w= .ok (.func fn first aA) w:=λ_ _ _ _=>rfl;have hfl:=hP.2.1.len.2;have hgl:=hP.1.len.2;have HO:=ae (λW(hb:Below w.heap.size w W)=>DN p.ay GA p.ay.length gc 16 B W (by have:=hb.size;omega) (hP.1.below (hb.mono hB) (aY _) (λ_ _ h=>h.below (hb.mono hB) (aY _))));have XR:=ae (λW=>sY p.main (p.funcs.length:Int) W);have pQ:=ae (Row.new w #[.slice GA p.ay.length gc,.slice FA p.funcs.length fc,.int .i64 p.main] 31);have HP:=ae hP;clear hP;cases c1:fR p.ay 16 with
 |false=>
  rw[c1]at HO;have HE:=ae (show bY p=false from by unfold bY;rw[if_neg (λh=>absurd h.1 (by rw[c1];decide))]);clear c1;go_enter func22,ntmps22;refine aj λQ HQ=>?_;go_wp2_with fail;refine(HO _ (ax w _)).mono ?_;rintro e w1 ⟨rfl,hb1⟩;have bQ:=ae ((ax w (.cells #[.slice GA p.ay.length gc,.slice FA p.funcs.length fc,.int .i64 p.main] 31)).trans (hb1.mono (ax w (.cells #[.slice GA p.ay.length gc,.slice FA p.funcs.length fc,.int .i64 p.main] 31)).size));have hg1:=pQ.below hb1 pQ.lt;have vD:=ae hg1;have g0:=hg1.cell (j:=0) rfl;have g1:=hg1.cell (j:=1) rfl;have g2:=hg1.cell (j:=2) rfl;have gl:=hg1.lt;clear hb1 hg1;go_wp2_with fail;refine HQ _ _ _ ?_
  exact aS (v:= .bool false) (by simp[results,results22,go_sem]) rfl ⟨by rw[HE.out],bQ.out⟩
 |true=>
  rw[c1]at HO;by_cases c2:(p.funcs.length:Int)<1
  ·have d2:decide ((p.funcs.length:Int)<1)=true:=by simpa using c2
   have HE:=ae (show bY p=false from by unfold bY;rw[if_neg (λh=>absurd c2 h.2.1)]);clear c1 c2;go_enter func22,ntmps22;refine aj λQ HQ=>?_;go_wp2_with fail;refine(HO _ (ax w _)).mono ?_;rintro e w1 ⟨rfl,hb1⟩;have bQ:=ae ((ax w (.cells #[.slice GA p.ay.length gc,.slice FA p.funcs.length fc,.int .i64 p.main] 31)).trans (hb1.mono (ax w (.cells #[.slice GA p.ay.length gc,.slice FA p.funcs.length fc,.int .i64 p.main] 31)).size));have hg1:=pQ.below hb1 pQ.lt;have vD:=ae hg1;have g0:=hg1.cell (j:=0) rfl;have g1:=hg1.cell (j:=1) rfl;have g2:=hg1.cell (j:=2) rfl;have gl:=hg1.lt;clear hb1 hg1;go_wp2_with fail;refine HQ _ _ _ ?_;exact aS (v:= .bool false) (by simp[results,results22,go_sem]) rfl ⟨by rw[HE.out],bQ.out⟩
  ·have d2:decide ((p.funcs.length:Int)<1)=false:=by simpa using c2
   by_cases c3:(p.funcs.length:Int)>8
   ·have d3:decide (8<(p.funcs.length:Int))=true:=by simpa using c3
    have HE:=ae (show bY p=false from by unfold bY;rw[if_neg (λh=>absurd c3 h.2.2.1)]);clear c1 c2 c3;go_enter func22,ntmps22;refine aj λQ HQ=>?_;go_wp2_with fail;refine(HO _ (ax w _)).mono ?_;rintro e w1 ⟨rfl,hb1⟩;have bQ:=ae ((ax w (.cells #[.slice GA p.ay.length gc,.slice FA p.funcs.length fc,.int .i64 p.main] 31)).trans (hb1.mono (ax w (.cells #[.slice GA p.ay.length gc,.slice FA p.funcs.length fc,.int .i64 p.main] 31)).size));have hg1:=pQ.below hb1 pQ.lt;have vD:=ae hg1;have g0:=hg1.cell (j:=0) rfl;have g1:=hg1.cell (j:=1) rfl;have g2:=hg1.cell (j:=2) rfl;have gl:=hg1.lt;clear hb1 hg1;go_wp2_with fail;refine HQ _ _ _ ?_;exact aS (v:= .bool false) (by simp[results,results22,go_sem]) rfl ⟨by rw[HE.out],bQ.out⟩
   ·have d3:decide (8<(p.funcs.length:Int))=false:=by simpa using c3
    by_cases c4:0<=p.main/\p.main<(p.funcs.length:Int)
    ·rw[decide_eq_true c4]at XR;obtain⟨mf,GI⟩:=Int.eq_ofNat_of_zero_le c4.1;have Kj:mf<p.funcs.length:=by omega
     have Xa:=ae (List.getElem?_eq_getElem Kj);have hgd:p.funcs.getD p.main.toNat uK=p.funcs[mf]:=by rw[GI,Int.toNat_natCast,List.getD_eq_getElem?_getD,Xa.out];rfl
     have hm0:(0:Int)<=(mf:Int):=by omega
     have hm1:(mf:Int)<(p.funcs.length:Int):=by omega
     have uk:s5 p↔p.funcs[mf].params=0:=by unfold s5;rw[hgd];exact⟨λh=>h.2.2.2.2,λh=>⟨c1,c2,c3,c4,h⟩⟩
     have Dk:=ae uk;have S6:=ae (HP.2.1);have HMF:=ae GI;rw[GI]at XR pQ ⊢;clear uk hgd GI c1 c2 c3 c4;by_cases c5:p.funcs[mf].params=0
     ·have d5:(p.funcs[mf].params !=0)=false:=by simpa using c5
      have HE:=ae (show bY p=p.funcs.all (λc=>gD c p.ay.length p.funcs.length (gN p))from by unfold bY;rw[if_pos (Dk.2 c5)]);rw[HE.out];clear c5;go_enter func22,ntmps22;refine aj λQ HQ=>?_;go_wp2_with fail;refine(HO _ (ax w _)).mono ?_;rintro e w1 ⟨rfl,hb1⟩;have bQ:=ae ((ax w (.cells #[.slice GA p.ay.length gc,.slice FA p.funcs.length fc,.int .i64 (mf:Nat)] 31)).trans (hb1.mono (ax w (.cells #[.slice GA p.ay.length gc,.slice FA p.funcs.length fc,.int .i64 (mf:Nat)] 31)).size));have hg1:=pQ.below hb1 pQ.lt;have vD:=ae hg1;have g0:=hg1.cell (j:=0) rfl;have g1:=hg1.cell (j:=1) rfl;have g2:=hg1.cell (j:=2) rfl;have gl:=hg1.lt;clear hb1 hg1
      obtain⟨gb,mM,g',Bj,hgb,hg',zX⟩:=(S6.below (bQ.mono hB) (aY _) (λ_ _ h=>h.below (bQ.mono hB) (aY _))).get Kj;subst Bj;have y0:=zX.1;rw[Xa.out]at hg';injection hg' with hg';subst hg';simp only[Nat.add_zero]at y0;have CZ:gb<w1.heap.size:=by have:=bQ.size;omega
      clear zX;go_wp2_with fail;refine(XR _).mono ?_;rintro e w' ⟨rfl,rfl⟩;go_wp2_with fail;go_loopw [46] (λi wr=>∃k:Nat,i= .int .i64 (k:Nat)/\k<=p.funcs.length/\(p.funcs.drop k).all (λc=>gD c p.ay.length p.funcs.length (gN p))=p.funcs.all (λc=>gD c p.ay.length p.funcs.length (gN p))/\Below w.heap.size w wr/\Row wr w.heap.size #[.slice GA p.ay.length gc,.slice (some ⟨gb,mM,none⟩) p.funcs.length fc,.int .i64 (mf:Nat)] 31) (λi _=>p.funcs.length-(intOf i).toNat)
      case atStart=>exact⟨0,rfl,Nat.zero_le _,rfl,bQ.out,vD.out⟩
      case round=>
       obtain⟨k,rfl,hk,hcs,aJ,hx⟩:=hrel;have Fp:=ae hcs;have cB:=ae aJ;have WM:=ae hx;have p0:=hx.cell (j:=0) rfl;have p1:=hx.cell (j:=1) rfl;have p2:=hx.cell (j:=2) rfl;have hxl:=hx.lt;have pS:=aJ.size;clear hcs hx g0 g1 g2 gl y0;by_cases hlt:k<p.funcs.length
       ·obtain⟨fb,nS,g,Bj,hfb,hfk,zX⟩:=(S6.below (aJ.mono hB) (aY _) (λ_ _ h=>h.below (aJ.mono hB) (aY _))).get hlt;injection Bj with Bj;injection Bj with e1 e2;subst e1 e2;obtain⟨z0,z1,⟨lv,z2,hlv⟩,⟨bv,z3,Bi⟩,_,_⟩:=zX;simp only[Nat.add_zero]at z0 z1 z2 z3;obtain⟨⟨LA,lc,Kk,_⟩,⟨BA,bc,Kq,_⟩⟩:=And.intro hlv Bi;subst Kk Kq;have hb2:=aB wr (.cells #[.int .i64 g.params,.int .i64 g.regs,.slice LA g.az.length lc,.slice BA g.ins.length bc] 54) (.cells #[.int .i64 g.params,.int .i64 g.regs,.slice LA g.az.length lc,.slice BA g.ins.length bc,.int .i64 p.funcs.length,.int .i64 p.ay.length,(.func (.func 39) #[] #[.pointer (some ⟨w.heap.size,0,.none⟩)]),.map none] 103);have hb9:=cB.trans (hb2.mono pS)
        have hz2:((wr.alloc (.cells #[.int .i64 g.params,.int .i64 g.regs,.slice LA g.az.length lc,.slice BA g.ins.length bc] 54)).alloc (.cells #[.int .i64 g.params,.int .i64 g.regs,.slice LA g.az.length lc,.slice BA g.ins.length bc,.int .i64 p.funcs.length,.int .i64 p.ay.length,(.func (.func 39) #[] #[.pointer (some ⟨w.heap.size,0,.none⟩)]),.map none] 103)).heap.size=wr.heap.size+2:=by simp
        have HFS:=ae (Rl (λ_ W=>Wr (λk=>k=wr.heap.size+1) ((wr.alloc (.cells #[.int .i64 g.params,.int .i64 g.regs,.slice LA g.az.length lc,.slice BA g.ins.length bc] 54)).alloc (.cells #[.int .i64 g.params,.int .i64 g.regs,.slice LA g.az.length lc,.slice BA g.ins.length bc,.int .i64 p.funcs.length,.int .i64 p.ay.length,(.func (.func 39) #[] #[.pointer (some ⟨w.heap.size,0,.none⟩)]),.map none] 103)) W) (λ_ n k=>(gN p n (k:Nat),())) (λ_=>False) () (wr.heap.size+1) g LA lc BA bc p.funcs.length p.ay.length (.pointer (some ⟨w.heap.size,0,.none⟩)) (.map none) B ((wr.alloc (.cells #[.int .i64 g.params,.int .i64 g.regs,.slice LA g.az.length lc,.slice BA g.ins.length bc] 54)).alloc (.cells #[.int .i64 g.params,.int .i64 g.regs,.slice LA g.az.length lc,.slice BA g.ins.length bc,.int .i64 p.funcs.length,.int .i64 p.ay.length,(.func (.func 39) #[] #[.pointer (some ⟨w.heap.size,0,.none⟩)]),.map none] 103)) (Row.new' _ _ (by simp)) (by simp;omega) (by omega)
         (hlv.below (hb2.mono (by omega)) (aY _) (λ_ _ h=>h.below (hb2.mono (by omega)) (aY _))) (Bi.below (hb2.mono (by omega)) (aY _) (λ_ _ h=>h.below (hb2.mono (by omega)) (aY _))) (λk h=>h.elim) (Wr.refl _ _) (λ_ _ _ h1 h2=>h1.trans h2 (λ_ h=>aK h)) (λ_ n k W hn hI _=>by
          have hWb:Below B w W:=(hb9.mono hB).trans (hI.below (by rw[hz2];omega) (λk hk=>by have:k=wr.heap.size+1:=hk;omega));refine(I4 p w.heap.size GA (some ⟨gb,mM,none⟩) gc fc n k B W ?_ (S6.below hWb (aY _) (λ_ _ h=>h.below hWb (aY _))) (by have:=hI.size;rw[hz2]at this;omega) hn).mono (λe w' h=>⟨h.1,h.2▸hI,h.2▸Wr.refl _ _⟩);rw[HMF.out];exact((WM.alloc _).alloc _).wr hI (by omega)))
        rw[show Fe (λ_ W=>Wr (λk=>k=wr.heap.size+1) ((wr.alloc (.cells #[.int .i64 g.params,.int .i64 g.regs,.slice LA g.az.length lc,.slice BA g.ins.length bc] 54)).alloc (.cells #[.int .i64 g.params,.int .i64 g.regs,.slice LA g.az.length lc,.slice BA g.ins.length bc,.int .i64 p.funcs.length,.int .i64 p.ay.length,(.func (.func 39) #[] #[.pointer (some ⟨w.heap.size,0,.none⟩)]),.map none] 103)) W) (λ_=>False) (wr.heap.size+1) (codeF (λ(_:Unit)n k=>(gN p n (k:Nat),())) g p.ay.length p.funcs.length ())=λw0 e w'=>e= .returned (.bool (gD g p.ay.length p.funcs.length (gN p)))/\Wr (λk=>k=wr.heap.size+1) ((wr.alloc (.cells #[.int .i64 g.params,.int .i64 g.regs,.slice LA g.az.length lc,.slice BA g.ins.length bc] 54)).alloc (.cells #[.int .i64 g.params,.int .i64 g.regs,.slice LA g.az.length lc,.slice BA g.ins.length bc,.int .i64 p.funcs.length,.int .i64 p.ay.length,(.func (.func 39) #[] #[.pointer (some ⟨w.heap.size,0,.none⟩)]),.map none] 103)) w'/\Wr (λk=>k=wr.heap.size+1\/False) w0 w' from by funext w0 e w';unfold Fe;rw[codeF_eq]]at HFS
        have HD:=ae (show(p.funcs.drop k).all (λc=>gD c p.ay.length p.funcs.length (gN p))=(gD g p.ay.length p.funcs.length (gN p)&& (p.funcs.drop (k+1)).all (λc=>gD c p.ay.length p.funcs.length (gN p)))from by rw[wO hfk];rfl);have bC:=ae hb2;have hkl:(k:Int)<(p.funcs.length:Int):=by omega
        have PL:gb<wr.heap.size:=by omega
        clear hlv Bi aJ hfk hb2 hb9 hz2;cases hg1:gD g p.ay.length p.funcs.length (gN p)with
        |true=>
         rw[hg1]at HFS HD;clear hg1;go_wp2_with fail;refine HFS.mono ?_;rintro e w9 ⟨rfl,Y2,_⟩;have XS:=ae (bC.trans (Y2.below (B:=wr.heap.size) (by simp;omega) (λk hk=>by omega)));clear Y2;go_wp2_with fail;go_roundw
         case rel=>exact⟨k+1,by go_num,by omega,by rw[<-Fp.out,HD.out];rfl,cB.trans (XS.mono pS),WM.below XS.out WM.lt⟩
         case measure=>simp[intOf];omega
        |false=>
         have H9:=ae (show p.funcs.all (λc=>gD c p.ay.length p.funcs.length (gN p))=false by rw[<-Fp.out,HD.out,hg1];rfl);rw[hg1]at HFS;clear hg1;go_wp2_with fail;refine HFS.mono ?_;rintro e w9 ⟨rfl,Y2,_⟩;have XS:=ae (bC.trans (Y2.below (B:=wr.heap.size) (by simp;omega) (λk hk=>by omega)));clear Y2;go_wp2_with fail;refine HQ _ _ _ ?_;exact aS (v:= .bool false) (by simp[results,results22,go_sem]) rfl ⟨by rw[H9.out],cB.trans (XS.mono pS)⟩
       ·obtain rfl:k=p.funcs.length:=by omega
        have H9:=ae (show p.funcs.all (λc=>gD c p.ay.length p.funcs.length (gN p))=true by rw[<-Fp.out,ou (aY _)];rfl);go_wp2_with fail;refine HQ _ _ _ ?_;exact aS (v:= .bool true) (by simp[results,results22,go_sem]) rfl ⟨by rw[H9.out],cB.out⟩
     ·have d5:(p.funcs[mf].params !=0)=true:=by simpa using c5
      have HE:=ae (show bY p=false from by unfold bY;rw[if_neg (λh=>c5 (Dk.1 h))]);clear c5;go_enter func22,ntmps22;refine aj λQ HQ=>?_;go_wp2_with fail;refine(HO _ (ax w _)).mono ?_;rintro e w1 ⟨rfl,hb1⟩;have bQ:=ae ((ax w (.cells #[.slice GA p.ay.length gc,.slice FA p.funcs.length fc,.int .i64 (mf:Nat)] 31)).trans (hb1.mono (ax w (.cells #[.slice GA p.ay.length gc,.slice FA p.funcs.length fc,.int .i64 (mf:Nat)] 31)).size));have hg1:=pQ.below hb1 pQ.lt;have vD:=ae hg1;have g0:=hg1.cell (j:=0) rfl;have g1:=hg1.cell (j:=1) rfl;have g2:=hg1.cell (j:=2) rfl;have gl:=hg1.lt;clear hb1 hg1
      obtain⟨gb,mM,g',Bj,hgb,hg',zX⟩:=(S6.below (bQ.mono hB) (aY _) (λ_ _ h=>h.below (bQ.mono hB) (aY _))).get Kj;subst Bj;have y0:=zX.1;rw[Xa.out]at hg';injection hg' with hg';subst hg';simp only[Nat.add_zero]at y0;have CZ:gb<w1.heap.size:=by have:=bQ.size;omega
      clear zX;go_wp2_with fail;refine(XR _).mono ?_;rintro e w' ⟨rfl,rfl⟩;go_wp2_with fail;refine HQ _ _ _ ?_;exact aS (v:= .bool false) (by simp[results,results22,go_sem]) rfl ⟨by rw[HE.out],bQ.out⟩
    ·rw[decide_eq_false c4]at XR;have HE:=ae (show bY p=false from by unfold bY;rw[if_neg (λh=>absurd h.2.2.2.1 c4)]);clear c1 c2 c3 c4;go_enter func22,ntmps22;refine aj λQ HQ=>?_;go_wp2_with fail;refine(HO _ (ax w _)).mono ?_;rintro e w1 ⟨rfl,hb1⟩;have bQ:=ae ((ax w (.cells #[.slice GA p.ay.length gc,.slice FA p.funcs.length fc,.int .i64 p.main] 31)).trans (hb1.mono (ax w (.cells #[.slice GA p.ay.length gc,.slice FA p.funcs.length fc,.int .i64 p.main] 31)).size));have hg1:=pQ.below hb1 pQ.lt;have vD:=ae hg1;have g0:=hg1.cell (j:=0) rfl;have g1:=hg1.cell (j:=1) rfl;have g2:=hg1.cell (j:=2) rfl;have gl:=hg1.lt;clear hb1 hg1;go_wp2_with fail;refine(XR _).mono ?_;rintro e w' ⟨rfl,rfl⟩;go_wp2_with fail;refine HQ _ _ _ ?_
     exact aS (v:= .bool false) (by simp[results,results22,go_sem]) rfl ⟨by rw[HE.out],bQ.out⟩
def yJ(p:bB)(ah:Int):Prop:=bY p=true/\0<=ah/\ah<=2000000
instance(p:bB)(ah:Int):Decidable (yJ p ah):=by unfold yJ;exact inferInstance
def AG(p:bB)(inp:List Int)(ah:Int):um:=if yJ p ah then vI (eB p) inp ah else⟨0,0,[],0,0⟩
def Bu(p:bB)(ah:Int):Int:=if yJ p ah then 0 else 1
theorem Dp{p:bB}(h:bY p=true):∃(f:Nat)(g:aR),p.main=f/\p.funcs[f]? =some g/\g.params=0:=by
 unfold bY at h;split at h
 ·rename_i hh;obtain⟨_,_,_,h4,h5⟩:=hh;obtain⟨f,hf⟩:=Int.eq_ofNat_of_zero_le h4.1;have hfl:f<p.funcs.length:=by omega
  refine⟨f,p.funcs[f],hf,List.getElem?_eq_getElem hfl,?_⟩;rw[hf,Int.toNat_natCast,List.getD_eq_getElem?_getD,List.getElem?_eq_getElem hfl]at h5;exact h5
 ·cases h
theorem Rh(p:bB)(inp:Value)(ah:Int)(GA FA:Option Addr)(gc fc:Nat)(w:World)(mb:Bool)
  (uk:∀W,Below w.heap.size w W->Calls prog 22 #[.agg #[.slice GA p.ay.length gc,.slice FA p.funcs.length fc,.int .i64 p.main]] W λe w'=>e= .returned (.bool mb)/\Below W.heap.size W w')
  (hno:mb=false\/ah<0\/ah>2000000)(IA:Option Addr)(il ic:Nat)(hinp:inp= .slice IA il ic):
  Calls prog 11 #[.agg #[.slice GA p.ay.length gc,.slice FA p.funcs.length fc,.int .i64 p.main],inp,.int .i64 ah] w λe w'=>e= .returned (.tuple #[.agg #[.int .i64 0,.int .i64 0,.slice none 0 0,.int .i64 0,.int .i64 0],.int .i64 1])/\Below w.heap.size w w':=by
 subst hinp;have hB2:=aB w (.cells #[.slice GA p.ay.length gc,.slice FA p.funcs.length fc,.int .i64 p.main] 31) (.cells #[.int .i64 0,.int .i64 0,.slice none 0 0,.int .i64 0,.int .i64 0] 40);have bC:=ae hB2;have pQ:=ae ((Row.new w #[.slice GA p.ay.length gc,.slice FA p.funcs.length fc,.int .i64 p.main] 31).alloc (.cells #[.int .i64 0,.int .i64 0,.slice none 0 0,.int .i64 0,.int .i64 0] 40));have ja:=Row.new (w.alloc (.cells #[.slice GA p.ay.length gc,.slice FA p.funcs.length fc,.int .i64 p.main] 31)) #[.int .i64 0,.int .i64 0,.slice none 0 0,.int .i64 0,.int .i64 0] 40;rw[World.size_alloc]at ja;have WZ:=ae ja;have Dk:=ae uk;clear hB2 ja uk;cases mb with
 |false=>
  clear hno;go_enter func11,ntmps11;refine aj λQ HQ=>?_;go_wp2_with fail;refine(Dk _ bC.out).mono ?_;rintro e w1 ⟨rfl,hb1⟩;have bQ:=ae (bC.trans (hb1.mono bC.size));have lV:=WZ.below hb1 WZ.lt;have sL:=pQ.below hb1 pQ.lt;have i0:=sL.cell (j:=0) rfl;have i1:=sL.cell (j:=1) rfl;have i2:=sL.cell (j:=2) rfl;have pl:=sL.lt;have r0:=lV.cell (j:=0) rfl;have r1:=lV.cell (j:=1) rfl;have r2:=lV.cell (j:=2) rfl;have r3:=lV.cell (j:=3) rfl;have r4:=lV.cell (j:=4) rfl;have s0:=lV.free 0;have s1:=lV.free 1;have s2:=lV.free 2;have s3:=lV.free 3;have s4:=lV.free 4;have rl:=lV.lt;have LK:=ae lV;clear hb1 lV sL;go_wp2_with fail;refine HQ _ _ _ ?_
  have nR:=(((((LK.set 0 (.int .i64 0)).set 1 (.int .i64 0)).set 2 (.slice none 0 0)).set 3 (.int .i64 0)).set 4 (.int .i64 0))
  have t0:=nR.cell (j:=0) rfl;have t1:=nR.cell (j:=1) rfl;have t2:=nR.cell (j:=2) rfl;have t3:=nR.cell (j:=3) rfl;have t4:=nR.cell (j:=4) rfl;clear nR;have hwf:=o5 w1 (w.heap.size+1) (.int .i64 0) (.int .i64 0) (.slice none 0 0) (.int .i64 0) (.int .i64 0);refine aS (v:= .tuple #[.agg #[.int .i64 0,.int .i64 0,.slice none 0 0,.int .i64 0,.int .i64 0],.int .i64 1]) (by simp[results,results11,go_sem,r0,r1,r2,r3,r4,t0,t1,t2,t3,t4]) rfl ⟨rfl,?_⟩;exact bQ.trans (hwf.below (B:=w.heap.size) (by have:=bQ.size;omega) (λk hk=>by omega))
 |true=>
  have Py:decide (ah<0)=true\/(decide (ah<0)=false/\decide (2000000<ah)=true):=by
   rcases hno with h|h|h
   ·cases h
   ·exact aK (by simpa using h)
   ·exact bu ⟨by simp;omega,by simpa using h⟩
  clear hno;rcases Py with hd|⟨hd,hd2⟩
  all_goals
   go_enter func11,ntmps11;refine aj λQ HQ=>?_;go_wp2_with fail;refine(Dk _ bC.out).mono ?_;rintro e w1 ⟨rfl,hb1⟩;have bQ:=ae (bC.trans (hb1.mono bC.size));have lV:=WZ.below hb1 WZ.lt;have sL:=pQ.below hb1 pQ.lt;have i0:=sL.cell (j:=0) rfl;have i1:=sL.cell (j:=1) rfl;have i2:=sL.cell (j:=2) rfl;have pl:=sL.lt;have r0:=lV.cell (j:=0) rfl;have r1:=lV.cell (j:=1) rfl;have r2:=lV.cell (j:=2) rfl;have r3:=lV.cell (j:=3) rfl;have r4:=lV.cell (j:=4) rfl;have s0:=lV.free 0;have s1:=lV.free 1;have s2:=lV.free 2;have s3:=lV.free 3;have s4:=lV.free 4;have rl:=lV.lt;have LK:=ae lV;clear hb1 lV sL;go_wp2_with fail;refine HQ _ _ _ ?_
   have nR:=(((((LK.set 0 (.int .i64 0)).set 1 (.int .i64 0)).set 2 (.slice none 0 0)).set 3 (.int .i64 0)).set 4 (.int .i64 0))
   have t0:=nR.cell (j:=0) rfl;have t1:=nR.cell (j:=1) rfl;have t2:=nR.cell (j:=2) rfl;have t3:=nR.cell (j:=3) rfl;have t4:=nR.cell (j:=4) rfl;clear nR;have hwf:=o5 w1 (w.heap.size+1) (.int .i64 0) (.int .i64 0) (.slice none 0 0) (.int .i64 0) (.int .i64 0);refine aS (v:= .tuple #[.agg #[.int .i64 0,.int .i64 0,.slice none 0 0,.int .i64 0,.int .i64 0],.int .i64 1]) (by simp[results,results11,go_sem,r0,r1,r2,r3,r4,t0,t1,t2,t3,t4]) rfl ⟨rfl,?_⟩;exact bQ.trans (hwf.below (B:=w.heap.size) (by have:=bQ.size;omega) (λk hk=>by omega))
def RanG(o:um)(er:Int)(w:World)(e:Ending)(w':World):Prop:=
 ∃outv,e= .returned (.tuple #[.agg #[.int .i64 o.kind,.int .i64 o.code,outv,.int .i64 o.steps,.int .i64 o.deep],.int .i64 er])/\w'.ownsRow w.heap.size 2 1 outv o.out.length (o.out.map (Value.int .i64))/\Below w.heap.size w w'
theorem q7(B:Nat)(p:bB)(P:Value×Value×Value)(inp:List Int)(inv:Value)(ah:Int)(w:World)(hB:B<=w.heap.size)(hP:bP w B P p)(hin:uB w B inv inp):
  Calls prog 11 #[.agg #[P.1,P.2.1,P.2.2],inv,.int .i64 ah] w λe w'=>RanG (AG p inp ah) (Bu p ah) w e w':=by
 obtain⟨GA,gc,FA,fc,rfl⟩:=hP.shape;obtain⟨IA,ic,Q0,_⟩:=id hin;have uk:∀W,Below w.heap.size w W->Calls prog 22 #[.agg #[.slice GA p.ay.length gc,.slice FA p.funcs.length fc,.int .i64 p.main]] W λe w'=>e= .returned (.bool (bY p))/\Below W.heap.size W w':=
  λW hW=>Fw p (.slice GA p.ay.length gc,.slice FA p.funcs.length fc,.int .i64 p.main) B W (by have:=hW.size;omega) (hP.below (hW.mono hB))
 by_cases hg:yJ p ah
 ·have ho:AG p inp ah=vI (eB p) inp ah:=if_pos hg;have he:Bu p ah=0:=if_pos hg;rw[ho,he];obtain⟨h1,h2,h3⟩:=hg;have hok:=vF hP.pin h1;obtain⟨f,g,hm,XI,hg0⟩:=Dp h1;have tC:=hP.pin;rw[h1]at uk;rw[hm]at uk hP ⊢;subst Q0;exact(Oa B p inp f g GA FA IA gc fc ic ah w hB hP hin hok h1 tC hm XI hg0 h2 h3 uk).mono (λe w' h=>h)
 ·have ho:AG p inp ah=⟨0,0,[],0,0⟩:=if_neg hg;have he:Bu p ah=1:=if_neg hg;rw[ho,he];have hno:bY p=false\/ah<0\/ah>2000000:=by
   cases hb:bY p with
   |false=>exact aK rfl
   |true=>exact bu (by have:¬(0<=ah/\ah<=2000000):=λh=>hg ⟨hb,h.1,h.2⟩;omega)
  refine(Rh p inv ah GA FA gc fc w _ uk hno IA _ ic Q0).mono ?_;rintro e w' ⟨rfl,hb⟩;exact⟨_,rfl,World.ownsRow_nil _ _ _ _,hb⟩
end Go.Proofs.YtinmgbodgecoeaaGreat
namespace Go.Proofs.YtinmgbodgecoeaaGreat
open Go.RowKit
def Sub(w w':World):Prop:=∀p v,w.cell? p=some v->w'.cell? p=some v
theorem Sub.refl(w:World):Sub w w:=λ_ _ h=>h
open Classical in
noncomputable def only(w:World)(S:Nat->Prop):World:={w with heap:=Array.ofFn (n:=w.heap.size) λi=>if S i.1 then w.heap[i.1]else .stringIter ByteArray.empty 0}
theorem Dv(w:World)(S:Nat->Prop):(only w S).heap.size=w.heap.size:=by simp[only]
theorem Em{w:World}{S:Nat->Prop}{k:Nat}(h:S k):(only w S).heap[k]? =w.heap[k]? :=by
 rcases Nat.lt_or_ge k w.heap.size with hl|hl
 ·simp[only,hl,h]
 ·rw[Array.getElem?_eq_none (by rw[Dv];exact hl),Array.getElem?_eq_none hl]
theorem Dw{w:World}{S:Nat->Prop}{p:Addr}{v:Value}(h:(only w S).cell? p=some v):S p.block/\p.block<w.heap.size/\w.cell? p=some v:=by
 have hlt:p.block<w.heap.size:=by
  unfold World.cell? at h;rcases Nat.lt_or_ge p.block w.heap.size with hl|hl
  ·exact hl
  ·rw[Array.getElem?_eq_none (by rw[Dv];exact hl)]at h;cases h
 by_cases hs:S p.block
 ·rw[World.cell?_of_block (Em hs)]at h;exact⟨hs,hlt,h⟩
 ·unfold World.cell? at h;simp[only,hlt,hs]at h
theorem AH(w:World)(S:Nat->Prop):Sub (only w S) w:=λ_ _ h=>(Dw h).2.2
theorem nM{w w':World}{S S':Nat->Prop}(h:∀k,S k->k<w.heap.size->S' k/\w'.heap[k]? =w.heap[k]?):Sub (only w S) (only w' S'):=by
 intro p v hv;obtain⟨h1,h2,h3⟩:=Dw hv;obtain⟨h4,h5⟩:=h _ h1 h2;rw[World.cell?_of_block (Em h4),World.cell?_of_block h5];exact h3
def Iw{α:Type}(E:World->Nat->(Nat->Option Value)->α->Prop)(sz:Nat):Prop:=
 ∀w w' B B' c c' x,Sub w w'->B<=B'->(∀j v,j<sz->c j=some v->c' j=some v)->E w B c x->E w' B' c' x
theorem SliceAt.sub{α:Type}{E:World->Nat->(Nat->Option Value)->α->Prop}{sz:Nat}(hE:Iw E sz){w w':World}{B B':Nat}{l:List α}{v:Value}(h:SliceAt w B sz (E w B) l v)(hs:Sub w w')(hB:B<=B'):SliceAt w' B' sz (E w' B') l v:=by
 obtain⟨A,aA,h0,h1,h2⟩:=h;refine⟨A,aA,h0,h1,λhp=>?_⟩;obtain⟨b,off,hA,hlt,hx⟩:=h2 hp;exact⟨b,off,hA,by omega,λi x hi=>hE _ _ _ _ _ _ _ hs hB (λj v _ hj=>hs _ _ hj) (hx i x hi)⟩
def mS(_:World)(_:Nat)(c:Nat->Option Value)(x:Int):Prop:=c 0=some (.int .i64 x)/\In64 x
theorem mS.mono:Iw mS 1:=λ_ _ _ _ _ _ _ _ _ hc h=>⟨hc _ _ (by decide) h.1,h.2⟩
theorem aD.sub{w w':World}{B B':Nat}{l:List Int}{v:Value}(h:aD w B l v)(hs:Sub w w')(hB:B<=B'):aD w' B' l v:=
 SliceAt.sub (E:=mS) mS.mono h hs hB
theorem sG.mono:Iw sG 3:=by
 intro w w' B B' c c' x hs hB hc h;obtain⟨h0,h1,⟨v,h2,h3⟩,h4⟩:=h;exact⟨hc _ _ (by decide) h0,hc _ _ (by decide) h1,⟨v,hc _ _ (by decide) h2,h3.sub hs hB⟩,h4⟩
def From(N:Nat):Nat->Prop:=λk=>N<=k
structure je {α:Type} (E:World->Nat->(Nat->Option Value)->α->Prop) (ty:TypeId) (sz ai:Nat) (w:World) (lv:Value) (l:List α) (xs:List Value):Prop where
 own:w.ownsRow ai ty sz lv l.length xs
 elems:∀i x,l[i]? =some x->E (only w (λb=>ai<=b/\¬lv.ownBlock=some b)) w.heap.size (λj=>xs[i*sz+j]?) x
theorem je.nil{α:Type}(E:World->Nat->(Nat->Option Value)->α->Prop)(ty:TypeId)(sz ai:Nat)(w:World):je E ty sz ai w (.slice none 0 0) ([]:List α) []:=
 ⟨by simpa using World.ownsRow_nil w ai ty sz,λi x h=>by simp at h⟩
theorem je.lt{α:Type}{E:World->Nat->(Nat->Option Value)->α->Prop}{ty:TypeId}{sz ai:Nat}{w:World}{lv:Value}{l:List α}{xs:List Value}(h:je E ty sz ai w lv l xs){g:Nat}(hg:lv.ownBlock=some g):ai<=g/\g<w.heap.size:=by
 obtain⟨h1,cs,h2⟩:=aC h.own hg;exact⟨h1,h2.lt⟩
theorem je.next{α:Type}{E:World->Nat->(Nat->Option Value)->α->Prop}{sz:Nat}(hE:Iw E sz){ty:TypeId}{ai g aA:Nat}{wr w1 W2 w3:World}{lv:Value}{l:List α}{xs us:List Value}{x:α}
  (h:je E ty sz ai wr lv l xs)(hbase:ai<=wr.heap.size)(h1:Below wr.heap.size wr w1)(hx:E (only w1 (From wr.heap.size)) w1.heap.size (λj=>us[j]?) x)(hus:us.length=sz)(h2:Below w1.heap.size w1 W2)
  (hown:w3.ownsRow ai ty sz (.slice (some ⟨g,0,none⟩) (l.length+1) aA) (l.length+1) (xs++us))(hgrow:W2.grownBy w3 lv.ownBlock)(hat:lv.ownBlock=some g\/g=W2.heap.size):
  je E ty sz ai w3 (.slice (some ⟨g,0,none⟩) (l.length+1) aA) (l++[x]) (xs++us):=by
 have z1:=h1.size;have z2:=h2.size;have z3:=hgrow.size;have hxl:xs.length=l.length*sz:=h.own.1;refine⟨by simpa using hown,λi y hy=>?_⟩;rcases Nat.lt_or_ge i l.length with hi|hi
 ·rw[List.getElem?_append_left hi]at hy;refine hE _ _ _ _ _ _ _ (nM ?_) (by omega) ?_ (h.elems i y hy)
  ·rintro k ⟨hk1,hk2⟩ hk3;refine⟨⟨hk1,λe=>?_⟩,?_⟩
   ·simp only[Value.ownBlock,Option.some.injEq]at e;subst e;rcases hat with hat|hat
    ·exact hk2 hat
    ·omega
   ·exact((hgrow.block k (by omega) (λe=>hk2 e.symm)).trans (h2.block k (by omega))).trans (h1.block k hk3)
  ·intro j v hjs hj;show(xs++us)[i*sz+j]? =some v;rw[List.getElem?_append_left ?_]
   ·exact hj
   ·rw[hxl]
    calc i*sz+j<i*sz+sz:=by omega
     _=(i+1)*sz:=by rw[Nat.add_mul,Nat.one_mul]
     _<=l.length*sz:=Nat.mul_le_mul_right _ hi
 ·obtain rfl:i=l.length:=by
   have:=(List.getElem?_eq_some_iff.1 hy).1;simp at this;omega
  simp at hy;subst hy;refine hE _ _ _ _ _ _ _ (nM ?_) (by omega) ?_ hx
  ·intro k hk1 hk2;have uR:wr.heap.size<=k:=hk1;refine⟨⟨by omega,λe=>?_⟩,?_⟩
   ·simp only[Value.ownBlock,Option.some.injEq]at e;subst e;rcases hat with hat|hat
    ·have:=(h.lt hat).2;omega
    ·omega
   ·exact(hgrow.block k (by omega) (λe=>by have:=(h.lt e.symm).2;omega)).trans (h2.block k hk2)
  ·intro j v hjs hj;show(xs++us)[l.length*sz+j]? =some v;rw[<-hxl,List.getElem?_append_right (by omega),Nat.add_sub_cancel_left];exact hj
theorem je.slice{α:Type}{E:World->Nat->(Nat->Option Value)->α->Prop}{sz:Nat}(hE:Iw E sz){ty:TypeId}{ai:Nat}{w:World}{lv:Value}{l:List α}{xs:List Value}(h:je E ty sz ai w lv l xs):
  SliceAt (only w (From ai)) w.heap.size sz (E (only w (From ai)) w.heap.size) l lv:=by
 obtain⟨h1,h2⟩:=h;obtain⟨hl,hr⟩:=id h1;rcases hr with⟨hv,hn⟩|⟨g,aA,cur,hv,hg,hh,hc1,hc2,hc3,hc4⟩
 ·exact⟨none,0,by rw[hv,hn],by omega,λhp=>by omega⟩
 ·have Kl:g<w.heap.size:=Row.lt (t:=ty) hh;refine⟨some ⟨g,0,none⟩,aA,hv,by unfold maxLen at hc2;omega,λhp=>⟨g,0,rfl,Kl,λi x hi=>?_⟩⟩;refine hE _ _ _ _ _ _ _ (nM λk hk _=>⟨hk.1,rfl⟩) (aY _) ?_ (h2 i x hi);intro j v hjs hj
  ·have hj:xs[i*sz+j]? =some v:=hj;have hil:=(List.getElem?_eq_some_iff.1 hi).1;have hlt:i*sz+j<l.length*sz:=by
    calc i*sz+j<i*sz+sz:=by omega
     _=(i+1)*sz:=by rw[Nat.add_mul,Nat.one_mul]
     _<=l.length*sz:=Nat.mul_le_mul_right _ hil
   rw[<-hc4,List.getElem?_take,if_pos hlt,Array.getElem?_toList]at hj;have e:=(Row.cell (cs:=cur) (t:=ty) hh hj)
   show(only w (From ai)).cell? ⟨g,0+i*sz+j,none⟩=some v;rw[World.cell?_of_block (Em (show From ai g from hg)),Nat.zero_add];exact e
def jg{α:Type}(E:World->Nat->(Nat->Option Value)->α->Prop)(sz:Nat)(l:List α)(w:World)(e:Ending)(w':World):Prop:=
 ∃A c,e= .returned (.slice A l.length c)/\SliceAt (only w' (From w.heap.size)) w'.heap.size sz (E (only w' (From w.heap.size)) w'.heap.size) l (.slice A l.length c)/\(l.length<=c/\c<=9223372036854775807)/\Below w.heap.size w w'
theorem jg.AK{α:Type}{E:World->Nat->(Nat->Option Value)->α->Prop}{sz:Nat}(hE:Iw E sz){ty:TypeId}{w w':World}{lv:Value}{l:List α}{xs:List Value}(h:je E ty sz w.heap.size w' lv l xs)(hb:Below w.heap.size w w'):jg E sz l w (.returned lv) w':=by
 have hs:=h.slice hE;obtain⟨A,aA,rfl,_⟩:=id hs;refine⟨A,aA,rfl,hs,?_,hb⟩;obtain⟨_,⟨h1,h2⟩|⟨g,c,cur,hv,_,_,h1,h2,_⟩⟩:=h.own
 ·injection h1 with _ _ h1;omega
 ·injection hv with _ _ hv;unfold maxLen at h2;omega
theorem nN{X:Nat->Prop}{w1 W:World}{a N:Nat}(hw:Wr X w1 W)(hX:∀i,X i->i<a)(hN:N<=a):Sub (only w1 (From a)) (only W (From N)):=
 nM λk(hk:a<=k)hk2=>⟨show N<=k by omega,hw.block k hk2 (λhx=>by have:=hX k hx;omega)⟩
theorem Lp{X:Nat->Prop}{w w0 W:World}{e:Ending}{C:World->Ending->World->Prop}(h:Wr X w W)(k:Wr X w W->C w0 e W):C w0 e W:=k h
end Go.Proofs.YtinmgbodgecoeaaGreat
namespace Go.Proofs.YtinmgbodgecoeaaGreat
open Go.RowKit
theorem kI.mono:Iw kI 6:=by
 intro w w' B B' c c' x hs hB hc h;obtain⟨h0,h1,h2,h3,h4,⟨v,h5,h6⟩,h7⟩:=h;exact⟨hc _ _ (by decide) h0,hc _ _ (by decide) h1,hc _ _ (by decide) h2,hc _ _ (by decide) h3,hc _ _ (by decide) h4,⟨v,hc _ _ (by decide) h5,h6.sub hs hB⟩,h7⟩
theorem fT.mono:Iw fT 4:=by
 intro w w' B B' c c' x hs hB hc h;obtain⟨h0,h1,⟨v,h2,h3⟩,⟨u,h4,h5⟩,h6⟩:=h;exact⟨hc _ _ (by decide) h0,hc _ _ (by decide) h1,⟨v,hc _ _ (by decide) h2,SliceAt.sub sG.mono h3 hs hB⟩,⟨u,hc _ _ (by decide) h4,SliceAt.sub kI.mono h5 hs hB⟩,h6⟩
theorem bP.sub{w w':World}{B B':Nat}{P:Value×Value×Value}{p:bB}(h:bP w B P p)(hs:Sub w w')(hB:B<=B'):bP w' B' P p:=
 ⟨SliceAt.sub sG.mono h.1 hs hB,SliceAt.sub fT.mono h.2.1 hs hB,h.2.2⟩
theorem bP.toE{w:World}{B:Nat}{P:Value×Value×Value}{p:bB}(h:bP w B P p)(c:Nat->Option Value)(h0:c 0=some P.1)(h1:c 1=some P.2.1)(h2:c 2=some P.2.2):mQ w B c p:=
 ⟨⟨_,h0,h.1⟩,⟨_,h1,h.2.1⟩,by rw[h2,h.2.2.1],h.2.2.2⟩
theorem bP.grow{w:World}{B B':Nat}{P:Value×Value×Value}{p:bB}(h:bP w B P p)(hB:B<=B'):bP w B' P p:=h.sub (Sub.refl _) hB
theorem KH:(prog.info? 2).map (λi=>(i.zero,i.size,i.bytes))=some (some (.int .i64 0),1,8):=by kernel_rfl
theorem uz(l:List Int)(A:Option Addr)(aA:Nat)(B:Nat)(w:World)(hB:B<=w.heap.size)(hv:aD w B l (.slice A l.length aA))(yF:l.length*8<=140737488351232):
  Calls prog 10 #[.slice A l.length aA] w (jg mS 1 l w):=by
 have hn:=(SliceAt.len hv).2;have HV:=ae hv;clear hv;obtain⟨i0,hi,hz0,hz1,hz2⟩:=info_parts KH;go_enter func10,ntmps10;refine aj λQ HQ=>?_;go_wp2_with fail;go_loopw [3,4] (λr i wr=>∃(k:Nat)(LA:Option Addr)(ln lc:Nat)(xs:List Value),k<=l.length/\i= .int .i64 k/\r= .slice LA ln lc/\je mS 2 1 w.heap.size wr (.slice LA ln lc) (l.take k) xs/\Below w.heap.size w wr) (λ_ i _=>l.length-(intOf i).toNat)
 case atStart=>exact⟨0,none,0,0,[],by omega,rfl,rfl,je.nil _ _ _ _ _,aV _ _⟩
 case round=>
  obtain⟨k,LA,ln,lc,xs,hk,rfl,rfl,hR,aJ⟩:=hrel;have HR:=ae hR;have cB:=ae aJ;have pS:=aJ.size;by_cases hlt:k<l.length
  ·obtain⟨b,off,x,rfl,hb,hk1,hx,pI⟩:=SliceAt.get (aD.below HV (aJ.mono hB) (aY _)) hlt;have QI:=ae hk1;have HX:=ae pI;have qP:(k:Int)<(l.length:Int):=by omega
   have hbl:b<wr.heap.size:=by omega
   have htl:(l.take k).length=k:=by simp;omega
   have zR:=ae htl;simp only[Nat.add_zero,Nat.mul_one]at hx;clear hR aJ hk1 pI htl;go_wp2_with(at_builtin;refine wpList_append_lies _ rfl (.tmp 11) (.tmp 16) 23 rfl w.heap.size 2 i0 (.int .i64 0) 1 8 underlying23 hi hz0 hz1 hz2 rfl (by decide) _ k xs rfl (by have h:=HR.own;rw[zR.out]at h;exact(aF h ((Wr.refl (λ_=>False) _).bH _) (λ_ _ h=>h))) ⟨wr.heap.size,0,none⟩ 1 1 [.int .i64 x] rfl rfl ?c1 ?c2 (by decide) ?c3 ?c4 ?c5 _ rfl ?_)
   case c1=>exact nV _ _ _
   case c2=>intro u hu;simp at hu;rcases hu with rfl;rfl
   case c3=>unfold maxLen;omega
   case c4=>omega
   case c5=>first|omega|(simp<;>omega)
   ·intro g cap' w3 iM hgrow hat Kl;have HN:=ae (show je mS 2 1 w.heap.size w3 (.slice (some ⟨g,0,none⟩) (k+1) cap') (l.take (k+1)) (xs++[.int .i64 x])from by
     have h:=je.next mS.mono HR (by omega) (aV _ _) (us:=[.int .i64 x]) (x:=x) ⟨rfl,HX.out⟩ rfl (ax wr _) (by rw[zR.out];exact iM) hgrow (by simpa using hat);rw[zR.out]at h;rw[bW QI.out];exact h)
    have QS:=ae (show Below w.heap.size w w3 from cB.trans (((aV _ _).alloc (by omega) _).grown hgrow (by first|omega|(simp<;>omega)) (λg hg=>by have:=(HR.lt hg);omega)));clear iM hgrow hat;go_wp2_with fail;go_roundw
    case rel=>exact⟨k+1,_,_,_,_,by omega,by go_num,rfl,HN.out,QS.out⟩
    case measure=>simp[intOf];omega
  ·obtain rfl:k=l.length:=by omega
   rw[List.take_length]at hR;have DW:=ae hR;clear hR aJ;go_wp2_with fail;refine HQ _ _ _ ?_;exact aS (v:= .slice LA ln lc) (by simp[results,results10,go_sem]) rfl (jg.AK mS.mono DW.out cB.out)
theorem Ns:(prog.info? 3).map (λi=>(i.zero,i.size,i.bytes))=some (some (.int .i64 0),1,8):=by kernel_rfl
theorem zA(l:List Int)(A:Option Addr)(aA:Nat)(B:Nat)(w:World)(hB:B<=w.heap.size)(hv:aD w B l (.slice A l.length aA))(yF:l.length*8<=140737488351232):
  Calls prog 99 #[.slice A l.length aA] w (jg mS 1 l w):=by
 have hn:=(SliceAt.len hv).2;have HV:=ae hv;clear hv;obtain⟨i0,hi,hz0,hz1,hz2⟩:=info_parts Ns;go_enter func99,ntmps99;refine aj λQ HQ=>?_;go_wp2_with fail;go_loopw [3,4] (λr i wr=>∃(k:Nat)(LA:Option Addr)(ln lc:Nat)(xs:List Value),k<=l.length/\i= .int .i64 k/\r= .slice LA ln lc/\je mS 3 1 w.heap.size wr (.slice LA ln lc) (l.take k) xs/\Below w.heap.size w wr) (λ_ i _=>l.length-(intOf i).toNat)
 case atStart=>exact⟨0,none,0,0,[],by omega,rfl,rfl,je.nil _ _ _ _ _,aV _ _⟩
 case round=>
  obtain⟨k,LA,ln,lc,xs,hk,rfl,rfl,hR,aJ⟩:=hrel;have HR:=ae hR;have cB:=ae aJ;have pS:=aJ.size;by_cases hlt:k<l.length
  ·obtain⟨b,off,x,rfl,hb,hk1,hx,pI⟩:=SliceAt.get (aD.below HV (aJ.mono hB) (aY _)) hlt;have QI:=ae hk1;have HX:=ae pI;have qP:(k:Int)<(l.length:Int):=by omega
   have hbl:b<wr.heap.size:=by omega
   have htl:(l.take k).length=k:=by simp;omega
   have zR:=ae htl;simp only[Nat.add_zero,Nat.mul_one]at hx;clear hR aJ hk1 pI htl;go_wp2_with(at_builtin;refine wpList_append_lies _ rfl (.tmp 11) (.tmp 16) 36 rfl w.heap.size 3 i0 (.int .i64 0) 1 8 underlying36 hi hz0 hz1 hz2 rfl (by decide) _ k xs rfl (by have h:=HR.own;rw[zR.out]at h;exact(aF h ((Wr.refl (λ_=>False) _).bH _) (λ_ _ h=>h))) ⟨wr.heap.size,0,none⟩ 1 1 [.int .i64 x] rfl rfl ?c1 ?c2 (by decide) ?c3 ?c4 ?c5 _ rfl ?_)
   case c1=>exact nV _ _ _
   case c2=>intro u hu;simp at hu;rcases hu with rfl;rfl
   case c3=>unfold maxLen;omega
   case c4=>omega
   case c5=>first|omega|(simp<;>omega)
   ·intro g cap' w3 iM hgrow hat Kl;have HN:=ae (show je mS 3 1 w.heap.size w3 (.slice (some ⟨g,0,none⟩) (k+1) cap') (l.take (k+1)) (xs++[.int .i64 x])from by
     have h:=je.next mS.mono HR (by omega) (aV _ _) (us:=[.int .i64 x]) (x:=x) ⟨rfl,HX.out⟩ rfl (ax wr _) (by rw[zR.out];exact iM) hgrow (by simpa using hat);rw[zR.out]at h;rw[bW QI.out];exact h)
    have QS:=ae (show Below w.heap.size w w3 from cB.trans (((aV _ _).alloc (by omega) _).grown hgrow (by first|omega|(simp<;>omega)) (λg hg=>by have:=(HR.lt hg);omega)));clear iM hgrow hat;go_wp2_with fail;go_roundw
    case rel=>exact⟨k+1,_,_,_,_,by omega,by go_num,rfl,HN.out,QS.out⟩
    case measure=>simp[intOf];omega
  ·obtain rfl:k=l.length:=by omega
   rw[List.take_length]at hR;have DW:=ae hR;clear hR aJ;go_wp2_with fail;refine HQ _ _ _ ?_;exact aS (v:= .slice LA ln lc) (by simp[results,results99,go_sem]) rfl (jg.AK mS.mono DW.out cB.out)
theorem sG.shape{w:World}{B:Nat}{c:Nat->Option Value}{x:kH}(h:sG w B c x):∃(A2:Option Addr)(c2:Nat),c 0=some (.int .i64 x.size)/\c 1=some (.int .i64 x.count)/\c 2=some (.slice A2 x.init.length c2)/\aD w B x.init (.slice A2 x.init.length c2)/\In64 x.size/\In64 x.count:=by
 obtain⟨h0,h1,⟨v2,h2,r2⟩,i0,i1⟩:=h;obtain⟨A2,c2,rfl,_⟩:=id r2;exact⟨A2,c2,h0,h1,h2,r2,i0,i1⟩
def NS(x:kH)(w:World)(e:Ending)(w':World):Prop:=
 ∃u0 u1 u2:Value,e= .returned (.agg #[u0,u1,u2])/\sG (only w' (From w.heap.size)) w'.heap.size (λj=>[u0,u1,u2][j]?) x/\Below w.heap.size w w'
theorem Hc(x:kH)(B:Nat)(w:World)(c:Nat->Option Value)(v0 v1 v2:Value)(hB:B<=w.heap.size)(hx:sG w B c x)(k0:c 0=some v0)(k1:c 1=some v1)(k2:c 2=some v2)(hsz:EY x):
  Calls prog 41 #[.agg #[v0,v1,v2]] w (NS x w):=by
 obtain⟨A2,c2,h0,h1,h2,r2,i0,i1⟩:=hx.shape;rw[h0]at k0;injection k0 with k0;subst k0;rw[h1]at k1;injection k1 with k1;subst k1;rw[h2]at k2;injection k2 with k2;subst k2;have z2:EY x:=hsz;unfold EY at z2;have QP:=ae (λW(hb:Below w.heap.size w W)=>uz x.init A2 c2 B W (by have:=hb.size;omega) (r2.below (hb.mono hB) (aY _)) z2);have IM:=ae i0;have HI1:=ae i1;have eO:=ae (aN w (.cells #[.int .i64 x.size,.int .i64 x.count,.slice A2 x.init.length c2] 90) (.cells #[.int .i64 0,.int .i64 0,.slice none 0 0] 90) (.cells #[.int .i64 x.size,.int .i64 x.count,.slice A2 x.init.length c2] 90));clear hx h0 h1 h2 r2 i0 i1 z2;go_enter func41,ntmps41;refine aj λQ HQ=>?_;go_wp2_with fail;refine(QP _ (by exact eO.out)).mono ?_
 rintro e w1 ⟨X5,XP,rfl,hs,_,hb0⟩;have WS:=ae hs;clear hs;have hz0:w.heap.size+1+1+1<=w1.heap.size:=by have:=hb0.size;first|omega|(simp at this;omega)
 have Ld:w1.cell? ⟨w.heap.size+1+1,0,none⟩=some (.int .i64 x.size):=ag (by simp[go_sem]) hb0 (by first|omega|(simp<;>omega));have f00:w1.frozen? ⟨w.heap.size+1+1,0,none⟩=false:=((bL hb0).2 _ _ (by first|omega|(simp<;>omega))).trans (by simp[go_sem]);have Lj:w1.cell? ⟨w.heap.size+1,0,none⟩=some (.int .i64 0):=ag (by simp[go_sem]) hb0 (by first|omega|(simp<;>omega));have g00:w1.frozen? ⟨w.heap.size+1,0,none⟩=false:=((bL hb0).2 _ _ (by first|omega|(simp<;>omega))).trans (by simp[go_sem]);have N6:w1.cell? ⟨w.heap.size,0,none⟩=some (.int .i64 x.size):=ag (by simp[go_sem]) hb0 (by first|omega|(simp<;>omega));have Lc:w1.cell? ⟨w.heap.size+1+1,1,none⟩=some (.int .i64 x.count):=ag (by simp[go_sem]) hb0 (by first|omega|(simp<;>omega))
 have f01:w1.frozen? ⟨w.heap.size+1+1,1,none⟩=false:=((bL hb0).2 _ _ (by first|omega|(simp<;>omega))).trans (by simp[go_sem]);have JF:w1.cell? ⟨w.heap.size+1,1,none⟩=some (.int .i64 0):=ag (by simp[go_sem]) hb0 (by first|omega|(simp<;>omega));have g01:w1.frozen? ⟨w.heap.size+1,1,none⟩=false:=((bL hb0).2 _ _ (by first|omega|(simp<;>omega))).trans (by simp[go_sem]);have N5:w1.cell? ⟨w.heap.size,1,none⟩=some (.int .i64 x.count):=ag (by simp[go_sem]) hb0 (by first|omega|(simp<;>omega));have Lb:w1.cell? ⟨w.heap.size+1+1,2,none⟩=some (.slice A2 x.init.length c2):=ag (by simp[go_sem]) hb0 (by first|omega|(simp<;>omega));have f02:w1.frozen? ⟨w.heap.size+1+1,2,none⟩=false:=((bL hb0).2 _ _ (by first|omega|(simp<;>omega))).trans (by simp[go_sem])
 have IU:w1.cell? ⟨w.heap.size+1,2,none⟩=some (.slice none 0 0):=ag (by simp[go_sem]) hb0 (by first|omega|(simp<;>omega));have g02:w1.frozen? ⟨w.heap.size+1,2,none⟩=false:=((bL hb0).2 _ _ (by first|omega|(simp<;>omega))).trans (by simp[go_sem]);have NZ:w1.cell? ⟨w.heap.size,2,none⟩=some (.slice A2 x.init.length c2):=ag (by simp[go_sem]) hb0 (by first|omega|(simp<;>omega));have HY0:=ae hb0;have Xo:=ae (eO.trans (hb0.mono (by first|omega|(simp<;>omega))));clear hb0;go_wp2_with fail;refine HQ _ _ _ ?_;refine aS (v:= .agg #[.int .i64 x.size,.int .i64 x.count,.slice X5 x.init.length XP]) (by simp[results,results41,go_sem,Ld,Lc,Lb,Lj,JF,IU]) rfl ?_;refine Lp (X:=λi=>i=w.heap.size+1\/i=w.heap.size+1+1) (w:=w1) ?_ (λhw=>?_)
 ·repeat(first|(with_reducible exact Wr.refl _ _)|(with_reducible refine Wr.bR ?_)|(with_reducible refine Wr.bH ?_ _)|(with_reducible refine Wr.cJ ?_ _ _ _ (aK ?_))|exact aK rfl|exact bu rfl)
 have R2:=aD.sub (w:=only w1 _) WS (nN hw (N:=w.heap.size) (λi hi=>by rcases hi with hi|hi<;>subst hi<;>first|omega|(simp<;>omega)) (by first|omega|(simp<;>omega))) hw.size;exact⟨_,_,_,rfl,⟨rfl,rfl,⟨_,rfl,R2⟩,IM.out,HI1.out⟩,Xo.trans (hw.below (by omega) (λi hi=>by rcases hi with hi|hi<;>subst hi<;>omega))⟩
theorem Nn:(prog.info? 90).map (λi=>(i.zero,i.size,i.bytes))=some (some (.agg #[.int .i64 0,.int .i64 0,.slice none 0 0]),3,40):=by kernel_rfl
theorem wQ(l:List kH)(A:Option Addr)(aA:Nat)(B:Nat)(w:World)(hB:B<=w.heap.size)(hv:SliceAt w B 3 (sG w B) l (.slice A l.length aA))(yF:l.length*40<=140737488351232)(hsz:∀y,y∈l->EY y):
  Calls prog 23 #[.slice A l.length aA] w (jg sG 3 l w):=by
 have hn:=hv.len.2;have HV:=ae hv;have Fl:=ae hsz;clear hv hsz;obtain⟨i0,hi,hz0,hz1,hz2⟩:=info_parts Nn;go_enter func23,ntmps23;refine aj λQ HQ=>?_;go_wp2_with fail;go_loopw [3,4] (λr i wr=>∃(k:Nat)(LA:Option Addr)(ln lc:Nat)(xs:List Value),k<=l.length/\i= .int .i64 k/\r= .slice LA ln lc/\je sG 90 3 w.heap.size wr (.slice LA ln lc) (l.take k) xs/\Below w.heap.size w wr) (λ_ i _=>l.length-(intOf i).toNat)
 case atStart=>exact⟨0,none,0,0,[],by omega,rfl,rfl,je.nil _ _ _ _ _,aV _ _⟩
 case round=>
  obtain⟨k,LA,ln,lc,xs,hk,rfl,rfl,hR,aJ⟩:=hrel;have HR:=ae hR;have cB:=ae aJ;have pS:=aJ.size;by_cases hlt:k<l.length
  ·obtain⟨b,off,x,rfl,hb,hk1,hx⟩:=(HV.below (aJ.mono hB) (aY _) (λ_ _ h=>h.below (aJ.mono hB) (aY _))).get hlt;obtain⟨A2,c2,h0,h1,h2,r2,i0,i1⟩:=hx.shape;have HC:=ae (Hc x B wr _ (.int .i64 x.size) (.int .i64 x.count) (.slice A2 x.init.length c2) (by omega) hx h0 h1 h2 (Fl.out x (List.mem_of_getElem? hk1)));have QI:=ae hk1;have qP:(k:Int)<(l.length:Int):=by omega
   have hbl:b<wr.heap.size:=by omega
   have htl:(l.take k).length=k:=by simp;omega
   have zR:=ae htl;simp only[Nat.add_zero]at h0 h1 h2;clear hR aJ hk1 hx htl r2 i0 i1;go_wp2_with fail;refine HC.mono ?_;rintro e w1 ⟨u0,u1,u2,rfl,hy,hb1⟩;obtain⟨La,KJ,e0,e1,e2,Mr,Gv,Gu⟩:=hy.shape;obtain rfl:=Option.some.inj e0;obtain rfl:=Option.some.inj e1;obtain rfl:=Option.some.inj e2;have YX:=hb1.size;have HY:=ae hy;have bQ:=ae hb1;clear hy hb1 e0 e1 e2 Mr Gv Gu
   go_wp2_with(at_builtin;refine wpList_append_lies _ rfl (.tmp 11) (.tmp 17) 28 rfl w.heap.size 90 i0 (.agg #[.int .i64 0,.int .i64 0,.slice none 0 0]) 3 40 underlying28 hi hz0 hz1 hz2 rfl (by decide) _ k xs rfl (by have h:=HR.own;rw[zR.out]at h;exact(aF h ((eW bQ.out).bH _) (λ_ _ h=>h))) ⟨w1.heap.size,0,none⟩ 1 1 [.int .i64 x.size,.int .i64 x.count,.slice La x.init.length KJ] rfl rfl ?c1 ?c2 (by decide) ?c3 ?c4 ?c5 _ rfl ?_)
   case c1=>exact nV _ _ _
   case c2=>intro u hu;simp at hu;rcases hu with rfl|rfl|rfl<;>rfl
   case c3=>unfold maxLen;omega
   case c4=>omega
   case c5=>first|omega|(simp<;>omega)
   ·intro g cap' w3 iM hgrow hat Kl;have HN:=ae (show je sG 90 3 w.heap.size w3 (.slice (some ⟨g,0,none⟩) (k+1) cap') (l.take (k+1)) (xs++[.int .i64 x.size,.int .i64 x.count,.slice La x.init.length KJ])from by
     have h:=je.next sG.mono HR (by omega) bQ.out HY.out rfl (ax w1 _) (by rw[zR.out];exact iM) hgrow (by simpa using hat);rw[zR.out]at h;rw[bW QI.out];exact h)
    have QS:=ae (show Below w.heap.size w w3 from(cB.trans (bQ.mono pS)).trans (((aV _ _).alloc (by omega) _).grown hgrow (by first|omega|(simp<;>omega)) (λg hg=>by have:=(HR.lt hg);omega)));clear iM hgrow hat;go_wp2_with fail;go_roundw
    case rel=>exact⟨k+1,_,_,_,_,by omega,by go_num,rfl,HN.out,QS.out⟩
    case measure=>simp[intOf];omega
  ·obtain rfl:k=l.length:=by omega
   rw[List.take_length]at hR;have DW:=ae hR;clear hR aJ;go_wp2_with fail;refine HQ _ _ _ ?_;exact aS (v:= .slice LA ln lc) (by simp[results,results23,go_sem]) rfl (jg.AK sG.mono DW.out cB.out)
theorem kI.shape{w:World}{B:Nat}{c:Nat->Option Value}{x:bg}(h:kI w B c x):∃(A5:Option Addr)(c5:Nat),c 0=some (.int .i64 x.op)/\c 1=some (.int .i64 x.dst)/\c 2=some (.int .i64 x.a)/\c 3=some (.int .i64 x.b)/\c 4=some (.int .i64 x.n)/\c 5=some (.slice A5 x.arg.length c5)/\aD w B x.arg (.slice A5 x.arg.length c5)/\In64 x.op/\In64 x.dst/\In64 x.a/\In64 x.b/\In64 x.n:=by
 obtain⟨h0,h1,h2,h3,h4,⟨v5,h5,r5⟩,i0,i1,i2,i3,i4⟩:=h;obtain⟨A5,c5,rfl,_⟩:=id r5;exact⟨A5,c5,h0,h1,h2,h3,h4,h5,r5,i0,i1,i2,i3,i4⟩
def NT(x:bg)(w:World)(e:Ending)(w':World):Prop:=
 ∃u0 u1 u2 u3 u4 u5:Value,e= .returned (.agg #[u0,u1,u2,u3,u4,u5])/\kI (only w' (From w.heap.size)) w'.heap.size (λj=>[u0,u1,u2,u3,u4,u5][j]?) x/\Below w.heap.size w w'
theorem Hd(x:bg)(B:Nat)(w:World)(c:Nat->Option Value)(v0 v1 v2 v3 v4 v5:Value)(hB:B<=w.heap.size)(hx:kI w B c x)(k0:c 0=some v0)(k1:c 1=some v1)(k2:c 2=some v2)(k3:c 3=some v3)(k4:c 4=some v4)(k5:c 5=some v5)(hsz:Iy x):
  Calls prog 79 #[.agg #[v0,v1,v2,v3,v4,v5]] w (NT x w):=by
 obtain⟨A5,c5,h0,h1,h2,h3,h4,h5,r5,i0,i1,i2,i3,i4⟩:=hx.shape;rw[h0]at k0;injection k0 with k0;subst k0;rw[h1]at k1;injection k1 with k1;subst k1;rw[h2]at k2;injection k2 with k2;subst k2;rw[h3]at k3;injection k3 with k3;subst k3;rw[h4]at k4;injection k4 with k4;subst k4;rw[h5]at k5;injection k5 with k5;subst k5;have z5:Iy x:=hsz;unfold Iy at z5;have QP:=ae (λW(hb:Below w.heap.size w W)=>zA x.arg A5 c5 B W (by have:=hb.size;omega) (r5.below (hb.mono hB) (aY _)) z5);have IM:=ae i0;have HI1:=ae i1;have XZ:=ae i2;have E7:=ae i3;have TT:=ae i4
 have eO:=ae (aN w (.cells #[.int .i64 x.op,.int .i64 x.dst,.int .i64 x.a,.int .i64 x.b,.int .i64 x.n,.slice A5 x.arg.length c5] 94) (.cells #[.int .i64 0,.int .i64 0,.int .i64 0,.int .i64 0,.int .i64 0,.slice none 0 0] 94) (.cells #[.int .i64 x.op,.int .i64 x.dst,.int .i64 x.a,.int .i64 x.b,.int .i64 x.n,.slice A5 x.arg.length c5] 94));clear hx h0 h1 h2 h3 h4 h5 r5 i0 i1 i2 i3 i4 z5;go_enter func79,ntmps79;refine aj λQ HQ=>?_;go_wp2_with fail;refine(QP _ (by exact eO.out)).mono ?_;rintro e w1 ⟨A5',c5',rfl,hs,_,hb0⟩;have WS:=ae hs;clear hs;have hz0:w.heap.size+1+1+1<=w1.heap.size:=by have:=hb0.size;first|omega|(simp at this;omega)
 have Ld:w1.cell? ⟨w.heap.size+1+1,0,none⟩=some (.int .i64 x.op):=ag (by simp[go_sem]) hb0 (by first|omega|(simp<;>omega));have f00:w1.frozen? ⟨w.heap.size+1+1,0,none⟩=false:=((bL hb0).2 _ _ (by first|omega|(simp<;>omega))).trans (by simp[go_sem]);have Lj:w1.cell? ⟨w.heap.size+1,0,none⟩=some (.int .i64 0):=ag (by simp[go_sem]) hb0 (by first|omega|(simp<;>omega));have g00:w1.frozen? ⟨w.heap.size+1,0,none⟩=false:=((bL hb0).2 _ _ (by first|omega|(simp<;>omega))).trans (by simp[go_sem]);have N6:w1.cell? ⟨w.heap.size,0,none⟩=some (.int .i64 x.op):=ag (by simp[go_sem]) hb0 (by first|omega|(simp<;>omega));have Lc:w1.cell? ⟨w.heap.size+1+1,1,none⟩=some (.int .i64 x.dst):=ag (by simp[go_sem]) hb0 (by first|omega|(simp<;>omega))
 have f01:w1.frozen? ⟨w.heap.size+1+1,1,none⟩=false:=((bL hb0).2 _ _ (by first|omega|(simp<;>omega))).trans (by simp[go_sem]);have JF:w1.cell? ⟨w.heap.size+1,1,none⟩=some (.int .i64 0):=ag (by simp[go_sem]) hb0 (by first|omega|(simp<;>omega));have g01:w1.frozen? ⟨w.heap.size+1,1,none⟩=false:=((bL hb0).2 _ _ (by first|omega|(simp<;>omega))).trans (by simp[go_sem]);have N5:w1.cell? ⟨w.heap.size,1,none⟩=some (.int .i64 x.dst):=ag (by simp[go_sem]) hb0 (by first|omega|(simp<;>omega));have Lb:w1.cell? ⟨w.heap.size+1+1,2,none⟩=some (.int .i64 x.a):=ag (by simp[go_sem]) hb0 (by first|omega|(simp<;>omega));have f02:w1.frozen? ⟨w.heap.size+1+1,2,none⟩=false:=((bL hb0).2 _ _ (by first|omega|(simp<;>omega))).trans (by simp[go_sem])
 have IU:w1.cell? ⟨w.heap.size+1,2,none⟩=some (.int .i64 0):=ag (by simp[go_sem]) hb0 (by first|omega|(simp<;>omega));have g02:w1.frozen? ⟨w.heap.size+1,2,none⟩=false:=((bL hb0).2 _ _ (by first|omega|(simp<;>omega))).trans (by simp[go_sem]);have NZ:w1.cell? ⟨w.heap.size,2,none⟩=some (.int .i64 x.a):=ag (by simp[go_sem]) hb0 (by first|omega|(simp<;>omega));have TW:w1.cell? ⟨w.heap.size+1+1,3,none⟩=some (.int .i64 x.b):=ag (by simp[go_sem]) hb0 (by first|omega|(simp<;>omega));have f03:w1.frozen? ⟨w.heap.size+1+1,3,none⟩=false:=((bL hb0).2 _ _ (by first|omega|(simp<;>omega))).trans (by simp[go_sem]);have Tn:w1.cell? ⟨w.heap.size+1,3,none⟩=some (.int .i64 0):=ag (by simp[go_sem]) hb0 (by first|omega|(simp<;>omega))
 have g03:w1.frozen? ⟨w.heap.size+1,3,none⟩=false:=((bL hb0).2 _ _ (by first|omega|(simp<;>omega))).trans (by simp[go_sem]);have XQ:w1.cell? ⟨w.heap.size,3,none⟩=some (.int .i64 x.b):=ag (by simp[go_sem]) hb0 (by first|omega|(simp<;>omega));have x04:w1.cell? ⟨w.heap.size+1+1,4,none⟩=some (.int .i64 x.n):=ag (by simp[go_sem]) hb0 (by first|omega|(simp<;>omega));have f04:w1.frozen? ⟨w.heap.size+1+1,4,none⟩=false:=((bL hb0).2 _ _ (by first|omega|(simp<;>omega))).trans (by simp[go_sem]);have q04:w1.cell? ⟨w.heap.size+1,4,none⟩=some (.int .i64 0):=ag (by simp[go_sem]) hb0 (by first|omega|(simp<;>omega));have g04:w1.frozen? ⟨w.heap.size+1,4,none⟩=false:=((bL hb0).2 _ _ (by first|omega|(simp<;>omega))).trans (by simp[go_sem])
 have a04:w1.cell? ⟨w.heap.size,4,none⟩=some (.int .i64 x.n):=ag (by simp[go_sem]) hb0 (by first|omega|(simp<;>omega));have x05:w1.cell? ⟨w.heap.size+1+1,5,none⟩=some (.slice A5 x.arg.length c5):=ag (by simp[go_sem]) hb0 (by first|omega|(simp<;>omega));have f05:w1.frozen? ⟨w.heap.size+1+1,5,none⟩=false:=((bL hb0).2 _ _ (by first|omega|(simp<;>omega))).trans (by simp[go_sem]);have q05:w1.cell? ⟨w.heap.size+1,5,none⟩=some (.slice none 0 0):=ag (by simp[go_sem]) hb0 (by first|omega|(simp<;>omega));have g05:w1.frozen? ⟨w.heap.size+1,5,none⟩=false:=((bL hb0).2 _ _ (by first|omega|(simp<;>omega))).trans (by simp[go_sem]);have a05:w1.cell? ⟨w.heap.size,5,none⟩=some (.slice A5 x.arg.length c5):=ag (by simp[go_sem]) hb0 (by first|omega|(simp<;>omega))
 have HY0:=ae hb0;have Xo:=ae (eO.trans (hb0.mono (by first|omega|(simp<;>omega))));clear hb0;go_wp2_with fail;refine HQ _ _ _ ?_;refine aS (v:= .agg #[.int .i64 x.op,.int .i64 x.dst,.int .i64 x.a,.int .i64 x.b,.int .i64 x.n,.slice A5' x.arg.length c5']) (by simp[results,results79,go_sem,Ld,Lc,Lb,TW,x04,x05,Lj,JF,IU,Tn,q04,q05]) rfl ?_;refine Lp (X:=λi=>i=w.heap.size+1\/i=w.heap.size+1+1) (w:=w1) ?_ (λhw=>?_)
 ·repeat(first|(with_reducible exact Wr.refl _ _)|(with_reducible refine Wr.bR ?_)|(with_reducible refine Wr.bH ?_ _)|(with_reducible refine Wr.cJ ?_ _ _ _ (aK ?_))|exact aK rfl|exact bu rfl)
 have R5:=aD.sub (w:=only w1 _) WS (nN hw (N:=w.heap.size) (λi hi=>by rcases hi with hi|hi<;>subst hi<;>first|omega|(simp<;>omega)) (by first|omega|(simp<;>omega))) hw.size;exact⟨_,_,_,_,_,_,rfl,⟨rfl,rfl,rfl,rfl,rfl,⟨_,rfl,R5⟩,IM.out,HI1.out,XZ.out,E7.out,TT.out⟩,Xo.trans (hw.below (by omega) (λi hi=>by rcases hi with hi|hi<;>subst hi<;>omega))⟩
theorem Nt:(prog.info? 94).map (λi=>(i.zero,i.size,i.bytes))=some (some (.agg #[.int .i64 0,.int .i64 0,.int .i64 0,.int .i64 0,.int .i64 0,.slice none 0 0]),6,64):=by kernel_rfl
theorem EL(l:List bg)(A:Option Addr)(aA:Nat)(B:Nat)(w:World)(hB:B<=w.heap.size)(hv:SliceAt w B 6 (kI w B) l (.slice A l.length aA))(yF:l.length*64<=140737488351232)(hsz:∀y,y∈l->Iy y):
  Calls prog 62 #[.slice A l.length aA] w (jg kI 6 l w):=by
 have hn:=hv.len.2;have HV:=ae hv;have Fl:=ae hsz;clear hv hsz;obtain⟨i0,hi,hz0,hz1,hz2⟩:=info_parts Nt;go_enter func62,ntmps62;refine aj λQ HQ=>?_;go_wp2_with fail;go_loopw [3,4] (λr i wr=>∃(k:Nat)(LA:Option Addr)(ln lc:Nat)(xs:List Value),k<=l.length/\i= .int .i64 k/\r= .slice LA ln lc/\je kI 94 6 w.heap.size wr (.slice LA ln lc) (l.take k) xs/\Below w.heap.size w wr) (λ_ i _=>l.length-(intOf i).toNat)
 case atStart=>exact⟨0,none,0,0,[],by omega,rfl,rfl,je.nil _ _ _ _ _,aV _ _⟩
 case round=>
  obtain⟨k,LA,ln,lc,xs,hk,rfl,rfl,hR,aJ⟩:=hrel;have HR:=ae hR;have cB:=ae aJ;have pS:=aJ.size;by_cases hlt:k<l.length
  ·obtain⟨b,off,x,rfl,hb,hk1,hx⟩:=(HV.below (aJ.mono hB) (aY _) (λ_ _ h=>h.below (aJ.mono hB) (aY _))).get hlt;obtain⟨A5,c5,h0,h1,h2,h3,h4,h5,r5,i0,i1,i2,i3,i4⟩:=hx.shape;have HC:=ae (Hd x B wr _ (.int .i64 x.op) (.int .i64 x.dst) (.int .i64 x.a) (.int .i64 x.b) (.int .i64 x.n) (.slice A5 x.arg.length c5) (by omega) hx h0 h1 h2 h3 h4 h5 (Fl.out x (List.mem_of_getElem? hk1)));have QI:=ae hk1;have qP:(k:Int)<(l.length:Int):=by omega
   have hbl:b<wr.heap.size:=by omega
   have htl:(l.take k).length=k:=by simp;omega
   have zR:=ae htl;simp only[Nat.add_zero]at h0 h1 h2 h3 h4 h5;clear hR aJ hk1 hx htl r5 i0 i1 i2 i3 i4;go_wp2_with fail;refine HC.mono ?_;rintro e w1 ⟨u0,u1,u2,u3,u4,u5,rfl,hy,hb1⟩;obtain⟨Xt,Vq,e0,e1,e2,e3,e4,e5,Xv,Gv,Gu,UI,YV,YU⟩:=hy.shape;obtain rfl:=Option.some.inj e0;obtain rfl:=Option.some.inj e1;obtain rfl:=Option.some.inj e2;obtain rfl:=Option.some.inj e3;obtain rfl:=Option.some.inj e4;obtain rfl:=Option.some.inj e5;have YX:=hb1.size;have HY:=ae hy;have bQ:=ae hb1;clear hy hb1 e0 e1 e2 e3 e4 e5 Xv Gv Gu UI YV YU
   go_wp2_with(at_builtin;refine wpList_append_lies _ rfl (.tmp 11) (.tmp 17) 52 rfl w.heap.size 94 i0 (.agg #[.int .i64 0,.int .i64 0,.int .i64 0,.int .i64 0,.int .i64 0,.slice none 0 0]) 6 64 underlying52 hi hz0 hz1 hz2 rfl (by decide) _ k xs rfl (by have h:=HR.own;rw[zR.out]at h;exact(aF h ((eW bQ.out).bH _) (λ_ _ h=>h))) ⟨w1.heap.size,0,none⟩ 1 1 [.int .i64 x.op,.int .i64 x.dst,.int .i64 x.a,.int .i64 x.b,.int .i64 x.n,.slice Xt x.arg.length Vq] rfl rfl ?c1 ?c2 (by decide) ?c3 ?c4 ?c5 _ rfl ?_)
   case c1=>exact nV _ _ _
   case c2=>intro u hu;simp at hu;rcases hu with rfl|rfl|rfl|rfl|rfl|rfl<;>rfl
   case c3=>unfold maxLen;omega
   case c4=>omega
   case c5=>first|omega|(simp<;>omega)
   ·intro g cap' w3 iM hgrow hat Kl;have HN:=ae (show je kI 94 6 w.heap.size w3 (.slice (some ⟨g,0,none⟩) (k+1) cap') (l.take (k+1)) (xs++[.int .i64 x.op,.int .i64 x.dst,.int .i64 x.a,.int .i64 x.b,.int .i64 x.n,.slice Xt x.arg.length Vq])from by
     have h:=je.next kI.mono HR (by omega) bQ.out HY.out rfl (ax w1 _) (by rw[zR.out];exact iM) hgrow (by simpa using hat);rw[zR.out]at h;rw[bW QI.out];exact h)
    have QS:=ae (show Below w.heap.size w w3 from(cB.trans (bQ.mono pS)).trans (((aV _ _).alloc (by omega) _).grown hgrow (by first|omega|(simp<;>omega)) (λg hg=>by have:=(HR.lt hg);omega)));clear iM hgrow hat;go_wp2_with fail;go_roundw
    case rel=>exact⟨k+1,_,_,_,_,by omega,by go_num,rfl,HN.out,QS.out⟩
    case measure=>simp[intOf];omega
  ·obtain rfl:k=l.length:=by omega
   rw[List.take_length]at hR;have DW:=ae hR;clear hR aJ;go_wp2_with fail;refine HQ _ _ _ ?_;exact aS (v:= .slice LA ln lc) (by simp[results,results62,go_sem]) rfl (jg.AK kI.mono DW.out cB.out)
theorem fT.shape{w:World}{B:Nat}{c:Nat->Option Value}{x:aR}(h:fT w B c x):∃(A2:Option Addr)(c2:Nat)(A3:Option Addr)(c3:Nat),c 0=some (.int .i64 x.params)/\c 1=some (.int .i64 x.regs)/\c 2=some (.slice A2 x.az.length c2)/\c 3=some (.slice A3 x.ins.length c3)/\SliceAt w B 3 (sG w B) x.az (.slice A2 x.az.length c2)/\SliceAt w B 6 (kI w B) x.ins (.slice A3 x.ins.length c3)/\In64 x.params/\In64 x.regs:=by
 obtain⟨h0,h1,⟨v2,h2,r2⟩,⟨v3,h3,r3⟩,i0,i1⟩:=h;obtain⟨A2,c2,rfl,_⟩:=id r2;obtain⟨A3,c3,rfl,_⟩:=id r3;exact⟨A2,c2,A3,c3,h0,h1,h2,h3,r2,r3,i0,i1⟩
def K9(x:aR)(w:World)(e:Ending)(w':World):Prop:=
 ∃u0 u1 u2 u3:Value,e= .returned (.agg #[u0,u1,u2,u3])/\fT (only w' (From w.heap.size)) w'.heap.size (λj=>[u0,u1,u2,u3][j]?) x/\Below w.heap.size w w'
theorem EM(x:aR)(B:Nat)(w:World)(c:Nat->Option Value)(v0 v1 v2 v3:Value)(hB:B<=w.heap.size)(hx:fT w B c x)(k0:c 0=some v0)(k1:c 1=some v1)(k2:c 2=some v2)(k3:c 3=some v3)(hsz:D9 x):
  Calls prog 42 #[.agg #[v0,v1,v2,v3]] w (K9 x w):=by
 obtain⟨A2,c2,A3,c3,h0,h1,h2,h3,r2,r3,i0,i1⟩:=hx.shape;rw[h0]at k0;injection k0 with k0;subst k0;rw[h1]at k1;injection k1 with k1;subst k1;rw[h2]at k2;injection k2 with k2;subst k2;rw[h3]at k3;injection k3 with k3;subst k3;obtain⟨z2,y2,z3,y3⟩:=hsz;have QP:=ae (λW(hb:Below w.heap.size w W)=>wQ x.az A2 c2 B W (by have:=hb.size;omega) (r2.below (hb.mono hB) (aY _) (λ_ _ h=>h.below (hb.mono hB) (aY _))) z2 y2);have Xk:=ae (λW(hb:Below w.heap.size w W)=>EL x.ins A3 c3 B W (by have:=hb.size;omega) (r3.below (hb.mono hB) (aY _) (λ_ _ h=>h.below (hb.mono hB) (aY _))) z3 y3);have IM:=ae i0;have HI1:=ae i1
 have eO:=ae (aN w (.cells #[.int .i64 x.params,.int .i64 x.regs,.slice A2 x.az.length c2,.slice A3 x.ins.length c3] 54) (.cells #[.int .i64 0,.int .i64 0,.slice none 0 0,.slice none 0 0] 54) (.cells #[.int .i64 x.params,.int .i64 x.regs,.slice A2 x.az.length c2,.slice A3 x.ins.length c3] 54));clear hx h0 h1 h2 h3 r2 r3 i0 i1 z2 y2 z3 y3;go_enter func42,ntmps42;refine aj λQ HQ=>?_;go_wp2_with fail;refine(QP _ (by exact eO.out)).mono ?_;rintro e w1 ⟨X5,XP,rfl,hs,_,hb0⟩;have WS:=ae hs;clear hs;have hz0:w.heap.size+1+1+1<=w1.heap.size:=by have:=hb0.size;first|omega|(simp at this;omega)
 have Ld:w1.cell? ⟨w.heap.size+1+1,0,none⟩=some (.int .i64 x.params):=ag (by simp[go_sem]) hb0 (by first|omega|(simp<;>omega));have f00:w1.frozen? ⟨w.heap.size+1+1,0,none⟩=false:=((bL hb0).2 _ _ (by first|omega|(simp<;>omega))).trans (by simp[go_sem]);have Lj:w1.cell? ⟨w.heap.size+1,0,none⟩=some (.int .i64 0):=ag (by simp[go_sem]) hb0 (by first|omega|(simp<;>omega));have g00:w1.frozen? ⟨w.heap.size+1,0,none⟩=false:=((bL hb0).2 _ _ (by first|omega|(simp<;>omega))).trans (by simp[go_sem]);have N6:w1.cell? ⟨w.heap.size,0,none⟩=some (.int .i64 x.params):=ag (by simp[go_sem]) hb0 (by first|omega|(simp<;>omega));have Lc:w1.cell? ⟨w.heap.size+1+1,1,none⟩=some (.int .i64 x.regs):=ag (by simp[go_sem]) hb0 (by first|omega|(simp<;>omega))
 have f01:w1.frozen? ⟨w.heap.size+1+1,1,none⟩=false:=((bL hb0).2 _ _ (by first|omega|(simp<;>omega))).trans (by simp[go_sem]);have JF:w1.cell? ⟨w.heap.size+1,1,none⟩=some (.int .i64 0):=ag (by simp[go_sem]) hb0 (by first|omega|(simp<;>omega));have g01:w1.frozen? ⟨w.heap.size+1,1,none⟩=false:=((bL hb0).2 _ _ (by first|omega|(simp<;>omega))).trans (by simp[go_sem]);have N5:w1.cell? ⟨w.heap.size,1,none⟩=some (.int .i64 x.regs):=ag (by simp[go_sem]) hb0 (by first|omega|(simp<;>omega));have Lb:w1.cell? ⟨w.heap.size+1+1,2,none⟩=some (.slice A2 x.az.length c2):=ag (by simp[go_sem]) hb0 (by first|omega|(simp<;>omega));have f02:w1.frozen? ⟨w.heap.size+1+1,2,none⟩=false:=((bL hb0).2 _ _ (by first|omega|(simp<;>omega))).trans (by simp[go_sem])
 have IU:w1.cell? ⟨w.heap.size+1,2,none⟩=some (.slice none 0 0):=ag (by simp[go_sem]) hb0 (by first|omega|(simp<;>omega));have g02:w1.frozen? ⟨w.heap.size+1,2,none⟩=false:=((bL hb0).2 _ _ (by first|omega|(simp<;>omega))).trans (by simp[go_sem]);have NZ:w1.cell? ⟨w.heap.size,2,none⟩=some (.slice A2 x.az.length c2):=ag (by simp[go_sem]) hb0 (by first|omega|(simp<;>omega));have TW:w1.cell? ⟨w.heap.size+1+1,3,none⟩=some (.slice A3 x.ins.length c3):=ag (by simp[go_sem]) hb0 (by first|omega|(simp<;>omega));have f03:w1.frozen? ⟨w.heap.size+1+1,3,none⟩=false:=((bL hb0).2 _ _ (by first|omega|(simp<;>omega))).trans (by simp[go_sem]);have Tn:w1.cell? ⟨w.heap.size+1,3,none⟩=some (.slice none 0 0):=ag (by simp[go_sem]) hb0 (by first|omega|(simp<;>omega))
 have g03:w1.frozen? ⟨w.heap.size+1,3,none⟩=false:=((bL hb0).2 _ _ (by first|omega|(simp<;>omega))).trans (by simp[go_sem]);have XQ:w1.cell? ⟨w.heap.size,3,none⟩=some (.slice A3 x.ins.length c3):=ag (by simp[go_sem]) hb0 (by first|omega|(simp<;>omega));have Xq:=ae (eO.trans (hb0.mono (by first|omega|(simp<;>omega))));have HY0:=ae hb0;clear hb0;go_wp2_with fail;have yj:=ae (Xq.trans (show Below w.heap.size w1 (w1.setCell ⟨w.heap.size+1+1,2,none⟩ (.slice X5 x.az.length XP))from Below.setCell (aV _ _) (by first|omega|(simp<;>omega)) _));refine(Xk _ (by exact yj.out)).mono ?_;rintro e w2 ⟨A3',c3',rfl,hs,_,hb1⟩;have HS1:=ae hs;clear hs;have hz1:w.heap.size+1+1+1<=w2.heap.size:=by have:=hb1.size;first|omega|(simp at this;omega)
 have x10:w2.cell? ⟨w.heap.size+1+1,0,none⟩=some (.int .i64 x.params):=ag (by simp[go_sem,Ld,Lc,Lb,TW]) hb1 (by first|omega|(simp<;>omega));have f10:w2.frozen? ⟨w.heap.size+1+1,0,none⟩=false:=((bL hb1).2 _ _ (by first|omega|(simp<;>omega))).trans (by simp[go_sem,f00,f01,f02,f03]);have q10:w2.cell? ⟨w.heap.size+1,0,none⟩=some (.int .i64 0):=ag (by simp[go_sem,Lj,JF,IU,Tn]) hb1 (by first|omega|(simp<;>omega));have g10:w2.frozen? ⟨w.heap.size+1,0,none⟩=false:=((bL hb1).2 _ _ (by first|omega|(simp<;>omega))).trans (by simp[go_sem,g00,g01,g02,g03]);have a10:w2.cell? ⟨w.heap.size,0,none⟩=some (.int .i64 x.params):=ag (by simp[go_sem,N6,N5,NZ,XQ]) hb1 (by first|omega|(simp<;>omega))
 have x11:w2.cell? ⟨w.heap.size+1+1,1,none⟩=some (.int .i64 x.regs):=ag (by simp[go_sem,Ld,Lc,Lb,TW]) hb1 (by first|omega|(simp<;>omega));have f11:w2.frozen? ⟨w.heap.size+1+1,1,none⟩=false:=((bL hb1).2 _ _ (by first|omega|(simp<;>omega))).trans (by simp[go_sem,f00,f01,f02,f03]);have q11:w2.cell? ⟨w.heap.size+1,1,none⟩=some (.int .i64 0):=ag (by simp[go_sem,Lj,JF,IU,Tn]) hb1 (by first|omega|(simp<;>omega));have g11:w2.frozen? ⟨w.heap.size+1,1,none⟩=false:=((bL hb1).2 _ _ (by first|omega|(simp<;>omega))).trans (by simp[go_sem,g00,g01,g02,g03]);have a11:w2.cell? ⟨w.heap.size,1,none⟩=some (.int .i64 x.regs):=ag (by simp[go_sem,N6,N5,NZ,XQ]) hb1 (by first|omega|(simp<;>omega))
 have x12:w2.cell? ⟨w.heap.size+1+1,2,none⟩=some (.slice X5 x.az.length XP):=ag (by simp[go_sem,Ld,Lc,Lb,TW]) hb1 (by first|omega|(simp<;>omega));have f12:w2.frozen? ⟨w.heap.size+1+1,2,none⟩=false:=((bL hb1).2 _ _ (by first|omega|(simp<;>omega))).trans (by simp[go_sem,f00,f01,f02,f03]);have q12:w2.cell? ⟨w.heap.size+1,2,none⟩=some (.slice none 0 0):=ag (by simp[go_sem,Lj,JF,IU,Tn]) hb1 (by first|omega|(simp<;>omega));have g12:w2.frozen? ⟨w.heap.size+1,2,none⟩=false:=((bL hb1).2 _ _ (by first|omega|(simp<;>omega))).trans (by simp[go_sem,g00,g01,g02,g03]);have a12:w2.cell? ⟨w.heap.size,2,none⟩=some (.slice A2 x.az.length c2):=ag (by simp[go_sem,N6,N5,NZ,XQ]) hb1 (by first|omega|(simp<;>omega))
 have x13:w2.cell? ⟨w.heap.size+1+1,3,none⟩=some (.slice A3 x.ins.length c3):=ag (by simp[go_sem,Ld,Lc,Lb,TW]) hb1 (by first|omega|(simp<;>omega));have f13:w2.frozen? ⟨w.heap.size+1+1,3,none⟩=false:=((bL hb1).2 _ _ (by first|omega|(simp<;>omega))).trans (by simp[go_sem,f00,f01,f02,f03]);have q13:w2.cell? ⟨w.heap.size+1,3,none⟩=some (.slice none 0 0):=ag (by simp[go_sem,Lj,JF,IU,Tn]) hb1 (by first|omega|(simp<;>omega));have g13:w2.frozen? ⟨w.heap.size+1,3,none⟩=false:=((bL hb1).2 _ _ (by first|omega|(simp<;>omega))).trans (by simp[go_sem,g00,g01,g02,g03]);have a13:w2.cell? ⟨w.heap.size,3,none⟩=some (.slice A3 x.ins.length c3):=ag (by simp[go_sem,N6,N5,NZ,XQ]) hb1 (by first|omega|(simp<;>omega));have HY1:=ae hb1
 have Xo:=ae (yj.trans (hb1.mono (by first|omega|(simp<;>omega))));clear hb1;clear Ld Lc Lb TW f00 f01 f02 f03 Lj JF IU Tn g00 g01 g02 g03 N6 N5 NZ XQ;go_wp2_with fail;refine HQ _ _ _ ?_;refine aS (v:= .agg #[.int .i64 x.params,.int .i64 x.regs,.slice X5 x.az.length XP,.slice A3' x.ins.length c3']) (by simp[results,results42,go_sem,x10,x11,x12,x13,q10,q11,q12,q13]) rfl ?_;refine Lp (X:=λi=>i=w.heap.size+1\/i=w.heap.size+1+1) (w:=w2) ?_ (λhw=>?_)
 ·repeat(first|(with_reducible exact Wr.refl _ _)|(with_reducible refine Wr.bR ?_)|(with_reducible refine Wr.bH ?_ _)|(with_reducible refine Wr.cJ ?_ _ _ _ (aK ?_))|exact aK rfl|exact bu rfl)
 have hw0:Wr (λi=>i=w.heap.size+1\/i=w.heap.size+1+1) w1 (w1.setCell ⟨w.heap.size+1+1,2,none⟩ (.slice X5 x.az.length XP)):=by
  repeat(first|(with_reducible exact Wr.refl _ _)|(with_reducible refine Wr.cJ ?_ _ _ _ (aK ?_))|exact aK rfl|exact bu rfl)
 have hw1:=(hw0.trans (eW HY1.out) (λ_ h=>h.elim)).trans hw (λi hi=>aK hi);have R2:=SliceAt.sub sG.mono WS (nN hw1 (N:=w.heap.size) (λi hi=>by rcases hi with hi|hi<;>subst hi<;>first|omega|(simp<;>omega)) (by first|omega|(simp<;>omega))) hw1.size;have R3:=SliceAt.sub kI.mono HS1 (nN hw (N:=w.heap.size) (λi hi=>by rcases hi with hi|hi<;>subst hi<;>first|omega|(simp<;>omega)) (by first|omega|(simp<;>omega))) hw.size;exact⟨_,_,_,_,rfl,⟨rfl,rfl,⟨_,rfl,R2⟩,⟨_,rfl,R3⟩,IM.out,HI1.out⟩,Xo.trans (hw.below (by omega) (λi hi=>by rcases hi with hi|hi<;>subst hi<;>omega))⟩
theorem KI:(prog.info? 54).map (λi=>(i.zero,i.size,i.bytes))=some (some (.agg #[.int .i64 0,.int .i64 0,.slice none 0 0,.slice none 0 0]),4,64):=by kernel_rfl
theorem C8(l:List aR)(A:Option Addr)(aA:Nat)(B:Nat)(w:World)(hB:B<=w.heap.size)(hv:SliceAt w B 4 (fT w B) l (.slice A l.length aA))(yF:l.length*64<=140737488351232)(hsz:∀y,y∈l->D9 y):
  Calls prog 24 #[.slice A l.length aA] w (jg fT 4 l w):=by
 have hn:=hv.len.2;have HV:=ae hv;have Fl:=ae hsz;clear hv hsz;obtain⟨i0,hi,hz0,hz1,hz2⟩:=info_parts KI;go_enter func24,ntmps24;refine aj λQ HQ=>?_;go_wp2_with fail;go_loopw [3,4] (λr i wr=>∃(k:Nat)(LA:Option Addr)(ln lc:Nat)(xs:List Value),k<=l.length/\i= .int .i64 k/\r= .slice LA ln lc/\je fT 54 4 w.heap.size wr (.slice LA ln lc) (l.take k) xs/\Below w.heap.size w wr) (λ_ i _=>l.length-(intOf i).toNat)
 case atStart=>exact⟨0,none,0,0,[],by omega,rfl,rfl,je.nil _ _ _ _ _,aV _ _⟩
 case round=>
  obtain⟨k,LA,ln,lc,xs,hk,rfl,rfl,hR,aJ⟩:=hrel;have HR:=ae hR;have cB:=ae aJ;have pS:=aJ.size;by_cases hlt:k<l.length
  ·obtain⟨b,off,x,rfl,hb,hk1,hx⟩:=(HV.below (aJ.mono hB) (aY _) (λ_ _ h=>h.below (aJ.mono hB) (aY _))).get hlt;obtain⟨A2,c2,A3,c3,h0,h1,h2,h3,r2,r3,i0,i1⟩:=hx.shape;have HC:=ae (EM x B wr _ (.int .i64 x.params) (.int .i64 x.regs) (.slice A2 x.az.length c2) (.slice A3 x.ins.length c3) (by omega) hx h0 h1 h2 h3 (Fl.out x (List.mem_of_getElem? hk1)));have QI:=ae hk1;have qP:(k:Int)<(l.length:Int):=by omega
   have hbl:b<wr.heap.size:=by omega
   have htl:(l.take k).length=k:=by simp;omega
   have zR:=ae htl;simp only[Nat.add_zero]at h0 h1 h2 h3;clear hR aJ hk1 hx htl r2 r3 i0 i1;go_wp2_with fail;refine HC.mono ?_;rintro e w1 ⟨u0,u1,u2,u3,rfl,hy,hb1⟩;obtain⟨La,KJ,TV,TM,e0,e1,e2,e3,Mr,Xw,Gv,Gu⟩:=hy.shape;obtain rfl:=Option.some.inj e0;obtain rfl:=Option.some.inj e1;obtain rfl:=Option.some.inj e2;obtain rfl:=Option.some.inj e3;have YX:=hb1.size;have HY:=ae hy;have bQ:=ae hb1;clear hy hb1 e0 e1 e2 e3 Mr Xw Gv Gu
   go_wp2_with(at_builtin;refine wpList_append_lies _ rfl (.tmp 11) (.tmp 17) 29 rfl w.heap.size 54 i0 (.agg #[.int .i64 0,.int .i64 0,.slice none 0 0,.slice none 0 0]) 4 64 underlying29 hi hz0 hz1 hz2 rfl (by decide) _ k xs rfl (by have h:=HR.own;rw[zR.out]at h;exact(aF h ((eW bQ.out).bH _) (λ_ _ h=>h))) ⟨w1.heap.size,0,none⟩ 1 1 [.int .i64 x.params,.int .i64 x.regs,.slice La x.az.length KJ,.slice TV x.ins.length TM] rfl rfl ?c1 ?c2 (by decide) ?c3 ?c4 ?c5 _ rfl ?_)
   case c1=>exact nV _ _ _
   case c2=>intro u hu;simp at hu;rcases hu with rfl|rfl|rfl|rfl<;>rfl
   case c3=>unfold maxLen;omega
   case c4=>omega
   case c5=>first|omega|(simp<;>omega)
   ·intro g cap' w3 iM hgrow hat Kl;have HN:=ae (show je fT 54 4 w.heap.size w3 (.slice (some ⟨g,0,none⟩) (k+1) cap') (l.take (k+1)) (xs++[.int .i64 x.params,.int .i64 x.regs,.slice La x.az.length KJ,.slice TV x.ins.length TM])from by
     have h:=je.next fT.mono HR (by omega) bQ.out HY.out rfl (ax w1 _) (by rw[zR.out];exact iM) hgrow (by simpa using hat);rw[zR.out]at h;rw[bW QI.out];exact h)
    have QS:=ae (show Below w.heap.size w w3 from(cB.trans (bQ.mono pS)).trans (((aV _ _).alloc (by omega) _).grown hgrow (by first|omega|(simp<;>omega)) (λg hg=>by have:=(HR.lt hg);omega)));clear iM hgrow hat;go_wp2_with fail;go_roundw
    case rel=>exact⟨k+1,_,_,_,_,by omega,by go_num,rfl,HN.out,QS.out⟩
    case measure=>simp[intOf];omega
  ·obtain rfl:k=l.length:=by omega
   rw[List.take_length]at hR;have DW:=ae hR;clear hR aJ;go_wp2_with fail;refine HQ _ _ _ ?_;exact aS (v:= .slice LA ln lc) (by simp[results,results24,go_sem]) rfl (jg.AK fT.mono DW.out cB.out)
theorem mQ.shape{w:World}{B:Nat}{c:Nat->Option Value}{x:bB}(h:mQ w B c x):∃(A0:Option Addr)(c0:Nat)(A1:Option Addr)(c1:Nat),c 0=some (.slice A0 x.ay.length c0)/\c 1=some (.slice A1 x.funcs.length c1)/\c 2=some (.int .i64 x.main)/\SliceAt w B 3 (sG w B) x.ay (.slice A0 x.ay.length c0)/\SliceAt w B 4 (fT w B) x.funcs (.slice A1 x.funcs.length c1)/\In64 x.main:=by
 obtain⟨⟨v0,h0,r0⟩,⟨v1,h1,r1⟩,h2,i2⟩:=h;obtain⟨A0,c0,rfl,_⟩:=id r0;obtain⟨A1,c1,rfl,_⟩:=id r1;exact⟨A0,c0,A1,c1,h0,h1,h2,r0,r1,i2⟩
def K8(x:bB)(w:World)(e:Ending)(w':World):Prop:=
 ∃u0 u1 u2:Value,e= .returned (.agg #[u0,u1,u2])/\mQ (only w' (From w.heap.size)) w'.heap.size (λj=>[u0,u1,u2][j]?) x/\Below w.heap.size w w'
theorem EK(x:bB)(B:Nat)(w:World)(c:Nat->Option Value)(v0 v1 v2:Value)(hB:B<=w.heap.size)(hx:mQ w B c x)(k0:c 0=some v0)(k1:c 1=some v1)(k2:c 2=some v2)(hsz:yU x):
  Calls prog 9 #[.agg #[v0,v1,v2]] w (K8 x w):=by
 obtain⟨A0,c0,A1,c1,h0,h1,h2,r0,r1,i2⟩:=hx.shape;rw[h0]at k0;injection k0 with k0;subst k0;rw[h1]at k1;injection k1 with k1;subst k1;rw[h2]at k2;injection k2 with k2;subst k2;obtain⟨z0,y0,z1,y1⟩:=hsz;have QP:=ae (λW(hb:Below w.heap.size w W)=>wQ x.ay A0 c0 B W (by have:=hb.size;omega) (r0.below (hb.mono hB) (aY _) (λ_ _ h=>h.below (hb.mono hB) (aY _))) z0 y0);have Xk:=ae (λW(hb:Below w.heap.size w W)=>C8 x.funcs A1 c1 B W (by have:=hb.size;omega) (r1.below (hb.mono hB) (aY _) (λ_ _ h=>h.below (hb.mono hB) (aY _))) z1 y1);have XZ:=ae i2
 have eO:=ae (aN w (.cells #[.slice A0 x.ay.length c0,.slice A1 x.funcs.length c1,.int .i64 x.main] 31) (.cells #[.slice none 0 0,.slice none 0 0,.int .i64 0] 31) (.cells #[.slice A0 x.ay.length c0,.slice A1 x.funcs.length c1,.int .i64 x.main] 31));clear hx h0 h1 h2 r0 r1 i2 z0 y0 z1 y1;go_enter func9,ntmps9;refine aj λQ HQ=>?_;go_wp2_with fail;refine(QP _ (by exact eO.out)).mono ?_;rintro e w1 ⟨A0',c0',rfl,hs,_,hb0⟩;have WS:=ae hs;clear hs;have hz0:w.heap.size+1+1+1<=w1.heap.size:=by have:=hb0.size;first|omega|(simp at this;omega)
 have Ld:w1.cell? ⟨w.heap.size+1+1,0,none⟩=some (.slice A0 x.ay.length c0):=ag (by simp[go_sem]) hb0 (by first|omega|(simp<;>omega));have f00:w1.frozen? ⟨w.heap.size+1+1,0,none⟩=false:=((bL hb0).2 _ _ (by first|omega|(simp<;>omega))).trans (by simp[go_sem]);have Lj:w1.cell? ⟨w.heap.size+1,0,none⟩=some (.slice none 0 0):=ag (by simp[go_sem]) hb0 (by first|omega|(simp<;>omega));have g00:w1.frozen? ⟨w.heap.size+1,0,none⟩=false:=((bL hb0).2 _ _ (by first|omega|(simp<;>omega))).trans (by simp[go_sem]);have N6:w1.cell? ⟨w.heap.size,0,none⟩=some (.slice A0 x.ay.length c0):=ag (by simp[go_sem]) hb0 (by first|omega|(simp<;>omega))
 have Lc:w1.cell? ⟨w.heap.size+1+1,1,none⟩=some (.slice A1 x.funcs.length c1):=ag (by simp[go_sem]) hb0 (by first|omega|(simp<;>omega));have f01:w1.frozen? ⟨w.heap.size+1+1,1,none⟩=false:=((bL hb0).2 _ _ (by first|omega|(simp<;>omega))).trans (by simp[go_sem]);have JF:w1.cell? ⟨w.heap.size+1,1,none⟩=some (.slice none 0 0):=ag (by simp[go_sem]) hb0 (by first|omega|(simp<;>omega));have g01:w1.frozen? ⟨w.heap.size+1,1,none⟩=false:=((bL hb0).2 _ _ (by first|omega|(simp<;>omega))).trans (by simp[go_sem]);have N5:w1.cell? ⟨w.heap.size,1,none⟩=some (.slice A1 x.funcs.length c1):=ag (by simp[go_sem]) hb0 (by first|omega|(simp<;>omega))
 have Lb:w1.cell? ⟨w.heap.size+1+1,2,none⟩=some (.int .i64 x.main):=ag (by simp[go_sem]) hb0 (by first|omega|(simp<;>omega));have f02:w1.frozen? ⟨w.heap.size+1+1,2,none⟩=false:=((bL hb0).2 _ _ (by first|omega|(simp<;>omega))).trans (by simp[go_sem]);have IU:w1.cell? ⟨w.heap.size+1,2,none⟩=some (.int .i64 0):=ag (by simp[go_sem]) hb0 (by first|omega|(simp<;>omega));have g02:w1.frozen? ⟨w.heap.size+1,2,none⟩=false:=((bL hb0).2 _ _ (by first|omega|(simp<;>omega))).trans (by simp[go_sem]);have NZ:w1.cell? ⟨w.heap.size,2,none⟩=some (.int .i64 x.main):=ag (by simp[go_sem]) hb0 (by first|omega|(simp<;>omega));have Xq:=ae (eO.trans (hb0.mono (by first|omega|(simp<;>omega))));have HY0:=ae hb0;clear hb0;go_wp2_with fail
 have yj:=ae (Xq.trans (show Below w.heap.size w1 (w1.setCell ⟨w.heap.size+1+1,0,none⟩ (.slice A0' x.ay.length c0'))from Below.setCell (aV _ _) (by first|omega|(simp<;>omega)) _));refine(Xk _ (by exact yj.out)).mono ?_;rintro e w2 ⟨A1',c1',rfl,hs,_,hb1⟩;have HS1:=ae hs;clear hs;have hz1:w.heap.size+1+1+1<=w2.heap.size:=by have:=hb1.size;first|omega|(simp at this;omega)
 have x10:w2.cell? ⟨w.heap.size+1+1,0,none⟩=some (.slice A0' x.ay.length c0'):=ag (by simp[go_sem,Ld,Lc,Lb]) hb1 (by first|omega|(simp<;>omega));have f10:w2.frozen? ⟨w.heap.size+1+1,0,none⟩=false:=((bL hb1).2 _ _ (by first|omega|(simp<;>omega))).trans (by simp[go_sem,f00,f01,f02]);have q10:w2.cell? ⟨w.heap.size+1,0,none⟩=some (.slice none 0 0):=ag (by simp[go_sem,Lj,JF,IU]) hb1 (by first|omega|(simp<;>omega));have g10:w2.frozen? ⟨w.heap.size+1,0,none⟩=false:=((bL hb1).2 _ _ (by first|omega|(simp<;>omega))).trans (by simp[go_sem,g00,g01,g02]);have a10:w2.cell? ⟨w.heap.size,0,none⟩=some (.slice A0 x.ay.length c0):=ag (by simp[go_sem,N6,N5,NZ]) hb1 (by first|omega|(simp<;>omega))
 have x11:w2.cell? ⟨w.heap.size+1+1,1,none⟩=some (.slice A1 x.funcs.length c1):=ag (by simp[go_sem,Ld,Lc,Lb]) hb1 (by first|omega|(simp<;>omega));have f11:w2.frozen? ⟨w.heap.size+1+1,1,none⟩=false:=((bL hb1).2 _ _ (by first|omega|(simp<;>omega))).trans (by simp[go_sem,f00,f01,f02]);have q11:w2.cell? ⟨w.heap.size+1,1,none⟩=some (.slice none 0 0):=ag (by simp[go_sem,Lj,JF,IU]) hb1 (by first|omega|(simp<;>omega));have g11:w2.frozen? ⟨w.heap.size+1,1,none⟩=false:=((bL hb1).2 _ _ (by first|omega|(simp<;>omega))).trans (by simp[go_sem,g00,g01,g02]);have a11:w2.cell? ⟨w.heap.size,1,none⟩=some (.slice A1 x.funcs.length c1):=ag (by simp[go_sem,N6,N5,NZ]) hb1 (by first|omega|(simp<;>omega))
 have x12:w2.cell? ⟨w.heap.size+1+1,2,none⟩=some (.int .i64 x.main):=ag (by simp[go_sem,Ld,Lc,Lb]) hb1 (by first|omega|(simp<;>omega));have f12:w2.frozen? ⟨w.heap.size+1+1,2,none⟩=false:=((bL hb1).2 _ _ (by first|omega|(simp<;>omega))).trans (by simp[go_sem,f00,f01,f02]);have q12:w2.cell? ⟨w.heap.size+1,2,none⟩=some (.int .i64 0):=ag (by simp[go_sem,Lj,JF,IU]) hb1 (by first|omega|(simp<;>omega));have g12:w2.frozen? ⟨w.heap.size+1,2,none⟩=false:=((bL hb1).2 _ _ (by first|omega|(simp<;>omega))).trans (by simp[go_sem,g00,g01,g02]);have a12:w2.cell? ⟨w.heap.size,2,none⟩=some (.int .i64 x.main):=ag (by simp[go_sem,N6,N5,NZ]) hb1 (by first|omega|(simp<;>omega));have HY1:=ae hb1
 have Xo:=ae (yj.trans (hb1.mono (by first|omega|(simp<;>omega))));clear hb1;clear Ld Lc Lb f00 f01 f02 Lj JF IU g00 g01 g02 N6 N5 NZ;go_wp2_with fail;refine HQ _ _ _ ?_;refine aS (v:= .agg #[.slice A0' x.ay.length c0',.slice A1' x.funcs.length c1',.int .i64 x.main]) (by simp[results,results9,go_sem,x10,x11,x12,q10,q11,q12]) rfl ?_;refine Lp (X:=λi=>i=w.heap.size+1\/i=w.heap.size+1+1) (w:=w2) ?_ (λhw=>?_)
 ·repeat(first|(with_reducible exact Wr.refl _ _)|(with_reducible refine Wr.bR ?_)|(with_reducible refine Wr.bH ?_ _)|(with_reducible refine Wr.cJ ?_ _ _ _ (aK ?_))|exact aK rfl|exact bu rfl)
 have hw0:Wr (λi=>i=w.heap.size+1\/i=w.heap.size+1+1) w1 (w1.setCell ⟨w.heap.size+1+1,0,none⟩ (.slice A0' x.ay.length c0')):=by
  repeat(first|(with_reducible exact Wr.refl _ _)|(with_reducible refine Wr.cJ ?_ _ _ _ (aK ?_))|exact aK rfl|exact bu rfl)
 have hw1:=(hw0.trans (eW HY1.out) (λ_ h=>h.elim)).trans hw (λi hi=>aK hi);have R0:=SliceAt.sub sG.mono WS (nN hw1 (N:=w.heap.size) (λi hi=>by rcases hi with hi|hi<;>subst hi<;>first|omega|(simp<;>omega)) (by first|omega|(simp<;>omega))) hw1.size;have R1:=SliceAt.sub fT.mono HS1 (nN hw (N:=w.heap.size) (λi hi=>by rcases hi with hi|hi<;>subst hi<;>first|omega|(simp<;>omega)) (by first|omega|(simp<;>omega))) hw.size;exact⟨_,_,_,rfl,⟨⟨_,rfl,R0⟩,⟨_,rfl,R1⟩,rfl,XZ.out⟩,Xo.trans (hw.below (by omega) (λi hi=>by rcases hi with hi|hi<;>subst hi<;>omega))⟩
theorem nU(l:List Int)(A A':Option Addr)(c c':Nat)(B:Nat)(w:World)(hB:B<=w.heap.size)(hv:aD w B l (.slice A l.length c))(hu:aD w B l (.slice A' l.length c')):
  Calls prog 16 #[.slice A l.length c,.slice A' l.length c'] w λe w'=>e= .returned (.bool true)/\Below w.heap.size w w':=by
 have hlm:=(SliceAt.len hv).2;have hb0:((l.length:Int) !=(l.length:Int))=false:=by simp
 have HA:=ae hv;have QV:=ae hu;clear hv hu;go_enter func16,ntmps16;go_wp2_with fail;go_loopw [5] (λi wr=>∃k:Nat,k<=l.length/\i= .int .i64 k/\Below w.heap.size w wr) (λi _=>l.length-(intOf i).toNat)
 case atStart=>exact⟨0,by omega,rfl,aV _ _⟩
 case round=>
  obtain⟨k,hk2,rfl,aJ⟩:=hrel;by_cases hlt:k<l.length
  ·obtain⟨b,off,x,rfl,hb,hx,e1,_⟩:=SliceAt.get (aD.below HA (aJ.mono hB) (aY _)) hlt;obtain⟨b',off',x',rfl,hb',hx',e2,_⟩:=SliceAt.get (aD.below QV (aJ.mono hB) (aY _)) hlt;obtain rfl:x=x':=Option.some.inj (hx.symm.trans hx');simp only[Nat.add_zero,Nat.mul_one]at e1 e2;have qP:(k:Int)<(l.length:Int):=by omega
   have Sa:(x !=x)=false:=by simp
   clear hx hx';go_wp2_with fail;go_quiet (fail);go_wp2_with fail;go_roundw
   case rel=>exact⟨k+1,by omega,by go_num,below_drewN aJ _⟩
   case measure=>simp[intOf];omega
  ·obtain rfl:k=l.length:=by omega
   go_wp2_with fail;go_ret;exact⟨rfl,aJ⟩
theorem wN(l:List Int)(A A':Option Addr)(c c':Nat)(B:Nat)(w:World)(hB:B<=w.heap.size)(hv:aD w B l (.slice A l.length c))(hu:aD w B l (.slice A' l.length c')):
  Calls prog 72 #[.slice A l.length c,.slice A' l.length c'] w λe w'=>e= .returned (.bool true)/\Below w.heap.size w w':=by
 have hlm:=(SliceAt.len hv).2;have hb0:((l.length:Int) !=(l.length:Int))=false:=by simp
 have HA:=ae hv;have QV:=ae hu;clear hv hu;go_enter func72,ntmps72;go_wp2_with fail;go_loopw [5] (λi wr=>∃k:Nat,k<=l.length/\i= .int .i64 k/\Below w.heap.size w wr) (λi _=>l.length-(intOf i).toNat)
 case atStart=>exact⟨0,by omega,rfl,aV _ _⟩
 case round=>
  obtain⟨k,hk2,rfl,aJ⟩:=hrel;by_cases hlt:k<l.length
  ·obtain⟨b,off,x,rfl,hb,hx,e1,_⟩:=SliceAt.get (aD.below HA (aJ.mono hB) (aY _)) hlt;obtain⟨b',off',x',rfl,hb',hx',e2,_⟩:=SliceAt.get (aD.below QV (aJ.mono hB) (aY _)) hlt;obtain rfl:x=x':=Option.some.inj (hx.symm.trans hx');simp only[Nat.add_zero,Nat.mul_one]at e1 e2;have qP:(k:Int)<(l.length:Int):=by omega
   have Sa:(x !=x)=false:=by simp
   clear hx hx';go_wp2_with fail;go_quiet (fail);go_wp2_with fail;go_roundw
   case rel=>exact⟨k+1,by omega,by go_num,below_drewN aJ _⟩
   case measure=>simp[intOf];omega
  ·obtain rfl:k=l.length:=by omega
   go_wp2_with fail;go_ret;exact⟨rfl,aJ⟩
theorem Nh(x:kH)(B:Nat)(w:World)(c c':Nat->Option Value)(v0 v1 v2 u0 u1 u2:Value)(hB:B<=w.heap.size)(hx:sG w B c x)(hy:sG w B c' x)(k0:c 0=some v0)(m0:c' 0=some u0)(k1:c 1=some v1)(m1:c' 1=some u1)(k2:c 2=some v2)(m2:c' 2=some u2):
  Calls prog 55 #[.agg #[v0,v1,v2],.agg #[u0,u1,u2]] w λe w'=>e= .returned (.bool true)/\Below w.heap.size w w':=by
 obtain⟨A2,c2,h0,h1,h2,r2,i0,i1⟩:=hx.shape;obtain⟨La,KJ,g0,g1,g2,Mr,Gv,Gu⟩:=hy.shape;rw[h0]at k0;injection k0 with k0;subst k0;rw[g0]at m0;injection m0 with m0;subst m0;rw[h1]at k1;injection k1 with k1;subst k1;rw[g1]at m1;injection m1 with m1;subst m1;rw[h2]at k2;injection k2 with k2;subst k2;rw[g2]at m2;injection m2 with m2;subst m2;have e0:(x.size==x.size)=true:=by simp
 have e1:(x.count==x.count)=true:=by simp
 have HC2:=ae (λW(hb:Below w.heap.size w W)=>nU x.init A2 La c2 KJ B W (by have:=hb.size;omega) (r2.below (hb.mono hB) (aY _)) (Mr.below (hb.mono hB) (aY _)));have HB:=ae (aB w (.cells #[.int .i64 x.size,.int .i64 x.count,.slice A2 x.init.length c2] 90) (.cells #[.int .i64 x.size,.int .i64 x.count,.slice La x.init.length KJ] 90));clear hx hy h0 g0 h1 g1 h2 g2 r2 Mr i0 Gv i1 Gu;go_enter func55,ntmps55;refine aj λQ HQ=>?_;go_wp2_with fail;refine(HC2 _ (by exact HB.out)).mono ?_;rintro e w1 ⟨rfl,hb0⟩;have hz0:w.heap.size+1+1<=w1.heap.size:=by have:=hb0.size;first|omega|(simp at this;omega)
 have yj:=ae (HB.trans (hb0.mono (by first|omega|(simp<;>omega))));clear hb0;go_wp2_with fail;refine HQ _ _ _ ?_;exact aS (v:= .bool true) (by simp[results,results55,go_sem]) rfl ⟨rfl,yj.out⟩
theorem Bv(l:List kH)(A A':Option Addr)(aA cap':Nat)(B:Nat)(w:World)(hB:B<=w.heap.size)(hv:SliceAt w B 3 (sG w B) l (.slice A l.length aA))(hu:SliceAt w B 3 (sG w B) l (.slice A' l.length cap')):
  Calls prog 33 #[.slice A l.length aA,.slice A' l.length cap'] w λe w'=>e= .returned (.bool true)/\Below w.heap.size w w':=by
 have hlm:=(SliceAt.len hv).2;have hb0:((l.length:Int) !=(l.length:Int))=false:=by simp
 have HA:=ae hv;have QV:=ae hu;clear hv hu;go_enter func33,ntmps33;go_wp2_with fail;go_loopw [5] (λi wr=>∃k:Nat,k<=l.length/\i= .int .i64 k/\Below w.heap.size w wr) (λi _=>l.length-(intOf i).toNat)
 case atStart=>exact⟨0,by omega,rfl,aV _ _⟩
 case round=>
  obtain⟨k,hk2,rfl,aJ⟩:=hrel;by_cases hlt:k<l.length
  ·obtain⟨b,off,x,rfl,hb,hk1,hx⟩:=(HA.below (aJ.mono hB) (aY _) (λ_ _ h=>h.below (aJ.mono hB) (aY _))).get hlt;obtain⟨b',off',x',rfl,hb',uR,hy⟩:=(QV.below (aJ.mono hB) (aY _) (λ_ _ h=>h.below (aJ.mono hB) (aY _))).get hlt;obtain rfl:x=x':=Option.some.inj (hk1.symm.trans uR);obtain⟨A2,c2,h0,h1,h2,r2,i0,i1⟩:=hx.shape;obtain⟨La,KJ,g0,g1,g2,Mr,Gv,Gu⟩:=hy.shape;have HC:=ae (λW(hb:Below wr.heap.size wr W)=>Nh x B W _ _ (.int .i64 x.size) (.int .i64 x.count) (.slice A2 x.init.length c2) (.int .i64 x.size) (.int .i64 x.count) (.slice La x.init.length KJ) (by have:=hb.size;have:=aJ.size;omega) (hx.below (hb.mono (by have:=aJ.size;omega)) (aY _)) (hy.below (hb.mono (by have:=aJ.size;omega)) (aY _)) h0 g0 h1 g1 h2 g2)
   simp only[Nat.add_zero]at h0 g0 h1 g1 h2 g2;have qP:(k:Int)<(l.length:Int):=by omega
   clear hk1 uR hx hy r2 Mr i0 Gv i1 Gu;go_wp2;go_still_tail 8,(by kernel_rfl)
   go_wp2_with fail;refine(HC _ (aV _ _).drew).mono ?_;rintro e w1 ⟨rfl,hb1⟩;go_wp2_with fail;go_roundw
   case rel=>exact⟨k+1,by omega,by go_num,aJ.drew.trans (hb1.mono (show w.heap.size<=wr.drew.heap.size from aJ.size))⟩
   case measure=>simp[intOf];omega
  ·obtain rfl:k=l.length:=by omega
   go_wp2_with fail;go_ret;exact⟨rfl,aJ⟩
theorem Ni(x:bg)(B:Nat)(w:World)(c c':Nat->Option Value)(v0 v1 v2 v3 v4 v5 u0 u1 u2 u3 u4 u5:Value)(hB:B<=w.heap.size)(hx:kI w B c x)(hy:kI w B c' x)(k0:c 0=some v0)(m0:c' 0=some u0)(k1:c 1=some v1)(m1:c' 1=some u1)(k2:c 2=some v2)(m2:c' 2=some u2)(k3:c 3=some v3)(m3:c' 3=some u3)(k4:c 4=some v4)(m4:c' 4=some u4)(k5:c 5=some v5)(m5:c' 5=some u5):
  Calls prog 58 #[.agg #[v0,v1,v2,v3,v4,v5],.agg #[u0,u1,u2,u3,u4,u5]] w λe w'=>e= .returned (.bool true)/\Below w.heap.size w w':=by
 obtain⟨A5,c5,h0,h1,h2,h3,h4,h5,r5,i0,i1,i2,i3,i4⟩:=hx.shape;obtain⟨Xt,Vq,g0,g1,g2,g3,g4,g5,Xv,Gv,Gu,UI,YV,YU⟩:=hy.shape;rw[h0]at k0;injection k0 with k0;subst k0;rw[g0]at m0;injection m0 with m0;subst m0;rw[h1]at k1;injection k1 with k1;subst k1;rw[g1]at m1;injection m1 with m1;subst m1;rw[h2]at k2;injection k2 with k2;subst k2;rw[g2]at m2;injection m2 with m2;subst m2;rw[h3]at k3;injection k3 with k3;subst k3;rw[g3]at m3;injection m3 with m3;subst m3;rw[h4]at k4;injection k4 with k4;subst k4;rw[g4]at m4;injection m4 with m4;subst m4;rw[h5]at k5;injection k5 with k5;subst k5;rw[g5]at m5;injection m5 with m5;subst m5;have e0:(x.op==x.op)=true:=by simp
 have e1:(x.dst==x.dst)=true:=by simp
 have e2:(x.a==x.a)=true:=by simp
 have e3:(x.b==x.b)=true:=by simp
 have e4:(x.n==x.n)=true:=by simp
 have HC5:=ae (λW(hb:Below w.heap.size w W)=>wN x.arg A5 Xt c5 Vq B W (by have:=hb.size;omega) (r5.below (hb.mono hB) (aY _)) (Xv.below (hb.mono hB) (aY _)));have HB:=ae (aB w (.cells #[.int .i64 x.op,.int .i64 x.dst,.int .i64 x.a,.int .i64 x.b,.int .i64 x.n,.slice A5 x.arg.length c5] 94) (.cells #[.int .i64 x.op,.int .i64 x.dst,.int .i64 x.a,.int .i64 x.b,.int .i64 x.n,.slice Xt x.arg.length Vq] 94));clear hx hy h0 g0 h1 g1 h2 g2 h3 g3 h4 g4 h5 g5 r5 Xv i0 Gv i1 Gu i2 UI i3 YV i4 YU;go_enter func58,ntmps58;refine aj λQ HQ=>?_;go_wp2_with fail;refine(HC5 _ (by exact HB.out)).mono ?_;rintro e w1 ⟨rfl,hb0⟩;have hz0:w.heap.size+1+1<=w1.heap.size:=by have:=hb0.size;first|omega|(simp at this;omega)
 have yj:=ae (HB.trans (hb0.mono (by first|omega|(simp<;>omega))));clear hb0;go_wp2_with fail;refine HQ _ _ _ ?_;exact aS (v:= .bool true) (by simp[results,results58,go_sem]) rfl ⟨rfl,yj.out⟩
theorem KB(l:List bg)(A A':Option Addr)(aA cap':Nat)(B:Nat)(w:World)(hB:B<=w.heap.size)(hv:SliceAt w B 6 (kI w B) l (.slice A l.length aA))(hu:SliceAt w B 6 (kI w B) l (.slice A' l.length cap')):
  Calls prog 71 #[.slice A l.length aA,.slice A' l.length cap'] w λe w'=>e= .returned (.bool true)/\Below w.heap.size w w':=by
 have hlm:=(SliceAt.len hv).2;have hb0:((l.length:Int) !=(l.length:Int))=false:=by simp
 have HA:=ae hv;have QV:=ae hu;clear hv hu;go_enter func71,ntmps71;go_wp2_with fail;go_loopw [5] (λi wr=>∃k:Nat,k<=l.length/\i= .int .i64 k/\Below w.heap.size w wr) (λi _=>l.length-(intOf i).toNat)
 case atStart=>exact⟨0,by omega,rfl,aV _ _⟩
 case round=>
  obtain⟨k,hk2,rfl,aJ⟩:=hrel;by_cases hlt:k<l.length
  ·obtain⟨b,off,x,rfl,hb,hk1,hx⟩:=(HA.below (aJ.mono hB) (aY _) (λ_ _ h=>h.below (aJ.mono hB) (aY _))).get hlt;obtain⟨b',off',x',rfl,hb',uR,hy⟩:=(QV.below (aJ.mono hB) (aY _) (λ_ _ h=>h.below (aJ.mono hB) (aY _))).get hlt;obtain rfl:x=x':=Option.some.inj (hk1.symm.trans uR);obtain⟨A5,c5,h0,h1,h2,h3,h4,h5,r5,i0,i1,i2,i3,i4⟩:=hx.shape;obtain⟨Xt,Vq,g0,g1,g2,g3,g4,g5,Xv,Gv,Gu,UI,YV,YU⟩:=hy.shape
   have HC:=ae (λW(hb:Below wr.heap.size wr W)=>Ni x B W _ _ (.int .i64 x.op) (.int .i64 x.dst) (.int .i64 x.a) (.int .i64 x.b) (.int .i64 x.n) (.slice A5 x.arg.length c5) (.int .i64 x.op) (.int .i64 x.dst) (.int .i64 x.a) (.int .i64 x.b) (.int .i64 x.n) (.slice Xt x.arg.length Vq) (by have:=hb.size;have:=aJ.size;omega) (hx.below (hb.mono (by have:=aJ.size;omega)) (aY _)) (hy.below (hb.mono (by have:=aJ.size;omega)) (aY _)) h0 g0 h1 g1 h2 g2 h3 g3 h4 g4 h5 g5);simp only[Nat.add_zero]at h0 g0 h1 g1 h2 g2 h3 g3 h4 g4 h5 g5;have qP:(k:Int)<(l.length:Int):=by omega
   clear hk1 uR hx hy r5 Xv i0 Gv i1 Gu i2 UI i3 YV i4 YU;go_wp2;go_still_tail 8,(by kernel_rfl)
   go_wp2_with fail;refine(HC _ (aV _ _).drew).mono ?_;rintro e w1 ⟨rfl,hb1⟩;go_wp2_with fail;go_roundw
   case rel=>exact⟨k+1,by omega,by go_num,aJ.drew.trans (hb1.mono (show w.heap.size<=wr.drew.heap.size from aJ.size))⟩
   case measure=>simp[intOf];omega
  ·obtain rfl:k=l.length:=by omega
   go_wp2_with fail;go_ret;exact⟨rfl,aJ⟩
theorem KC(x:aR)(B:Nat)(w:World)(c c':Nat->Option Value)(v0 v1 v2 v3 u0 u1 u2 u3:Value)(hB:B<=w.heap.size)(hx:fT w B c x)(hy:fT w B c' x)(k0:c 0=some v0)(m0:c' 0=some u0)(k1:c 1=some v1)(m1:c' 1=some u1)(k2:c 2=some v2)(m2:c' 2=some u2)(k3:c 3=some v3)(m3:c' 3=some u3):
  Calls prog 56 #[.agg #[v0,v1,v2,v3],.agg #[u0,u1,u2,u3]] w λe w'=>e= .returned (.bool true)/\Below w.heap.size w w':=by
 obtain⟨A2,c2,A3,c3,h0,h1,h2,h3,r2,r3,i0,i1⟩:=hx.shape;obtain⟨La,KJ,TV,TM,g0,g1,g2,g3,Mr,Xw,Gv,Gu⟩:=hy.shape;rw[h0]at k0;injection k0 with k0;subst k0;rw[g0]at m0;injection m0 with m0;subst m0;rw[h1]at k1;injection k1 with k1;subst k1;rw[g1]at m1;injection m1 with m1;subst m1;rw[h2]at k2;injection k2 with k2;subst k2;rw[g2]at m2;injection m2 with m2;subst m2;rw[h3]at k3;injection k3 with k3;subst k3;rw[g3]at m3;injection m3 with m3;subst m3;have e0:(x.params==x.params)=true:=by simp
 have e1:(x.regs==x.regs)=true:=by simp
 have HC2:=ae (λW(hb:Below w.heap.size w W)=>Bv x.az A2 La c2 KJ B W (by have:=hb.size;omega) (r2.below (hb.mono hB) (aY _) (λ_ _ h=>h.below (hb.mono hB) (aY _))) (Mr.below (hb.mono hB) (aY _) (λ_ _ h=>h.below (hb.mono hB) (aY _))));have TU:=ae (λW(hb:Below w.heap.size w W)=>KB x.ins A3 TV c3 TM B W (by have:=hb.size;omega) (r3.below (hb.mono hB) (aY _) (λ_ _ h=>h.below (hb.mono hB) (aY _))) (Xw.below (hb.mono hB) (aY _) (λ_ _ h=>h.below (hb.mono hB) (aY _))));have HB:=ae (aB w (.cells #[.int .i64 x.params,.int .i64 x.regs,.slice A2 x.az.length c2,.slice A3 x.ins.length c3] 54) (.cells #[.int .i64 x.params,.int .i64 x.regs,.slice La x.az.length KJ,.slice TV x.ins.length TM] 54))
 clear hx hy h0 g0 h1 g1 h2 g2 h3 g3 r2 Mr r3 Xw i0 Gv i1 Gu;go_enter func56,ntmps56;refine aj λQ HQ=>?_;go_wp2_with fail;refine(HC2 _ (by exact HB.out)).mono ?_;rintro e w1 ⟨rfl,hb0⟩;have hz0:w.heap.size+1+1<=w1.heap.size:=by have:=hb0.size;first|omega|(simp at this;omega)
 have p03:w1.cell? ⟨w.heap.size,3,none⟩=some (.slice A3 x.ins.length c3):=ag (by simp[go_sem]) hb0 (by first|omega|(simp<;>omega));have Tn:w1.cell? ⟨w.heap.size+1,3,none⟩=some (.slice TV x.ins.length TM):=ag (by simp[go_sem]) hb0 (by first|omega|(simp<;>omega));have yj:=ae (HB.trans (hb0.mono (by first|omega|(simp<;>omega))));clear hb0;go_wp2_with fail;refine(TU _ (by exact yj.out)).mono ?_;rintro e w2 ⟨rfl,hb1⟩;have hz1:w.heap.size+1+1<=w2.heap.size:=by have:=hb1.size;first|omega|(simp at this;omega)
 have bQ:=ae (yj.trans (hb1.mono (by first|omega|(simp<;>omega))));clear hb1;go_wp2_with fail;refine HQ _ _ _ ?_;exact aS (v:= .bool true) (by simp[results,results56,go_sem]) rfl ⟨rfl,bQ.out⟩
theorem G8(l:List aR)(A A':Option Addr)(aA cap':Nat)(B:Nat)(w:World)(hB:B<=w.heap.size)(hv:SliceAt w B 4 (fT w B) l (.slice A l.length aA))(hu:SliceAt w B 4 (fT w B) l (.slice A' l.length cap')):
  Calls prog 34 #[.slice A l.length aA,.slice A' l.length cap'] w λe w'=>e= .returned (.bool true)/\Below w.heap.size w w':=by
 have hlm:=(SliceAt.len hv).2;have hb0:((l.length:Int) !=(l.length:Int))=false:=by simp
 have HA:=ae hv;have QV:=ae hu;clear hv hu;go_enter func34,ntmps34;go_wp2_with fail;go_loopw [5] (λi wr=>∃k:Nat,k<=l.length/\i= .int .i64 k/\Below w.heap.size w wr) (λi _=>l.length-(intOf i).toNat)
 case atStart=>exact⟨0,by omega,rfl,aV _ _⟩
 case round=>
  obtain⟨k,hk2,rfl,aJ⟩:=hrel;by_cases hlt:k<l.length
  ·obtain⟨b,off,x,rfl,hb,hk1,hx⟩:=(HA.below (aJ.mono hB) (aY _) (λ_ _ h=>h.below (aJ.mono hB) (aY _))).get hlt;obtain⟨b',off',x',rfl,hb',uR,hy⟩:=(QV.below (aJ.mono hB) (aY _) (λ_ _ h=>h.below (aJ.mono hB) (aY _))).get hlt;obtain rfl:x=x':=Option.some.inj (hk1.symm.trans uR);obtain⟨A2,c2,A3,c3,h0,h1,h2,h3,r2,r3,i0,i1⟩:=hx.shape;obtain⟨La,KJ,TV,TM,g0,g1,g2,g3,Mr,Xw,Gv,Gu⟩:=hy.shape
   have HC:=ae (λW(hb:Below wr.heap.size wr W)=>KC x B W _ _ (.int .i64 x.params) (.int .i64 x.regs) (.slice A2 x.az.length c2) (.slice A3 x.ins.length c3) (.int .i64 x.params) (.int .i64 x.regs) (.slice La x.az.length KJ) (.slice TV x.ins.length TM) (by have:=hb.size;have:=aJ.size;omega) (hx.below (hb.mono (by have:=aJ.size;omega)) (aY _)) (hy.below (hb.mono (by have:=aJ.size;omega)) (aY _)) h0 g0 h1 g1 h2 g2 h3 g3);simp only[Nat.add_zero]at h0 g0 h1 g1 h2 g2 h3 g3;have qP:(k:Int)<(l.length:Int):=by omega
   clear hk1 uR hx hy r2 Mr r3 Xw i0 Gv i1 Gu;go_wp2;go_still_tail 8,(by kernel_rfl)
   go_wp2_with fail;refine(HC _ (aV _ _).drew).mono ?_;rintro e w1 ⟨rfl,hb1⟩;go_wp2_with fail;go_roundw
   case rel=>exact⟨k+1,by omega,by go_num,aJ.drew.trans (hb1.mono (show w.heap.size<=wr.drew.heap.size from aJ.size))⟩
   case measure=>simp[intOf];omega
  ·obtain rfl:k=l.length:=by omega
   go_wp2_with fail;go_ret;exact⟨rfl,aJ⟩
theorem Kz(x:bB)(B:Nat)(w:World)(c c':Nat->Option Value)(v0 v1 v2 u0 u1 u2:Value)(hB:B<=w.heap.size)(hx:mQ w B c x)(hy:mQ w B c' x)(k0:c 0=some v0)(m0:c' 0=some u0)(k1:c 1=some v1)(m1:c' 1=some u1)(k2:c 2=some v2)(m2:c' 2=some u2):
  Calls prog 15 #[.agg #[v0,v1,v2],.agg #[u0,u1,u2]] w λe w'=>e= .returned (.bool true)/\Below w.heap.size w w':=by
 obtain⟨A0,c0,A1,c1,h0,h1,h2,r0,r1,i2⟩:=hx.shape;obtain⟨A0s,c0s,A1s,c1s,g0,g1,g2,r0s,r1s,UI⟩:=hy.shape;rw[h0]at k0;injection k0 with k0;subst k0;rw[g0]at m0;injection m0 with m0;subst m0;rw[h1]at k1;injection k1 with k1;subst k1;rw[g1]at m1;injection m1 with m1;subst m1;rw[h2]at k2;injection k2 with k2;subst k2;rw[g2]at m2;injection m2 with m2;subst m2;have QP:=ae (λW(hb:Below w.heap.size w W)=>Bv x.ay A0 A0s c0 c0s B W (by have:=hb.size;omega) (r0.below (hb.mono hB) (aY _) (λ_ _ h=>h.below (hb.mono hB) (aY _))) (r0s.below (hb.mono hB) (aY _) (λ_ _ h=>h.below (hb.mono hB) (aY _))))
 have Xk:=ae (λW(hb:Below w.heap.size w W)=>G8 x.funcs A1 A1s c1 c1s B W (by have:=hb.size;omega) (r1.below (hb.mono hB) (aY _) (λ_ _ h=>h.below (hb.mono hB) (aY _))) (r1s.below (hb.mono hB) (aY _) (λ_ _ h=>h.below (hb.mono hB) (aY _))));have e2:(x.main==x.main)=true:=by simp
 have HB:=ae (aB w (.cells #[.slice A0 x.ay.length c0,.slice A1 x.funcs.length c1,.int .i64 x.main] 31) (.cells #[.slice A0s x.ay.length c0s,.slice A1s x.funcs.length c1s,.int .i64 x.main] 31));clear hx hy h0 g0 h1 g1 h2 g2 r0 r0s r1 r1s i2 UI;go_enter func15,ntmps15;refine aj λQ HQ=>?_;go_wp2_with fail;refine(QP _ (by exact HB.out)).mono ?_;rintro e w1 ⟨rfl,hb0⟩;have hz0:w.heap.size+1+1<=w1.heap.size:=by have:=hb0.size;first|omega|(simp at this;omega)
 have p01:w1.cell? ⟨w.heap.size,1,none⟩=some (.slice A1 x.funcs.length c1):=ag (by simp[go_sem]) hb0 (by first|omega|(simp<;>omega));have JF:w1.cell? ⟨w.heap.size+1,1,none⟩=some (.slice A1s x.funcs.length c1s):=ag (by simp[go_sem]) hb0 (by first|omega|(simp<;>omega));have p02:w1.cell? ⟨w.heap.size,2,none⟩=some (.int .i64 x.main):=ag (by simp[go_sem]) hb0 (by first|omega|(simp<;>omega));have IU:w1.cell? ⟨w.heap.size+1,2,none⟩=some (.int .i64 x.main):=ag (by simp[go_sem]) hb0 (by first|omega|(simp<;>omega));have yj:=ae (HB.trans (hb0.mono (by first|omega|(simp<;>omega))));clear hb0;go_wp2_with fail;refine(Xk _ (by exact yj.out)).mono ?_;rintro e w2 ⟨rfl,hb1⟩;have hz1:w.heap.size+1+1<=w2.heap.size:=by have:=hb1.size;first|omega|(simp at this;omega)
 have p12:w2.cell? ⟨w.heap.size,2,none⟩=some (.int .i64 x.main):=ag (p02) hb1 (by first|omega|(simp<;>omega));have q12:w2.cell? ⟨w.heap.size+1,2,none⟩=some (.int .i64 x.main):=ag (IU) hb1 (by first|omega|(simp<;>omega));have bQ:=ae (yj.trans (hb1.mono (by first|omega|(simp<;>omega))));clear hb1;go_wp2_with fail;refine HQ _ _ _ ?_;exact aS (v:= .bool true) (by simp[results,results15,go_sem]) rfl ⟨rfl,bQ.out⟩
end Go.Proofs.YtinmgbodgecoeaaGreat
