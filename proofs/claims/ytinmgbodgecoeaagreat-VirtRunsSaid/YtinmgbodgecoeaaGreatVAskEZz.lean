/- virt's checks: an instruction. Conditions: as stated. -/
import Derived.Test.YtinmgbodgecoeaaGreatVAskDZz
set_option linter.unusedSimpArgs false
set_option linter.unusedVariables false
set_option maxHeartbeats 8000000
set_option maxRecDepth 100000
open Go.Proofs.Tryz
namespace Go.Proofs.YtinmgbodgecoeaaGreat
open Go.RowKit
def sX:Int->Int->Bool:=λ_ _=>true
def Cx(PQ:Bool->World->Prop)(c:aR)(ng nf:Int)(x:bg)(w:World)(e:Ending)(w':World):Prop:=
 ∃b,e= .returned (.bool b)/\(x.op=10/\sJ c ng nf sX x=true/\PQ b w'\/¬(x.op=10/\sJ c ng nf sX x=true)/\b=sJ c ng nf cG x/\Below w.heap.size w w')
theorem qw(c:aR)(ng nf:Int)(par:Int->Int->Bool)(x:bg):sJ c ng nf par x=((aP x).isSome && (sH x.dst (aI x).1 (-1) c.regs && (sH x.a (aI x).2.1 0 c.regs && ((eN x||sH x.b (aI x).2.2.1 0 c.regs)&& (((aI x).2.2.2.1||decide (x.n=0))&& (((aI x).2.2.2.2||decide (x.arg.length=0))&& aH c ng nf par x)))))):=by
 unfold sJ aI;rcases h:aP x with _|⟨t,a,b,n,r⟩<;>rfl
theorem eJ{PQ:Bool->World->Prop}{c:aR}{ng nf:Int}{x:bg}{w w':World}(h:∀par,sJ c ng nf par x=false)(hw:Below w.heap.size w w'):Cx PQ c ng nf x w (.returned (.bool false)) w':=
 ⟨false,rfl,bu ⟨λhh=>(by rw[h sX]at hh;cases hh.2),(h cG).symm,hw⟩⟩
theorem AQ{c:aR}{ng nf:Int}{x:bg}(h:x.op=10):aH c ng nf sX x=sB c nf x:=by
 obtain⟨op,dst,a,b,n,arg⟩:=x;simp only at h;subst h;simp[aH,sB,sX]
theorem dM{PQ:Bool->World->Prop}{c:aR}{ng nf:Int}{x:bg}{w w1 w':World}{e:Ending}(h:∀par,sJ c ng nf par x=aH c ng nf par x)(hw:Below w.heap.size w w1)(hs:bA PQ c ng nf x w1 e w'):Cx PQ c ng nf x w e w':=by
 obtain⟨b,rfl,⟨h1,h2,h3⟩|⟨h1,h2,h3⟩⟩:=hs
 ·exact⟨b,rfl,aK ⟨h1,by rw[h,AQ h1,h2],h3⟩⟩
 ·exact⟨b,rfl,bu ⟨λhh=>h1 ⟨hh.1,by rw[<-AQ (ng:=ng) hh.1,<-h];exact hh.2⟩,by rw[h,h2],hw.trans (h3.mono hw.size)⟩⟩
theorem Oc(PQ:Bool->World->Prop)(ab:Nat)(c:aR)(LA:Option Addr)(lc:Nat)(BA:Option Addr)(bc:Nat)(nf ng:Int)(cv:Value)(mb Fh:Nat)(x:bg)(A:Option Addr)(aA B:Nat)(w:World)
  (h:tL w ab c LA lc BA bc nf ng (.func (.func 39) #[] #[cv]) (.map (some mb)))(hL:fL w mb Fh (gS c.ins))(hn:In64 x.n)(hB:B<=w.heap.size)(hx:aD w B x.arg (.slice A x.arg.length aA))
  (gH:(0<=x.n/\x.n<nf)->∀W,Below w.heap.size w W->Calls prog 39 #[.int .i64 x.n,.int .i64 x.arg.length,cv] W λe w'=>∃b,e= .returned (.bool b)/\PQ b w'):
  Calls prog 61 #[.pointer (some ⟨ab,0,.none⟩),cH x A aA] w λe w'=>Cx PQ c ng nf x w e w':=by
 have HE:=ae (qw c ng nf · x);have S8:=ae (λ(W:World)(hb:Below w.heap.size w W)=>Fv PQ ab c LA lc BA bc nf ng cv mb Fh x A aA B W (Row.below h hb (Row.lt h)) (hL.below hb) hn (by have:=hb.size;omega) (hx.below (hb.mono hB) (aY _)) (λh W' hW'=>gH h W' (hb.trans (hW'.mono hb.size))));have kJ:=ax w (.cells #[.int .i64 x.op,.int .i64 x.dst,.int .i64 x.a,.int .i64 x.b,.int .i64 x.n,.slice A x.arg.length aA] 94);have S9:=ae (I7 x A aA (w.alloc (.cells #[.int .i64 x.op,.int .i64 x.dst,.int .i64 x.a,.int .i64 x.b,.int .i64 x.n,.slice A x.arg.length aA] 94)));have cS:=ae kJ;have HAS:=ae h;have dI:=ae (Row.new w #[.int .i64 x.op,.int .i64 x.dst,.int .i64 x.a,.int .i64 x.b,.int .i64 x.n,.slice A x.arg.length aA] 94);clear h hL hx gH kJ;unfold cH at S9 S8 ⊢
 unfold cu at S9;obtain⟨f,hf⟩:∃f,f=aI x:=⟨_,rfl⟩
 rw[<-hf]at S9 HE;clear hf;obtain⟨ft,fa,fb,fn,fr⟩:=f;simp only at S9 HE;obtain⟨hok,Zj⟩:∃b,b=(aP x).isSome:=⟨_,rfl⟩
 rw[<-Zj]at S9 HE;clear Zj;have zT:=ae (show eN x=decide (x.op=8\/x.op=9)from rfl);have HC:=ae (show x.op=8\/x.op=9\/(x.op≠8/\x.op≠9) by omega);obtain⟨op,dst,a,b,n,arg⟩:=x;simp only at S9 HE S8 zT cS dI HC ⊢;obtain⟨m,hm⟩:∃m,m=arg.length:=⟨_,rfl⟩
 simp only[<-hm]at S9 HE S8 cS dI ⊢;have HM:=ae hm;clear hm;go_enter func61,ntmps61;refine aj λQ HQ=>?_;go_wp2_with fail;refine S9.mono ?_;rintro e w1 ⟨rfl,hb1⟩;have bQ:=ae (cS.trans (hb1.mono cS.size));have hr1:=dI.below hb1 dI.lt;have oY:=ae hr1;have u0:=hr1.cell (j:=0) rfl;have u1:=hr1.cell (j:=1) rfl;have u2:=hr1.cell (j:=2) rfl;have u3:=hr1.cell (j:=3) rfl;have u4:=hr1.cell (j:=4) rfl;have u5:=hr1.cell (j:=5) rfl;have ul:=hr1.lt;clear hb1 S9 dI cS hr1;cases hok with
 |false=>
  go_wp2_with fail;refine HQ _ _ _ ?_;exact aS (v:= .bool false) (by simp[results,results61,go_sem]) rfl (eJ (w:=w) (λpar=>by rw[HE.out];simp[]) (bQ.trans ((ax _ _).mono bQ.size)))
 |true=>
  cases h1:sH dst ft (-1) c.regs with
  |false=>
   have H1:=ae h1;clear h1;go_wp2_with fail;obtain⟨w2,hw2⟩:∃w2,w2=w1.alloc (.cells #[.bool ft,.bool fa,.bool fb,.bool fn,.bool fr] 139):=⟨_,rfl⟩
   rw[<-hw2];have hf2:Row w2 w1.heap.size #[.bool ft,.bool fa,.bool fb,.bool fn,.bool fr] 139:=hw2▸Row.new _ _ _;have hr2:Row w2 w.heap.size #[.int .i64 op,.int .i64 dst,.int .i64 a,.int .i64 b,.int .i64 n,.slice A m aA] 94:=hw2▸oY.alloc _;have hbb:Below w.heap.size w w2:=hw2▸bQ.trans ((ax _ _).mono bQ.size);have bC:=ae hbb;have E3:=ae (S8.out w2 hbb);have Rg:=ae (Row.below HAS.out hbb (Row.lt HAS.out));have y0:=hf2.cell (j:=0) rfl;have y1:=hf2.cell (j:=1) rfl;have y2:=hf2.cell (j:=2) rfl;have y3:=hf2.cell (j:=3) rfl;have y4:=hf2.cell (j:=4) rfl;have z0:=hr2.cell (j:=0) rfl;have z1:=hr2.cell (j:=1) rfl;have z2:=hr2.cell (j:=2) rfl;have z3:=hr2.cell (j:=3) rfl;have z4:=hr2.cell (j:=4) rfl;have z5:=hr2.cell (j:=5) rfl;have yl:=hf2.lt;have zl:=hr2.lt
   have z6:=ae (And.intro hf2 hr2);clear hw2 hf2 hr2 hbb S8 u0 u1 u2 u3 u4 u5;have HG:=ae (iq ab c LA lc BA bc nf ng _ _ dst ft (-1) w2 Rg.out);rw[H1.out]at HG;refine HG.mono ?_;rintro e w3 ⟨rfl,rfl⟩;go_wp2_with fail;refine HQ _ _ _ ?_;exact aS (v:= .bool false) (by simp[results,results61,go_sem]) rfl (eJ (w:=w) (λpar=>by rw[HE.out];simp[H1.out]) bC.out)
  |true=>
   have H1:=ae h1;clear h1;cases h2:sH a fa 0 c.regs with
   |false=>
    have H2:=ae h2;clear h2;go_wp2_with fail;obtain⟨w2,hw2⟩:∃w2,w2=w1.alloc (.cells #[.bool ft,.bool fa,.bool fb,.bool fn,.bool fr] 139):=⟨_,rfl⟩
    rw[<-hw2];have hf2:Row w2 w1.heap.size #[.bool ft,.bool fa,.bool fb,.bool fn,.bool fr] 139:=hw2▸Row.new _ _ _;have hr2:Row w2 w.heap.size #[.int .i64 op,.int .i64 dst,.int .i64 a,.int .i64 b,.int .i64 n,.slice A m aA] 94:=hw2▸oY.alloc _;have hbb:Below w.heap.size w w2:=hw2▸bQ.trans ((ax _ _).mono bQ.size);have bC:=ae hbb;have E3:=ae (S8.out w2 hbb);have Rg:=ae (Row.below HAS.out hbb (Row.lt HAS.out));have y0:=hf2.cell (j:=0) rfl;have y1:=hf2.cell (j:=1) rfl;have y2:=hf2.cell (j:=2) rfl;have y3:=hf2.cell (j:=3) rfl;have y4:=hf2.cell (j:=4) rfl;have z0:=hr2.cell (j:=0) rfl;have z1:=hr2.cell (j:=1) rfl;have z2:=hr2.cell (j:=2) rfl;have z3:=hr2.cell (j:=3) rfl;have z4:=hr2.cell (j:=4) rfl;have z5:=hr2.cell (j:=5) rfl;have yl:=hf2.lt;have zl:=hr2.lt
    have z6:=ae (And.intro hf2 hr2);clear hw2 hf2 hr2 hbb S8 u0 u1 u2 u3 u4 u5;have HG:=ae (iq ab c LA lc BA bc nf ng _ _ dst ft (-1) w2 Rg.out);rw[H1.out]at HG;have HG2:=ae (iq ab c LA lc BA bc nf ng _ _ a fa 0 w2 Rg.out);rw[H2.out]at HG2;refine HG.mono ?_;rintro e w3 ⟨rfl,rfl⟩;go_wp2_with fail;refine HG2.mono ?_;rintro e w3 ⟨rfl,rfl⟩;go_wp2_with fail;refine HQ _ _ _ ?_;exact aS (v:= .bool false) (by simp[results,results61,go_sem]) rfl (eJ (w:=w) (λpar=>by rw[HE.out];simp[H1.out,H2.out]) bC.out)
   |true=>
    have H2:=ae h2;clear h2;go_wp2_with fail;obtain⟨w2,hw2⟩:∃w2,w2=w1.alloc (.cells #[.bool ft,.bool fa,.bool fb,.bool fn,.bool fr] 139):=⟨_,rfl⟩
    rw[<-hw2];have hf2:Row w2 w1.heap.size #[.bool ft,.bool fa,.bool fb,.bool fn,.bool fr] 139:=hw2▸Row.new _ _ _;have hr2:Row w2 w.heap.size #[.int .i64 op,.int .i64 dst,.int .i64 a,.int .i64 b,.int .i64 n,.slice A m aA] 94:=hw2▸oY.alloc _;have hbb:Below w.heap.size w w2:=hw2▸bQ.trans ((ax _ _).mono bQ.size);have bC:=ae hbb;have E3:=ae (S8.out w2 hbb);have Rg:=ae (Row.below HAS.out hbb (Row.lt HAS.out));have y0:=hf2.cell (j:=0) rfl;have y1:=hf2.cell (j:=1) rfl;have y2:=hf2.cell (j:=2) rfl;have y3:=hf2.cell (j:=3) rfl;have y4:=hf2.cell (j:=4) rfl;have z0:=hr2.cell (j:=0) rfl;have z1:=hr2.cell (j:=1) rfl;have z2:=hr2.cell (j:=2) rfl;have z3:=hr2.cell (j:=3) rfl;have z4:=hr2.cell (j:=4) rfl;have z5:=hr2.cell (j:=5) rfl;have yl:=hf2.lt;have zl:=hr2.lt
    have z6:=ae (And.intro hf2 hr2);clear hw2 hf2 hr2 hbb S8 u0 u1 u2 u3 u4 u5;have HG:=ae (iq ab c LA lc BA bc nf ng _ _ dst ft (-1) w2 Rg.out);rw[H1.out]at HG;have HG2:=ae (iq ab c LA lc BA bc nf ng _ _ a fa 0 w2 Rg.out);rw[H2.out]at HG2;refine HG.mono ?_;rintro e w3 ⟨rfl,rfl⟩;go_wp2_with fail;refine HG2.mono ?_;rintro e w3 ⟨rfl,rfl⟩;have N8:=ae (show decide (n=0)=(n==0)from by by_cases h:n=0<;>simp[h]);have hcn:fn=true\/(fn=false/\n=0)\/(fn=false/\(n==0)=false):=by cases fn<;>by_cases h:n=0<;>simp[h]
    have Q4:fr=true\/(fr=false/\m=0)\/(fr=false/\∃j,m=j+1):=by cases fr<;>cases m<;>simp
    have hcb:(eN ⟨op,dst,a,b,n,arg⟩=true/\op=8)\/(eN ⟨op,dst,a,b,n,arg⟩=true/\op=9)\/(eN ⟨op,dst,a,b,n,arg⟩=false/\(op==8)=false/\(op==9)=false/\sH b fb 0 c.regs=true)\/(eN ⟨op,dst,a,b,n,arg⟩=false/\(op==8)=false/\(op==9)=false/\sH b fb 0 c.regs=false):=by
     rw[zT.out];rcases HC.out with h|h|⟨h,h'⟩
     ·left;simp[h]
     ·right;left;simp[h]
     ·right;right;cases sH b fb 0 c.regs<;>simp[h,h']
    have K6:=ae (iq ab c LA lc BA bc nf ng _ _ b fb 0 w2 Rg.out);rcases hcb with⟨hfree,rfl⟩|⟨hfree,rfl⟩|⟨hfree,e8,e9,h3⟩|⟨hfree,e8,e9,h3⟩
    ·have H3:=ae hfree;clear hfree;rcases hcn with rfl|⟨rfl,rfl⟩|⟨rfl,hn0⟩
     ·skip
      rcases Q4 with rfl|⟨rfl,rfl⟩|⟨rfl,j,rfl⟩
      ·skip
       go_wp2_with fail;refine E3.mono ?_;rintro e w4 hs4;obtain⟨b1,rfl,hs5⟩:=id hs4;have Cz:=ae hs4;clear hs4 hs5;go_wp2_with fail;refine HQ _ _ _ ?_;exact aS (v:= .bool b1) (by simp[results,results61,go_sem]) rfl (dM (λpar=>by rw[HE.out];simp[H1.out,H2.out,H3.out]) bC.out Cz.out)
      ·skip
       have H6:=HM;go_wp2_with fail;refine E3.mono ?_;rintro e w4 hs4;obtain⟨b1,rfl,hs5⟩:=id hs4;have Cz:=ae hs4;clear hs4 hs5;go_wp2_with fail;refine HQ _ _ _ ?_;exact aS (v:= .bool b1) (by simp[results,results61,go_sem]) rfl (dM (λpar=>by rw[HE.out];simp[H1.out,H2.out,H3.out,<-H6.out]) bC.out Cz.out)
      ·skip
       have H6:=HM;go_wp2_with fail;refine HQ _ _ _ ?_;exact aS (v:= .bool false) (by simp[results,results61,go_sem]) rfl (eJ (w:=w) (λpar=>by rw[HE.out];simp[H1.out,H2.out,H3.out,<-H6.out]) bC.out)
     ·skip
      have H5:=ae (show decide ((0:Int)=0)=true from rfl);rcases Q4 with rfl|⟨rfl,rfl⟩|⟨rfl,j,rfl⟩
      ·skip
       go_wp2_with fail;refine E3.mono ?_;rintro e w4 hs4;obtain⟨b1,rfl,hs5⟩:=id hs4;have Cz:=ae hs4;clear hs4 hs5;go_wp2_with fail;refine HQ _ _ _ ?_;exact aS (v:= .bool b1) (by simp[results,results61,go_sem]) rfl (dM (λpar=>by rw[HE.out];simp[H1.out,H2.out,H3.out,H5.out]) bC.out Cz.out)
      ·skip
       have H6:=HM;go_wp2_with fail;refine E3.mono ?_;rintro e w4 hs4;obtain⟨b1,rfl,hs5⟩:=id hs4;have Cz:=ae hs4;clear hs4 hs5;go_wp2_with fail;refine HQ _ _ _ ?_;exact aS (v:= .bool b1) (by simp[results,results61,go_sem]) rfl (dM (λpar=>by rw[HE.out];simp[H1.out,H2.out,H3.out,H5.out,<-H6.out]) bC.out Cz.out)
      ·skip
       have H6:=HM;go_wp2_with fail;refine HQ _ _ _ ?_;exact aS (v:= .bool false) (by simp[results,results61,go_sem]) rfl (eJ (w:=w) (λpar=>by rw[HE.out];simp[H1.out,H2.out,H3.out,H5.out,<-H6.out]) bC.out)
     ·skip
      have H5:=ae (show decide (n=0)=false from N8.trans hn0);have rT:(n !=0)=true:=by simpa using hn0
      clear Q4;go_wp2_with fail;refine HQ _ _ _ ?_;exact aS (v:= .bool false) (by simp[results,results61,go_sem]) rfl (eJ (w:=w) (λpar=>by rw[HE.out];simp[H1.out,H2.out,H3.out,H5.out]) bC.out)
    ·have H3:=ae hfree;clear hfree;rcases hcn with rfl|⟨rfl,rfl⟩|⟨rfl,hn0⟩
     ·skip
      rcases Q4 with rfl|⟨rfl,rfl⟩|⟨rfl,j,rfl⟩
      ·skip
       go_wp2_with fail;refine E3.mono ?_;rintro e w4 hs4;obtain⟨b1,rfl,hs5⟩:=id hs4;have Cz:=ae hs4;clear hs4 hs5;go_wp2_with fail;refine HQ _ _ _ ?_;exact aS (v:= .bool b1) (by simp[results,results61,go_sem]) rfl (dM (λpar=>by rw[HE.out];simp[H1.out,H2.out,H3.out]) bC.out Cz.out)
      ·skip
       have H6:=HM;go_wp2_with fail;refine E3.mono ?_;rintro e w4 hs4;obtain⟨b1,rfl,hs5⟩:=id hs4;have Cz:=ae hs4;clear hs4 hs5;go_wp2_with fail;refine HQ _ _ _ ?_;exact aS (v:= .bool b1) (by simp[results,results61,go_sem]) rfl (dM (λpar=>by rw[HE.out];simp[H1.out,H2.out,H3.out,<-H6.out]) bC.out Cz.out)
      ·skip
       have H6:=HM;go_wp2_with fail;refine HQ _ _ _ ?_;exact aS (v:= .bool false) (by simp[results,results61,go_sem]) rfl (eJ (w:=w) (λpar=>by rw[HE.out];simp[H1.out,H2.out,H3.out,<-H6.out]) bC.out)
     ·skip
      have H5:=ae (show decide ((0:Int)=0)=true from rfl);rcases Q4 with rfl|⟨rfl,rfl⟩|⟨rfl,j,rfl⟩
      ·skip
       go_wp2_with fail;refine E3.mono ?_;rintro e w4 hs4;obtain⟨b1,rfl,hs5⟩:=id hs4;have Cz:=ae hs4;clear hs4 hs5;go_wp2_with fail;refine HQ _ _ _ ?_;exact aS (v:= .bool b1) (by simp[results,results61,go_sem]) rfl (dM (λpar=>by rw[HE.out];simp[H1.out,H2.out,H3.out,H5.out]) bC.out Cz.out)
      ·skip
       have H6:=HM;go_wp2_with fail;refine E3.mono ?_;rintro e w4 hs4;obtain⟨b1,rfl,hs5⟩:=id hs4;have Cz:=ae hs4;clear hs4 hs5;go_wp2_with fail;refine HQ _ _ _ ?_;exact aS (v:= .bool b1) (by simp[results,results61,go_sem]) rfl (dM (λpar=>by rw[HE.out];simp[H1.out,H2.out,H3.out,H5.out,<-H6.out]) bC.out Cz.out)
      ·skip
       have H6:=HM;go_wp2_with fail;refine HQ _ _ _ ?_;exact aS (v:= .bool false) (by simp[results,results61,go_sem]) rfl (eJ (w:=w) (λpar=>by rw[HE.out];simp[H1.out,H2.out,H3.out,H5.out,<-H6.out]) bC.out)
     ·skip
      have H5:=ae (show decide (n=0)=false from N8.trans hn0);have rT:(n !=0)=true:=by simpa using hn0
      clear Q4;go_wp2_with fail;refine HQ _ _ _ ?_;exact aS (v:= .bool false) (by simp[results,results61,go_sem]) rfl (eJ (w:=w) (λpar=>by rw[HE.out];simp[H1.out,H2.out,H3.out,H5.out]) bC.out)
    ·have H3:=ae hfree;clear hfree;rw[h3]at K6;have H4:=ae h3;clear h3;rcases hcn with rfl|⟨rfl,rfl⟩|⟨rfl,hn0⟩
     ·skip
      rcases Q4 with rfl|⟨rfl,rfl⟩|⟨rfl,j,rfl⟩
      ·skip
       go_wp2_with fail;refine K6.mono ?_;rintro e w3 ⟨rfl,rfl⟩;go_wp2_with fail;refine E3.mono ?_;rintro e w4 hs4;obtain⟨b1,rfl,hs5⟩:=id hs4;have Cz:=ae hs4;clear hs4 hs5;go_wp2_with fail;refine HQ _ _ _ ?_;exact aS (v:= .bool b1) (by simp[results,results61,go_sem]) rfl (dM (λpar=>by rw[HE.out];simp[H1.out,H2.out,H3.out,H4.out]) bC.out Cz.out)
      ·skip
       have H6:=HM;go_wp2_with fail;refine K6.mono ?_;rintro e w3 ⟨rfl,rfl⟩;go_wp2_with fail;refine E3.mono ?_;rintro e w4 hs4;obtain⟨b1,rfl,hs5⟩:=id hs4;have Cz:=ae hs4;clear hs4 hs5;go_wp2_with fail;refine HQ _ _ _ ?_;exact aS (v:= .bool b1) (by simp[results,results61,go_sem]) rfl (dM (λpar=>by rw[HE.out];simp[H1.out,H2.out,H3.out,H4.out,<-H6.out]) bC.out Cz.out)
      ·skip
       have H6:=HM;go_wp2_with fail;refine K6.mono ?_;rintro e w3 ⟨rfl,rfl⟩;go_wp2_with fail;refine HQ _ _ _ ?_;exact aS (v:= .bool false) (by simp[results,results61,go_sem]) rfl (eJ (w:=w) (λpar=>by rw[HE.out];simp[H1.out,H2.out,H3.out,H4.out,<-H6.out]) bC.out)
     ·skip
      have H5:=ae (show decide ((0:Int)=0)=true from rfl);rcases Q4 with rfl|⟨rfl,rfl⟩|⟨rfl,j,rfl⟩
      ·skip
       go_wp2_with fail;refine K6.mono ?_;rintro e w3 ⟨rfl,rfl⟩;go_wp2_with fail;refine E3.mono ?_;rintro e w4 hs4;obtain⟨b1,rfl,hs5⟩:=id hs4;have Cz:=ae hs4;clear hs4 hs5;go_wp2_with fail;refine HQ _ _ _ ?_;exact aS (v:= .bool b1) (by simp[results,results61,go_sem]) rfl (dM (λpar=>by rw[HE.out];simp[H1.out,H2.out,H3.out,H4.out,H5.out]) bC.out Cz.out)
      ·skip
       have H6:=HM;go_wp2_with fail;refine K6.mono ?_;rintro e w3 ⟨rfl,rfl⟩;go_wp2_with fail;refine E3.mono ?_;rintro e w4 hs4;obtain⟨b1,rfl,hs5⟩:=id hs4;have Cz:=ae hs4;clear hs4 hs5;go_wp2_with fail;refine HQ _ _ _ ?_;exact aS (v:= .bool b1) (by simp[results,results61,go_sem]) rfl (dM (λpar=>by rw[HE.out];simp[H1.out,H2.out,H3.out,H4.out,H5.out,<-H6.out]) bC.out Cz.out)
      ·skip
       have H6:=HM;go_wp2_with fail;refine K6.mono ?_;rintro e w3 ⟨rfl,rfl⟩;go_wp2_with fail;refine HQ _ _ _ ?_;exact aS (v:= .bool false) (by simp[results,results61,go_sem]) rfl (eJ (w:=w) (λpar=>by rw[HE.out];simp[H1.out,H2.out,H3.out,H4.out,H5.out,<-H6.out]) bC.out)
     ·skip
      have H5:=ae (show decide (n=0)=false from N8.trans hn0);have rT:(n !=0)=true:=by simpa using hn0
      clear Q4;go_wp2_with fail;refine K6.mono ?_;rintro e w3 ⟨rfl,rfl⟩;go_wp2_with fail;refine HQ _ _ _ ?_;exact aS (v:= .bool false) (by simp[results,results61,go_sem]) rfl (eJ (w:=w) (λpar=>by rw[HE.out];simp[H1.out,H2.out,H3.out,H4.out,H5.out]) bC.out)
    ·have H3:=ae hfree;clear hfree;rw[h3]at K6;have H4:=ae h3;clear h3;clear hcn Q4;go_wp2_with fail;refine K6.mono ?_;rintro e w3 ⟨rfl,rfl⟩;go_wp2_with fail;refine HQ _ _ _ ?_;exact aS (v:= .bool false) (by simp[results,results61,go_sem]) rfl (eJ (w:=w) (λpar=>by rw[HE.out];simp[H1.out,H2.out,H3.out,H4.out]) bC.out)
end Go.Proofs.YtinmgbodgecoeaaGreat
