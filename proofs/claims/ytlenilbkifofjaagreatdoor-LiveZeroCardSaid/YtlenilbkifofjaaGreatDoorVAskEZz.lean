/- virt's checks: an instruction. Conditions: as stated. -/
import Derived.Test.YtlenilbkifofjaaGreatDoorVAskDZz
set_option linter.unusedVariables false
set_option linter.unusedSimpArgs false
set_option maxHeartbeats 8000000
set_option maxRecDepth 100000
namespace Go.Proofs.YtlenilbkifofjaaGreatDoor
open Go.RowKit
def yesPar:Int→Int→Bool:=fun _ _=>true
def InsSaysV(PQ:Bool→World→Prop)(c:CodeS)(ng nf:Int)(x:InsS)(w:World)(e:Ending)(w':World):Prop:=
 ∃b,e= .returned (.bool b)∧(x.op=10∧insB c ng nf yesPar x=true∧PQ b w'∨¬(x.op=10∧insB c ng nf yesPar x=true)∧b=insB c ng nf noPar x∧Below w.heap.size w w')
theorem insB_eq(c:CodeS)(ng nf:Int)(par:Int→Int→Bool)(x:InsS):insB c ng nf par x=((namedI x).isSome && (regI x.dst (fieldsI x).1 (-1) c.regs && (regI x.a (fieldsI x).2.1 0 c.regs && ((freeI x||regI x.b (fieldsI x).2.2.1 0 c.regs)&& (((fieldsI x).2.2.2.1||decide (x.n=0))&& (((fieldsI x).2.2.2.2||decide (x.arg.length=0))&& numberI c ng nf par x)))))):=by
 unfold insB fieldsI;rcases h:namedI x with _|⟨t,a,b,n,r⟩<;>rfl
theorem insSays_no{PQ:Bool→World→Prop}{c:CodeS}{ng nf:Int}{x:InsS}{w w':World}(h:∀par,insB c ng nf par x=false)(hw:Below w.heap.size w w'):InsSaysV PQ c ng nf x w (.returned (.bool false)) w':=
 ⟨false,rfl,Or.inr ⟨fun hh=>(by rw[h yesPar]at hh;cases hh.2),(h noPar).symm,hw⟩⟩
theorem number_yes{c:CodeS}{ng nf:Int}{x:InsS}(h:x.op=10):numberI c ng nf yesPar x=callB c nf x:=by
 obtain⟨op,dst,a,b,n,arg⟩:=x;simp only at h;subst h;simp[numberI,callB,yesPar]
theorem insSays_num{PQ:Bool→World→Prop}{c:CodeS}{ng nf:Int}{x:InsS}{w w1 w':World}{e:Ending}(h:∀par,insB c ng nf par x=numberI c ng nf par x)(hw:Below w.heap.size w w1)(hs:NumSaysV PQ c ng nf x w1 e w'):InsSaysV PQ c ng nf x w e w':=by
 obtain⟨b,rfl,⟨h1,h2,h3⟩|⟨h1,h2,h3⟩⟩:=hs
 ·exact⟨b,rfl,Or.inl ⟨h1,by rw[h,number_yes h1,h2],h3⟩⟩
 ·exact⟨b,rfl,Or.inr ⟨fun hh=>h1 ⟨hh.1,by rw[←number_yes (ng:=ng) hh.1,←h];exact hh.2⟩,by rw[h,h2],hw.trans (h3.mono hw.size)⟩⟩
theorem vins_any(PQ:Bool→World→Prop)(ab:Nat)(c:CodeS)(LA:Option Addr)(lc:Nat)(BA:Option Addr)(bc:Nat)(nf ng:Int)(cv:Value)(mb mln:Nat)(x:InsS)(A:Option Addr)(cap B:Nat)(w:World)
  (h:VAsk w ab c LA lc BA bc nf ng (.func (.func 30) #[] #[cv]) (.map (some mb)))(hL:LabM w mb mln (labO c.ins))(hn:In64 x.n)(hB:B≤w.heap.size)(hx:LongsAt w B x.arg (.slice A x.arg.length cap))
  (hpar:(0≤x.n∧x.n<nf)→∀W,Below w.heap.size w W→Calls Tryz.prog 30 #[.int .i64 x.n,.int .i64 x.arg.length,cv] W fun e w'=>∃b,e= .returned (.bool b)∧PQ b w'):
  Calls Tryz.prog 47 #[.pointer (some ⟨ab,0,.none⟩),insV x A cap] w fun e w'=>InsSaysV PQ c ng nf x w e w':=by
 have HE:=Lib.hid (fun p=>insB_eq c ng nf p x);have HNU:=Lib.hid (fun(W:World)(hb:Below w.heap.size w W)=>vnumber_any PQ ab c LA lc BA bc nf ng cv mb mln x A cap B W (Row.below h hb (Row.lt h)) (hL.below hb) hn (by have:=hb.size;omega) (hx.below (hb.mono hB) (Nat.le_refl _)) (fun h W' hW'=>hpar h W' (hb.trans (hW'.mono hb.size))));have hbx:=below1 w (.cells #[.int .i64 x.op,.int .i64 x.dst,.int .i64 x.a,.int .i64 x.b,.int .i64 x.n,.slice A x.arg.length cap] 43);have HNA:=Lib.hid (vnamed_any x A cap (w.alloc (.cells #[.int .i64 x.op,.int .i64 x.dst,.int .i64 x.a,.int .i64 x.b,.int .i64 x.n,.slice A x.arg.length cap] 43)));have HBX:=Lib.hid hbx;have HAS:=Lib.hid h;have HROW:=Lib.hid (Row.new w #[.int .i64 x.op,.int .i64 x.dst,.int .i64 x.a,.int .i64 x.b,.int .i64 x.n,.slice A x.arg.length cap] 43);clear h hL hx hpar hbx;unfold insV at HNA HNU ⊢
 unfold NamedSays at HNA;obtain⟨f,hf⟩:∃f,f=fieldsI x:=⟨_,rfl⟩
 rw[←hf]at HNA HE;clear hf;obtain⟨ft,fa,fb,fn,fr⟩:=f;simp only at HNA HE;obtain⟨hok,hokk⟩:∃b,b=(namedI x).isSome:=⟨_,rfl⟩
 rw[←hokk]at HNA HE;clear hokk;have HFR:=Lib.hid (show freeI x=decide (x.op=8∨x.op=9)from rfl);have HC:=Lib.hid (show x.op=8∨x.op=9∨(x.op≠8∧x.op≠9) by omega);obtain⟨op,dst,a,b,n,arg⟩:=x;simp only at HNA HE HNU HFR HBX HROW HC ⊢;obtain⟨m,hm⟩:∃m,m=arg.length:=⟨_,rfl⟩
 simp only[←hm]at HNA HE HNU HBX HROW ⊢;have HM:=Lib.hid hm;clear hm;go_enter Tryz.func47,Tryz.ntmps47;refine wp_letter (fun Q hQ=>?_);have HQ:=Lib.hid hQ;clear hQ;go_wp2_with fail;refine HNA.out.mono ?_;rintro e w1 ⟨rfl,hb1⟩;have HB1:=Lib.hid (HBX.out.trans (hb1.mono HBX.out.size));have hr1:=HROW.out.below hb1 HROW.out.lt;have HR1:=Lib.hid hr1;have u0:=hr1.cell (j:=0) rfl;have u1:=hr1.cell (j:=1) rfl;have u2:=hr1.cell (j:=2) rfl;have u3:=hr1.cell (j:=3) rfl;have u4:=hr1.cell (j:=4) rfl;have u5:=hr1.cell (j:=5) rfl;have ul:=hr1.lt;clear hb1 HNA HROW HBX hr1;cases hok with
 |false=>
  go_wp2_with fail;refine HQ.out _ _ _ ?_;exact bodyPost_ret (v:= .bool false) (by simp[results,Tryz.results47,go_sem]) rfl (insSays_no (w:=w) (fun par=>by rw[HE.out];simp[]) (HB1.out.trans ((below1 _ _).mono HB1.out.size)))
 |true=>
  cases h1:regI dst ft (-1) c.regs with
  |false=>
   have H1:=Lib.hid h1;clear h1;go_wp2_with fail;obtain⟨w2,hw2⟩:∃w2,w2=w1.alloc (.cells #[.bool ft,.bool fa,.bool fb,.bool fn,.bool fr] 126):=⟨_,rfl⟩
   rw[←hw2];have hf2:Row w2 w1.heap.size #[.bool ft,.bool fa,.bool fb,.bool fn,.bool fr] 126:=hw2▸Row.new _ _ _;have hr2:Row w2 w.heap.size #[.int .i64 op,.int .i64 dst,.int .i64 a,.int .i64 b,.int .i64 n,.slice A m cap] 43:=hw2▸HR1.out.alloc _;have hbb:Below w.heap.size w w2:=hw2▸HB1.out.trans ((below1 _ _).mono HB1.out.size);have HB2:=Lib.hid hbb;have HNW:=Lib.hid (HNU.out w2 hbb);have HA2:=Lib.hid (Row.below HAS.out hbb (Row.lt HAS.out));have y0:=hf2.cell (j:=0) rfl;have y1:=hf2.cell (j:=1) rfl;have y2:=hf2.cell (j:=2) rfl;have y3:=hf2.cell (j:=3) rfl;have y4:=hf2.cell (j:=4) rfl;have z0:=hr2.cell (j:=0) rfl;have z1:=hr2.cell (j:=1) rfl;have z2:=hr2.cell (j:=2) rfl;have z3:=hr2.cell (j:=3) rfl;have z4:=hr2.cell (j:=4) rfl;have z5:=hr2.cell (j:=5) rfl;have yl:=hf2.lt;have zl:=hr2.lt
   have HW2:=Lib.hid (And.intro hf2 hr2);clear hw2 hf2 hr2 hbb HNU u0 u1 u2 u3 u4 u5;have HG:=Lib.hid (vregister_any ab c LA lc BA bc nf ng _ _ dst ft (-1) w2 HA2.out);rw[H1.out]at HG;refine HG.out.mono ?_;rintro e w3 ⟨rfl,rfl⟩;go_wp2_with fail;refine HQ.out _ _ _ ?_;exact bodyPost_ret (v:= .bool false) (by simp[results,Tryz.results47,go_sem]) rfl (insSays_no (w:=w) (fun par=>by rw[HE.out];simp[H1.out]) HB2.out)
  |true=>
   have H1:=Lib.hid h1;clear h1;cases h2:regI a fa 0 c.regs with
   |false=>
    have H2:=Lib.hid h2;clear h2;go_wp2_with fail;obtain⟨w2,hw2⟩:∃w2,w2=w1.alloc (.cells #[.bool ft,.bool fa,.bool fb,.bool fn,.bool fr] 126):=⟨_,rfl⟩
    rw[←hw2];have hf2:Row w2 w1.heap.size #[.bool ft,.bool fa,.bool fb,.bool fn,.bool fr] 126:=hw2▸Row.new _ _ _;have hr2:Row w2 w.heap.size #[.int .i64 op,.int .i64 dst,.int .i64 a,.int .i64 b,.int .i64 n,.slice A m cap] 43:=hw2▸HR1.out.alloc _;have hbb:Below w.heap.size w w2:=hw2▸HB1.out.trans ((below1 _ _).mono HB1.out.size);have HB2:=Lib.hid hbb;have HNW:=Lib.hid (HNU.out w2 hbb);have HA2:=Lib.hid (Row.below HAS.out hbb (Row.lt HAS.out));have y0:=hf2.cell (j:=0) rfl;have y1:=hf2.cell (j:=1) rfl;have y2:=hf2.cell (j:=2) rfl;have y3:=hf2.cell (j:=3) rfl;have y4:=hf2.cell (j:=4) rfl;have z0:=hr2.cell (j:=0) rfl;have z1:=hr2.cell (j:=1) rfl;have z2:=hr2.cell (j:=2) rfl;have z3:=hr2.cell (j:=3) rfl;have z4:=hr2.cell (j:=4) rfl;have z5:=hr2.cell (j:=5) rfl;have yl:=hf2.lt;have zl:=hr2.lt
    have HW2:=Lib.hid (And.intro hf2 hr2);clear hw2 hf2 hr2 hbb HNU u0 u1 u2 u3 u4 u5;have HG:=Lib.hid (vregister_any ab c LA lc BA bc nf ng _ _ dst ft (-1) w2 HA2.out);rw[H1.out]at HG;have HG2:=Lib.hid (vregister_any ab c LA lc BA bc nf ng _ _ a fa 0 w2 HA2.out);rw[H2.out]at HG2;refine HG.out.mono ?_;rintro e w3 ⟨rfl,rfl⟩;go_wp2_with fail;refine HG2.out.mono ?_;rintro e w3 ⟨rfl,rfl⟩;go_wp2_with fail;refine HQ.out _ _ _ ?_;exact bodyPost_ret (v:= .bool false) (by simp[results,Tryz.results47,go_sem]) rfl (insSays_no (w:=w) (fun par=>by rw[HE.out];simp[H1.out,H2.out]) HB2.out)
   |true=>
    have H2:=Lib.hid h2;clear h2;go_wp2_with fail;obtain⟨w2,hw2⟩:∃w2,w2=w1.alloc (.cells #[.bool ft,.bool fa,.bool fb,.bool fn,.bool fr] 126):=⟨_,rfl⟩
    rw[←hw2];have hf2:Row w2 w1.heap.size #[.bool ft,.bool fa,.bool fb,.bool fn,.bool fr] 126:=hw2▸Row.new _ _ _;have hr2:Row w2 w.heap.size #[.int .i64 op,.int .i64 dst,.int .i64 a,.int .i64 b,.int .i64 n,.slice A m cap] 43:=hw2▸HR1.out.alloc _;have hbb:Below w.heap.size w w2:=hw2▸HB1.out.trans ((below1 _ _).mono HB1.out.size);have HB2:=Lib.hid hbb;have HNW:=Lib.hid (HNU.out w2 hbb);have HA2:=Lib.hid (Row.below HAS.out hbb (Row.lt HAS.out));have y0:=hf2.cell (j:=0) rfl;have y1:=hf2.cell (j:=1) rfl;have y2:=hf2.cell (j:=2) rfl;have y3:=hf2.cell (j:=3) rfl;have y4:=hf2.cell (j:=4) rfl;have z0:=hr2.cell (j:=0) rfl;have z1:=hr2.cell (j:=1) rfl;have z2:=hr2.cell (j:=2) rfl;have z3:=hr2.cell (j:=3) rfl;have z4:=hr2.cell (j:=4) rfl;have z5:=hr2.cell (j:=5) rfl;have yl:=hf2.lt;have zl:=hr2.lt
    have HW2:=Lib.hid (And.intro hf2 hr2);clear hw2 hf2 hr2 hbb HNU u0 u1 u2 u3 u4 u5;have HG:=Lib.hid (vregister_any ab c LA lc BA bc nf ng _ _ dst ft (-1) w2 HA2.out);rw[H1.out]at HG;have HG2:=Lib.hid (vregister_any ab c LA lc BA bc nf ng _ _ a fa 0 w2 HA2.out);rw[H2.out]at HG2;refine HG.out.mono ?_;rintro e w3 ⟨rfl,rfl⟩;go_wp2_with fail;refine HG2.out.mono ?_;rintro e w3 ⟨rfl,rfl⟩;have HN0:=Lib.hid (show decide (n=0)=(n==0)from by by_cases h:n=0<;>simp[h]);have hcn:fn=true∨(fn=false∧n=0)∨(fn=false∧(n==0)=false):=by cases fn<;>by_cases h:n=0<;>simp[h]
    have hca:fr=true∨(fr=false∧m=0)∨(fr=false∧∃j,m=j+1):=by cases fr<;>cases m<;>simp
    have hcb:(freeI ⟨op,dst,a,b,n,arg⟩=true∧op=8)∨(freeI ⟨op,dst,a,b,n,arg⟩=true∧op=9)∨(freeI ⟨op,dst,a,b,n,arg⟩=false∧(op==8)=false∧(op==9)=false∧regI b fb 0 c.regs=true)∨(freeI ⟨op,dst,a,b,n,arg⟩=false∧(op==8)=false∧(op==9)=false∧regI b fb 0 c.regs=false):=by
     rw[HFR.out];rcases HC.out with h|h|⟨h,h'⟩
     ·left;simp[h]
     ·right;left;simp[h]
     ·right;right;cases regI b fb 0 c.regs<;>simp[h,h']
    have HG3:=Lib.hid (vregister_any ab c LA lc BA bc nf ng _ _ b fb 0 w2 HA2.out);rcases hcb with⟨hfree,rfl⟩|⟨hfree,rfl⟩|⟨hfree,e8,e9,h3⟩|⟨hfree,e8,e9,h3⟩
    ·have H3:=Lib.hid hfree;clear hfree;rcases hcn with rfl|⟨rfl,rfl⟩|⟨rfl,hn0⟩
     ·skip
      rcases hca with rfl|⟨rfl,rfl⟩|⟨rfl,j,rfl⟩
      ·skip
       go_wp2_with fail;refine HNW.out.mono ?_;rintro e w4 hs4;obtain⟨b1,rfl,hs5⟩:=id hs4;have HS4:=Lib.hid hs4;clear hs4 hs5;go_wp2_with fail;refine HQ.out _ _ _ ?_;exact bodyPost_ret (v:= .bool b1) (by simp[results,Tryz.results47,go_sem]) rfl (insSays_num (fun par=>by rw[HE.out];simp[H1.out,H2.out,H3.out]) HB2.out HS4.out)
      ·skip
       have H6:=HM;go_wp2_with fail;refine HNW.out.mono ?_;rintro e w4 hs4;obtain⟨b1,rfl,hs5⟩:=id hs4;have HS4:=Lib.hid hs4;clear hs4 hs5;go_wp2_with fail;refine HQ.out _ _ _ ?_;exact bodyPost_ret (v:= .bool b1) (by simp[results,Tryz.results47,go_sem]) rfl (insSays_num (fun par=>by rw[HE.out];simp[H1.out,H2.out,H3.out,←H6.out]) HB2.out HS4.out)
      ·skip
       have H6:=HM;go_wp2_with fail;refine HQ.out _ _ _ ?_;exact bodyPost_ret (v:= .bool false) (by simp[results,Tryz.results47,go_sem]) rfl (insSays_no (w:=w) (fun par=>by rw[HE.out];simp[H1.out,H2.out,H3.out,←H6.out]) HB2.out)
     ·skip
      have H5:=Lib.hid (show decide ((0:Int)=0)=true from rfl);rcases hca with rfl|⟨rfl,rfl⟩|⟨rfl,j,rfl⟩
      ·skip
       go_wp2_with fail;refine HNW.out.mono ?_;rintro e w4 hs4;obtain⟨b1,rfl,hs5⟩:=id hs4;have HS4:=Lib.hid hs4;clear hs4 hs5;go_wp2_with fail;refine HQ.out _ _ _ ?_;exact bodyPost_ret (v:= .bool b1) (by simp[results,Tryz.results47,go_sem]) rfl (insSays_num (fun par=>by rw[HE.out];simp[H1.out,H2.out,H3.out,H5.out]) HB2.out HS4.out)
      ·skip
       have H6:=HM;go_wp2_with fail;refine HNW.out.mono ?_;rintro e w4 hs4;obtain⟨b1,rfl,hs5⟩:=id hs4;have HS4:=Lib.hid hs4;clear hs4 hs5;go_wp2_with fail;refine HQ.out _ _ _ ?_;exact bodyPost_ret (v:= .bool b1) (by simp[results,Tryz.results47,go_sem]) rfl (insSays_num (fun par=>by rw[HE.out];simp[H1.out,H2.out,H3.out,H5.out,←H6.out]) HB2.out HS4.out)
      ·skip
       have H6:=HM;go_wp2_with fail;refine HQ.out _ _ _ ?_;exact bodyPost_ret (v:= .bool false) (by simp[results,Tryz.results47,go_sem]) rfl (insSays_no (w:=w) (fun par=>by rw[HE.out];simp[H1.out,H2.out,H3.out,H5.out,←H6.out]) HB2.out)
     ·skip
      have H5:=Lib.hid (show decide (n=0)=false from HN0.out.trans hn0);have hn1:(n !=0)=true:=by simpa using hn0
      clear hca;go_wp2_with fail;refine HQ.out _ _ _ ?_;exact bodyPost_ret (v:= .bool false) (by simp[results,Tryz.results47,go_sem]) rfl (insSays_no (w:=w) (fun par=>by rw[HE.out];simp[H1.out,H2.out,H3.out,H5.out]) HB2.out)
    ·have H3:=Lib.hid hfree;clear hfree;rcases hcn with rfl|⟨rfl,rfl⟩|⟨rfl,hn0⟩
     ·skip
      rcases hca with rfl|⟨rfl,rfl⟩|⟨rfl,j,rfl⟩
      ·skip
       go_wp2_with fail;refine HNW.out.mono ?_;rintro e w4 hs4;obtain⟨b1,rfl,hs5⟩:=id hs4;have HS4:=Lib.hid hs4;clear hs4 hs5;go_wp2_with fail;refine HQ.out _ _ _ ?_;exact bodyPost_ret (v:= .bool b1) (by simp[results,Tryz.results47,go_sem]) rfl (insSays_num (fun par=>by rw[HE.out];simp[H1.out,H2.out,H3.out]) HB2.out HS4.out)
      ·skip
       have H6:=HM;go_wp2_with fail;refine HNW.out.mono ?_;rintro e w4 hs4;obtain⟨b1,rfl,hs5⟩:=id hs4;have HS4:=Lib.hid hs4;clear hs4 hs5;go_wp2_with fail;refine HQ.out _ _ _ ?_;exact bodyPost_ret (v:= .bool b1) (by simp[results,Tryz.results47,go_sem]) rfl (insSays_num (fun par=>by rw[HE.out];simp[H1.out,H2.out,H3.out,←H6.out]) HB2.out HS4.out)
      ·skip
       have H6:=HM;go_wp2_with fail;refine HQ.out _ _ _ ?_;exact bodyPost_ret (v:= .bool false) (by simp[results,Tryz.results47,go_sem]) rfl (insSays_no (w:=w) (fun par=>by rw[HE.out];simp[H1.out,H2.out,H3.out,←H6.out]) HB2.out)
     ·skip
      have H5:=Lib.hid (show decide ((0:Int)=0)=true from rfl);rcases hca with rfl|⟨rfl,rfl⟩|⟨rfl,j,rfl⟩
      ·skip
       go_wp2_with fail;refine HNW.out.mono ?_;rintro e w4 hs4;obtain⟨b1,rfl,hs5⟩:=id hs4;have HS4:=Lib.hid hs4;clear hs4 hs5;go_wp2_with fail;refine HQ.out _ _ _ ?_;exact bodyPost_ret (v:= .bool b1) (by simp[results,Tryz.results47,go_sem]) rfl (insSays_num (fun par=>by rw[HE.out];simp[H1.out,H2.out,H3.out,H5.out]) HB2.out HS4.out)
      ·skip
       have H6:=HM;go_wp2_with fail;refine HNW.out.mono ?_;rintro e w4 hs4;obtain⟨b1,rfl,hs5⟩:=id hs4;have HS4:=Lib.hid hs4;clear hs4 hs5;go_wp2_with fail;refine HQ.out _ _ _ ?_;exact bodyPost_ret (v:= .bool b1) (by simp[results,Tryz.results47,go_sem]) rfl (insSays_num (fun par=>by rw[HE.out];simp[H1.out,H2.out,H3.out,H5.out,←H6.out]) HB2.out HS4.out)
      ·skip
       have H6:=HM;go_wp2_with fail;refine HQ.out _ _ _ ?_;exact bodyPost_ret (v:= .bool false) (by simp[results,Tryz.results47,go_sem]) rfl (insSays_no (w:=w) (fun par=>by rw[HE.out];simp[H1.out,H2.out,H3.out,H5.out,←H6.out]) HB2.out)
     ·skip
      have H5:=Lib.hid (show decide (n=0)=false from HN0.out.trans hn0);have hn1:(n !=0)=true:=by simpa using hn0
      clear hca;go_wp2_with fail;refine HQ.out _ _ _ ?_;exact bodyPost_ret (v:= .bool false) (by simp[results,Tryz.results47,go_sem]) rfl (insSays_no (w:=w) (fun par=>by rw[HE.out];simp[H1.out,H2.out,H3.out,H5.out]) HB2.out)
    ·have H3:=Lib.hid hfree;clear hfree;rw[h3]at HG3;have H4:=Lib.hid h3;clear h3;rcases hcn with rfl|⟨rfl,rfl⟩|⟨rfl,hn0⟩
     ·skip
      rcases hca with rfl|⟨rfl,rfl⟩|⟨rfl,j,rfl⟩
      ·skip
       go_wp2_with fail;refine HG3.out.mono ?_;rintro e w3 ⟨rfl,rfl⟩;go_wp2_with fail;refine HNW.out.mono ?_;rintro e w4 hs4;obtain⟨b1,rfl,hs5⟩:=id hs4;have HS4:=Lib.hid hs4;clear hs4 hs5;go_wp2_with fail;refine HQ.out _ _ _ ?_;exact bodyPost_ret (v:= .bool b1) (by simp[results,Tryz.results47,go_sem]) rfl (insSays_num (fun par=>by rw[HE.out];simp[H1.out,H2.out,H3.out,H4.out]) HB2.out HS4.out)
      ·skip
       have H6:=HM;go_wp2_with fail;refine HG3.out.mono ?_;rintro e w3 ⟨rfl,rfl⟩;go_wp2_with fail;refine HNW.out.mono ?_;rintro e w4 hs4;obtain⟨b1,rfl,hs5⟩:=id hs4;have HS4:=Lib.hid hs4;clear hs4 hs5;go_wp2_with fail;refine HQ.out _ _ _ ?_;exact bodyPost_ret (v:= .bool b1) (by simp[results,Tryz.results47,go_sem]) rfl (insSays_num (fun par=>by rw[HE.out];simp[H1.out,H2.out,H3.out,H4.out,←H6.out]) HB2.out HS4.out)
      ·skip
       have H6:=HM;go_wp2_with fail;refine HG3.out.mono ?_;rintro e w3 ⟨rfl,rfl⟩;go_wp2_with fail;refine HQ.out _ _ _ ?_;exact bodyPost_ret (v:= .bool false) (by simp[results,Tryz.results47,go_sem]) rfl (insSays_no (w:=w) (fun par=>by rw[HE.out];simp[H1.out,H2.out,H3.out,H4.out,←H6.out]) HB2.out)
     ·skip
      have H5:=Lib.hid (show decide ((0:Int)=0)=true from rfl);rcases hca with rfl|⟨rfl,rfl⟩|⟨rfl,j,rfl⟩
      ·skip
       go_wp2_with fail;refine HG3.out.mono ?_;rintro e w3 ⟨rfl,rfl⟩;go_wp2_with fail;refine HNW.out.mono ?_;rintro e w4 hs4;obtain⟨b1,rfl,hs5⟩:=id hs4;have HS4:=Lib.hid hs4;clear hs4 hs5;go_wp2_with fail;refine HQ.out _ _ _ ?_;exact bodyPost_ret (v:= .bool b1) (by simp[results,Tryz.results47,go_sem]) rfl (insSays_num (fun par=>by rw[HE.out];simp[H1.out,H2.out,H3.out,H4.out,H5.out]) HB2.out HS4.out)
      ·skip
       have H6:=HM;go_wp2_with fail;refine HG3.out.mono ?_;rintro e w3 ⟨rfl,rfl⟩;go_wp2_with fail;refine HNW.out.mono ?_;rintro e w4 hs4;obtain⟨b1,rfl,hs5⟩:=id hs4;have HS4:=Lib.hid hs4;clear hs4 hs5;go_wp2_with fail;refine HQ.out _ _ _ ?_;exact bodyPost_ret (v:= .bool b1) (by simp[results,Tryz.results47,go_sem]) rfl (insSays_num (fun par=>by rw[HE.out];simp[H1.out,H2.out,H3.out,H4.out,H5.out,←H6.out]) HB2.out HS4.out)
      ·skip
       have H6:=HM;go_wp2_with fail;refine HG3.out.mono ?_;rintro e w3 ⟨rfl,rfl⟩;go_wp2_with fail;refine HQ.out _ _ _ ?_;exact bodyPost_ret (v:= .bool false) (by simp[results,Tryz.results47,go_sem]) rfl (insSays_no (w:=w) (fun par=>by rw[HE.out];simp[H1.out,H2.out,H3.out,H4.out,H5.out,←H6.out]) HB2.out)
     ·skip
      have H5:=Lib.hid (show decide (n=0)=false from HN0.out.trans hn0);have hn1:(n !=0)=true:=by simpa using hn0
      clear hca;go_wp2_with fail;refine HG3.out.mono ?_;rintro e w3 ⟨rfl,rfl⟩;go_wp2_with fail;refine HQ.out _ _ _ ?_;exact bodyPost_ret (v:= .bool false) (by simp[results,Tryz.results47,go_sem]) rfl (insSays_no (w:=w) (fun par=>by rw[HE.out];simp[H1.out,H2.out,H3.out,H4.out,H5.out]) HB2.out)
    ·have H3:=Lib.hid hfree;clear hfree;rw[h3]at HG3;have H4:=Lib.hid h3;clear h3;clear hcn hca;go_wp2_with fail;refine HG3.out.mono ?_;rintro e w3 ⟨rfl,rfl⟩;go_wp2_with fail;refine HQ.out _ _ _ ?_;exact bodyPost_ret (v:= .bool false) (by simp[results,Tryz.results47,go_sem]) rfl (insSays_no (w:=w) (fun par=>by rw[HE.out];simp[H1.out,H2.out,H3.out,H4.out]) HB2.out)
end Go.Proofs.YtlenilbkifofjaaGreatDoor
