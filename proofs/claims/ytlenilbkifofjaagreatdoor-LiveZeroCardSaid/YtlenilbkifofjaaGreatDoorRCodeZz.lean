/- The page's Code: may a function be? Conditions: as stated. -/
import Derived.Test.YtlenilbkifofjaaGreatDoorRFormDZz
import Derived.Test.YtlenilbkifofjaaGreatDoorQ07Zz
import Derived.Test.YtlenilbkifofjaaGreatDoorQ08Zz
import Derived.Deep.Cut
import Derived.Deep.CutRange
import Derived.Outline
set_option linter.unusedVariables false
set_option linter.unusedSimpArgs false
set_option maxHeartbeats 8000000
set_option maxRecDepth 100000
namespace Go.Proofs.YtlenilbkifofjaaGreatDoor
open Go.RowKit
def regsR(c:CodeS)(x:InsS):Bool:=(!(shapeR x).1||numB x.dst (c.regs-1))&& ((!(shapeR x).2.1||numB x.a (c.regs-1))&& (!(shapeR x).2.2.1||numB x.b (c.regs-1)))
def insR(c:CodeS)(ng:Int)(pl:List Int)(pre:List InsS)(x:InsS):Bool:=
 formR c.locs.length ng pl x && (regsR c x && ((!(shapeR x).2.2.2||regsB x.arg c.regs)&& (!(decide (x.op=14)&& labI pre x.n)&& (!decide (x.op=15∨x.op=16)||labI c.ins x.n))))
def allR(c:CodeS)(ng:Int)(pl:List Int):Nat→Bool
 |0=>true
 |k+1=>allR c ng pl k && insR c ng pl (c.ins.take k) (c.ins.getD k ⟨0,0,0,0,0,[]⟩)
def headR(c:CodeS):Prop:=numB c.params 4=true∧¬c.params>c.regs∧¬c.regs>8000∧objsB c.locs 400=true∧betwB c.ins.length 1 8000=true
instance(c:CodeS):Decidable (headR c):=by unfold headR;exact inferInstance
def codeR(c:CodeS)(ng:Int)(pl:List Int):Bool:=if headR c then(allR c ng pl c.ins.length && lastB c)else false
theorem allR_next{c:CodeS}{ng:Int}{pl:List Int}{k:Nat}{x:InsS}(h:c.ins[k]? =some x):allR c ng pl (k+1)=(allR c ng pl k && insR c ng pl (c.ins.take k) x):=by
 rw[allR,List.getD_eq_getElem?_getD,h,Option.getD_some]
theorem allR_no{c:CodeS}{ng:Int}{pl:List Int}{k:Nat}(h:allR c ng pl k=false):∀m,k≤m→allR c ng pl m=false:=by
 intro m hm
 induction m with
 |zero=>
  have hk0:k=0:=(by omega)
  subst hk0;exact h
 |succ m ih=>
  by_cases he:k=m+1
  ·rw[←he];exact h
  ·rw[allR,ih (by omega),Bool.false_and]
theorem allR_bad{c:CodeS}{ng:Int}{pl:List Int}{k:Nat}{x:InsS}(h:c.ins[k]? =some x)(hx:insR c ng pl (c.ins.take k) x=false):allR c ng pl c.ins.length=false:=
 allR_no (k:=k+1) (by rw[allR_next h,hx,Bool.and_false]) _ (List.getElem?_eq_some_iff.1 h).1
theorem lastR_eq{c:CodeS}{x:InsS}(h:c.ins[c.ins.length-1]? =some x):lastB c=decide (x.op=15∨x.op=17∨x.op=13):=by
 unfold lastB;rw[List.getD_eq_getElem?_getD,h];rfl
theorem rcode_any(c:CodeS)(LA:Option Addr)(lc:Nat)(BA:Option Addr)(bc:Nat)(ng:Int)(pl:List Int)(PA:Option Addr)(pc B:Nat)(w:World)(hB:B≤w.heap.size)(hL:SliceAt w B 3 (ObE w B) c.locs (.slice LA c.locs.length lc))(hK:SliceAt w B 6 (InsE w B) c.ins (.slice BA c.ins.length bc))(hp:LongsAt w B pl (.slice PA pl.length pc)):
  Calls Tryz.prog 17 #[.agg #[.int .i64 c.params,.int .i64 c.regs,.slice LA c.locs.length lc,.slice BA c.ins.length bc],.int .i64 ng,.slice PA pl.length pc] w fun e w'=>e= .returned (.bool (codeR c ng pl))∧Below w.heap.size w w':=by
 have HN0:=Lib.hid (num_any c.params 4 (w.alloc (.cells #[.int .i64 c.params,.int .i64 c.regs,.slice LA c.locs.length lc,.slice BA c.ins.length bc] 39)));have HO:=Lib.hid (fun W(hW:Below w.heap.size w W)=>objs_any c.locs LA c.locs.length lc 400 B W (by have:=hW.size;omega) (hL.below (hW.mono hB) (Nat.le_refl _) (fun _ _ h=>h.below (hW.mono hB) (Nat.le_refl _))));have HBT:=Lib.hid (fun W=>between_any (c.ins.length:Int) 1 8000 W);have HK:=Lib.hid hK;have HP:=Lib.hid hp;have hnbl:=hK.len.2;have HGB:=Lib.hid (Row.new w #[.int .i64 c.params,.int .i64 c.regs,.slice LA c.locs.length lc,.slice BA c.ins.length bc] 39);obtain⟨Z,hZ,hZ0,hmk⟩:=make_bools;have HZ:=Lib.hid (And.intro hZ hZ0);clear hL hK hp hZ hZ0;cases c1:numB c.params 4 with
 |false=>
  rw[c1]at HN0;have HE:=Lib.hid (show codeR c ng pl=false from by unfold codeR;rw[if_neg (fun h=>absurd h.1 (by rw[c1];decide))]);clear c1;go_enter Tryz.func17,Tryz.ntmps17;refine wp_letter (fun Q hQ=>?_);have HQ:=Lib.hid hQ;clear hQ;go_wp2_with fail;refine HN0.out.mono ?_;rintro e w' ⟨rfl,rfl⟩;go_wp2_with fail;refine HQ.out _ _ _ ?_;exact bodyPost_ret (v:= .bool false) (by simp[results,Tryz.results17,go_sem]) rfl ⟨by rw[HE.out],below1 _ _⟩
 |true=>
  rw[c1]at HN0;by_cases c2:c.params>c.regs
  ·have d2:decide (c.regs<c.params)=true:=by simpa using c2
   have HE:=Lib.hid (show codeR c ng pl=false from by unfold codeR;rw[if_neg (fun h=>absurd c2 h.2.1)]);clear c1 c2;go_enter Tryz.func17,Tryz.ntmps17;refine wp_letter (fun Q hQ=>?_);have HQ:=Lib.hid hQ;clear hQ;go_wp2_with fail;refine HN0.out.mono ?_;rintro e w' ⟨rfl,rfl⟩;go_wp2_with fail;refine HQ.out _ _ _ ?_;exact bodyPost_ret (v:= .bool false) (by simp[results,Tryz.results17,go_sem]) rfl ⟨by rw[HE.out],below1 _ _⟩
  ·have d2:decide (c.regs<c.params)=false:=by simpa using c2
   by_cases c3:c.regs>8000
   ·have d3:decide (8000<c.regs)=true:=by simpa using c3
    have HE:=Lib.hid (show codeR c ng pl=false from by unfold codeR;rw[if_neg (fun h=>absurd c3 h.2.2.1)]);clear c1 c2 c3;go_enter Tryz.func17,Tryz.ntmps17;refine wp_letter (fun Q hQ=>?_);have HQ:=Lib.hid hQ;clear hQ;go_wp2_with fail;refine HN0.out.mono ?_;rintro e w' ⟨rfl,rfl⟩;go_wp2_with fail;refine HQ.out _ _ _ ?_;exact bodyPost_ret (v:= .bool false) (by simp[results,Tryz.results17,go_sem]) rfl ⟨by rw[HE.out],below1 _ _⟩
   ·have d3:decide (8000<c.regs)=false:=by simpa using c3
    cases c4:objsB c.locs 400 with
    |false=>
     rw[c4]at HO;have HE:=Lib.hid (show codeR c ng pl=false from by unfold codeR;rw[if_neg (fun h=>absurd h.2.2.2.1 (by rw[c4];decide))]);clear c1 c2 c3 c4;go_enter Tryz.func17,Tryz.ntmps17;refine wp_letter (fun Q hQ=>?_);have HQ:=Lib.hid hQ;clear hQ;go_wp2_with fail;refine HN0.out.mono ?_;rintro e w' ⟨rfl,rfl⟩;go_wp2_with fail;refine(HO.out _ (below1 w _)).mono ?_;rintro e w1 ⟨rfl,hb1⟩;have HB1:=Lib.hid ((below1 w (.cells #[.int .i64 c.params,.int .i64 c.regs,.slice LA c.locs.length lc,.slice BA c.ins.length bc] 39)).trans (hb1.mono (below1 w (.cells #[.int .i64 c.params,.int .i64 c.regs,.slice LA c.locs.length lc,.slice BA c.ins.length bc] 39)).size));have hg1:=HGB.out.below hb1 HGB.out.lt;have HG1:=Lib.hid hg1;have g0:=hg1.cell (j:=0) rfl;have g1:=hg1.cell (j:=1) rfl;have g2:=hg1.cell (j:=2) rfl;have g3:=hg1.cell (j:=3) rfl;have gl:=hg1.lt
     clear hb1 hg1;go_wp2_with fail;refine HQ.out _ _ _ ?_;exact bodyPost_ret (v:= .bool false) (by simp[results,Tryz.results17,go_sem]) rfl ⟨by rw[HE.out],HB1.out⟩
    |true=>
     rw[c4]at HO;cases c5:betwB c.ins.length 1 8000 with
     |false=>
      rw[c5]at HBT;have HE:=Lib.hid (show codeR c ng pl=false from by unfold codeR;rw[if_neg (fun h=>absurd h.2.2.2.2 (by rw[c5];decide))]);clear c1 c2 c3 c4 c5;go_enter Tryz.func17,Tryz.ntmps17;refine wp_letter (fun Q hQ=>?_);have HQ:=Lib.hid hQ;clear hQ;go_wp2_with fail;refine HN0.out.mono ?_;rintro e w' ⟨rfl,rfl⟩;go_wp2_with fail;refine(HO.out _ (below1 w _)).mono ?_;rintro e w1 ⟨rfl,hb1⟩;have HB1:=Lib.hid ((below1 w (.cells #[.int .i64 c.params,.int .i64 c.regs,.slice LA c.locs.length lc,.slice BA c.ins.length bc] 39)).trans (hb1.mono (below1 w (.cells #[.int .i64 c.params,.int .i64 c.regs,.slice LA c.locs.length lc,.slice BA c.ins.length bc] 39)).size));have hg1:=HGB.out.below hb1 HGB.out.lt;have HG1:=Lib.hid hg1;have g0:=hg1.cell (j:=0) rfl;have g1:=hg1.cell (j:=1) rfl;have g2:=hg1.cell (j:=2) rfl;have g3:=hg1.cell (j:=3) rfl
      have gl:=hg1.lt;clear hb1 hg1;go_wp2_with fail;refine(HBT.out _).mono ?_;rintro e w' ⟨rfl,rfl⟩;go_wp2_with fail;refine HQ.out _ _ _ ?_;exact bodyPost_ret (v:= .bool false) (by simp[results,Tryz.results17,go_sem]) rfl ⟨by rw[HE.out],HB1.out⟩
     |true=>
      rw[c5]at HBT;have hlen:1≤c.ins.length∧c.ins.length≤8000:=by unfold betwB at c5;simp at c5;omega
      have hrg:0≤c.regs∧c.regs≤8000:=by unfold numB at c1;simp at c1;omega
      have HE:=Lib.hid (show codeR c ng pl=(allR c ng pl c.ins.length && lastB c)from by unfold codeR;rw[if_pos ⟨c1,c2,c3,c4,c5⟩]);have HRG:=Lib.hid hrg;rw[HE.out];clear c1 c2 c3 c4 c5;go_enter Tryz.func17,Tryz.ntmps17;refine wp_letter (fun Q hQ=>?_);have HQ:=Lib.hid hQ;clear hQ;go_wp2_with fail;refine HN0.out.mono ?_;rintro e w' ⟨rfl,rfl⟩;go_wp2_with fail;refine(HO.out _ (below1 w _)).mono ?_;rintro e w1 ⟨rfl,hb1⟩;have HB1:=Lib.hid ((below1 w (.cells #[.int .i64 c.params,.int .i64 c.regs,.slice LA c.locs.length lc,.slice BA c.ins.length bc] 39)).trans (hb1.mono (below1 w (.cells #[.int .i64 c.params,.int .i64 c.regs,.slice LA c.locs.length lc,.slice BA c.ins.length bc] 39)).size));have hg1:=HGB.out.below hb1 HGB.out.lt;have HG1:=Lib.hid hg1;have g0:=hg1.cell (j:=0) rfl;have g1:=hg1.cell (j:=1) rfl;have g2:=hg1.cell (j:=2) rfl
      have g3:=hg1.cell (j:=3) rfl;have gl:=hg1.lt;clear hb1 hg1;go_wp2_with fail;refine(HBT.out _).mono ?_;rintro e w' ⟨rfl,rfl⟩;go_wp2_with fail;have HLB:=Lib.hid (rlabels_any c LA lc BA bc B w1 (by have:=HB1.out.size;omega) (HK.out.below (HB1.out.mono hB) (Nat.le_refl _) (fun _ _ h=>h.below (HB1.out.mono hB) (Nat.le_refl _))) hlen.2);refine HLB.out.mono ?_;rintro e w2 ⟨tb,rfl,htb,hit,hb2⟩;have HIT:=Lib.hid hit;have HB2:=Lib.hid (HB1.out.trans (hb2.mono HB1.out.size));have HG2:=Lib.hid (HG1.out.below hb2 HG1.out.lt);have hz1:=HB1.out.size;have hz2:=hb2.size;have htl:tb<w2.heap.size:=by obtain⟨_,h,_⟩:=hit;exact h.lt
      clear hit hb2 g0 g1 g2 g3 gl;have g3:=HG2.out.cell (j:=3) rfl;have gl:=HG2.out.lt;go_wp2_with fail;go_loopw [9] (fun i wr=>∃k:Nat,i= .int .i64 (k:Nat)∧k≤c.ins.length∧allR c ng pl k=true∧IntsAt wr tb 8000 (labK c.ins c.ins.length)∧BoolsAt wr w2.heap.size 8000 (fun j=>labI (c.ins.take k) j)∧Row wr w.heap.size #[.int .i64 c.params,.int .i64 c.regs,.slice LA c.locs.length lc,.slice BA c.ins.length bc] 39∧Wr (fun i=>i=w2.heap.size) (w2.alloc (.cells Z 4)) wr) (fun i _=>c.ins.length-(intOf i).toNat)
      case atStart=>exact⟨0,rfl,Nat.zero_le _,rfl,HIT.out.wr (Wr.of_below (F:=fun _=>False) (below1 _ _)) (fun h=>h),⟨Z,Row.new _ _ _,HZ.out.1,fun j hj=>by rw[HZ.out.2 j hj];simp[labI]⟩,HG2.out.alloc _,Wr.refl _ _⟩
      case round=>
       obtain⟨k,rfl,hk,hall,hit,hbt,hbx,hwr⟩:=hrel;have hzw:=hwr.size;simp only[World.size_alloc]at hzw;have hbw:Below w.heap.size w wr:=HB2.out.trans (((below1 w2 (.cells Z 4)).trans (hwr.below (by simp) (fun k hk=>by have:k=w2.heap.size:=hk;omega))).mono (by omega));have HALL:=Lib.hid hall;have HIT2:=Lib.hid hit;have HBT2:=Lib.hid hbt;have HBX:=Lib.hid hbx;have HWR:=Lib.hid hwr;have HBW:=Lib.hid hbw;have HSZ:=Lib.hid (show w2.heap.size<wr.heap.size by omega);have HTL:=Lib.hid (show tb<wr.heap.size by omega);have x3:=hbx.cell (j:=3) rfl;have xl:=hbx.lt;clear hall hit hbt hbx hwr g3 gl;by_cases hlt:k<c.ins.length
       ·have hBw:Below B w wr:=hbw.mono hB;obtain⟨bb,boff,x,rfl,hbb,hbk,b0,b1,b2,b3,b4,⟨sv,b5,hst⟩,hx0,hx1,hx2,hx3,hx4⟩:=(HK.out.below hBw (Nat.le_refl _) (fun _ _ h=>h.below hBw (Nat.le_refl _))).get hlt;simp only[Nat.add_zero]at b0 b1 b2 b3 b4 b5;obtain⟨SA,scap,hsv⟩:∃SA scap,sv= .slice SA x.arg.length scap:=(by obtain⟨A',c',h,_⟩:=hst;exact⟨_,_,h⟩)
        subst hsv;have hkb:(k:Int)<(c.ins.length:Int):=by omega
        have hbbl:bb<wr.heap.size:=by omega
        have x2:=HBX.out.cell (j:=2) rfl;have hb1:=below1 wr (.cells #[.int .i64 x.op,.int .i64 x.dst,.int .i64 x.a,.int .i64 x.b,.int .i64 x.n,.slice SA x.arg.length scap] 43);have HFM:=Lib.hid (rform_any c.locs.length ng pl PA pc x SA scap B (wr.alloc (.cells #[.int .i64 x.op,.int .i64 x.dst,.int .i64 x.a,.int .i64 x.b,.int .i64 x.n,.slice SA x.arg.length scap] 43)) (by simp;omega) (hst.below (hb1.mono (by omega)) (Nat.le_refl _)) (HP.out.below (hBw.trans (hb1.mono (by omega))) (Nat.le_refl _)));have HST:=Lib.hid hst;have HBK:=Lib.hid hbk;have HXB:=Lib.hid (Row.new wr #[.int .i64 x.op,.int .i64 x.dst,.int .i64 x.a,.int .i64 x.b,.int .i64 x.n,.slice SA x.arg.length scap] 43)
        have HIN:=Lib.hid (show insR c ng pl (c.ins.take k) x=(formR c.locs.length ng pl x && (regsR c x && ((!(shapeR x).2.2.2||regsB x.arg c.regs)&& (!(decide (x.op=14)&& labI (c.ins.take k) x.n)&& (!decide (x.op=15∨x.op=16)||labI c.ins x.n)))))from rfl);clear hbk hst hBw hb1 hx0 hx1 hx2 hx3 hx4;unfold insV at HFM;cases hfm:formR c.locs.length ng pl x with
        |false=>
         have HBAD:=Lib.hid (allR_bad (ng:=ng) (pl:=pl) HBK.out (by rw[HIN.out,hfm];rfl));rw[hfm]at HFM;clear hfm;go_wp2_with fail;refine HFM.out.mono ?_;rintro e w4 ⟨t0,t1,t2,t3,rfl,_,hb4⟩;have HB4:=Lib.hid (HBW.out.trans (((below1 wr (.cells #[.int .i64 x.op,.int .i64 x.dst,.int .i64 x.a,.int .i64 x.b,.int .i64 x.n,.slice SA x.arg.length scap] 43)).trans (hb4.mono (below1 wr (.cells #[.int .i64 x.op,.int .i64 x.dst,.int .i64 x.a,.int .i64 x.b,.int .i64 x.n,.slice SA x.arg.length scap] 43)).size)).mono (by have:=HBW.out.size;omega)));clear hb4;go_wp2_with fail;refine HQ.out _ _ _ ?_;exact bodyPost_ret (v:= .bool false) (by simp[results,Tryz.results17,go_sem]) rfl ⟨by rw[HBAD.out,Bool.false_and],HB4.out.trans ((below1 w4 _).mono HB4.out.size)⟩
        |true=>
         have HFF:=Lib.hid hfm;rw[hfm]at HFM;clear hfm;go_wp2_with fail;refine HFM.out.mono ?_;rintro e w4 ⟨t0,t1,t2,t3,rfl,hsh,hb4⟩;have hsh':=hsh rfl;have HSH:=Lib.hid hsh';have hb5:=(below1 wr (.cells #[.int .i64 x.op,.int .i64 x.dst,.int .i64 x.a,.int .i64 x.b,.int .i64 x.n,.slice SA x.arg.length scap] 43)).trans (hb4.mono (below1 wr (.cells #[.int .i64 x.op,.int .i64 x.dst,.int .i64 x.a,.int .i64 x.b,.int .i64 x.n,.slice SA x.arg.length scap] 43)).size);have HB5:=Lib.hid hb5;have hb4':=hb4;have hn8:x.op=14∨x.op=15∨x.op=16→∃m:Nat,x.n=(m:Int)∧m<8000:=fun h=>by
          have h1:opR x=true:=by
           have:=HFF.out;unfold formR at this;simp only[Bool.and_eq_true]at this;exact this.2.2.2.2
          unfold opR at h1;rw[if_neg (by omega),if_neg (by omega),if_neg (by omega),if_neg (by omega),if_pos (by omega)]at h1;simp at h1;exact⟨x.n.toNat,by omega,by omega⟩
         have HN8:=Lib.hid hn8;clear hsh hsh' hb4 hn8 x2 x3 xl b0 b1 b2 b3 b4 b5;go_upto_region 10 with fail;refine wp_world (fun W5 hW5=>?_);have hb6:Below wr.heap.size wr W5:=hW5▸hb5.trans ((below1 w4 _).mono hb5.size);have hsr:Row W5 w4.heap.size #[.bool t0,.bool t1,.bool t2,.bool t3] 78:=hW5▸Row.new _ _ _;have HB6:=Lib.hid hb6;have HSR:=Lib.hid hsr
         have HXR:=Lib.hid (((HXB.out.below (hb4':Below (wr.alloc (.cells #[.int .i64 x.op,.int .i64 x.dst,.int .i64 x.a,.int .i64 x.b,.int .i64 x.n,.slice SA x.arg.length scap] 43)).heap.size (wr.alloc (.cells #[.int .i64 x.op,.int .i64 x.dst,.int .i64 x.a,.int .i64 x.b,.int .i64 x.n,.slice SA x.arg.length scap] 43)) w4) HXB.out.lt).alloc (.cells #[.bool t0,.bool t1,.bool t2,.bool t3] 78)):Row (w4.alloc (.cells #[.bool t0,.bool t1,.bool t2,.bool t3] 78)) wr.heap.size #[.int .i64 x.op,.int .i64 x.dst,.int .i64 x.a,.int .i64 x.b,.int .i64 x.n,.slice SA x.arg.length scap] 43);rw[←hW5]at HXR;have HCR:=Lib.hid (HBX.out.below hb6 HBX.out.lt);have s0:=hsr.cell (j:=0) rfl;have s1:=hsr.cell (j:=1) rfl;have s2:=hsr.cell (j:=2) rfl;have sl:=hsr.lt;have y1:=HXR.out.cell (j:=1) rfl;have y2:=HXR.out.cell (j:=2) rfl;have y3:=HXR.out.cell (j:=3) rfl
         have yl:=HXR.out.lt;have k1:=HCR.out.cell (j:=1) rfl;have kl:=HCR.out.lt;clear hW5 hsr hb6 hb5 hb4';go_cut [109]from 47 to 158 (fun v wx=>v= .bool (!(regsR c x))∧wx=W5)
         case first=>
          have HD:=Lib.hid (num_any x.dst (c.regs-1) W5);have HA:=Lib.hid (num_any x.a (c.regs-1) W5);have HBB:=Lib.hid (num_any x.b (c.regs-1) W5);have HRR:=Lib.hid (show regsR c x=((!t0||numB x.dst (c.regs-1))&& ((!t1||numB x.a (c.regs-1))&& (!t2||numB x.b (c.regs-1))))from by unfold regsR;rw[←HSH.out]);obtain⟨nd,hnd⟩:∃b,b=numB x.dst (c.regs-1):=⟨_,rfl⟩
          obtain⟨na,hna⟩:∃b,b=numB x.a (c.regs-1):=⟨_,rfl⟩
          obtain⟨nb,hnb⟩:∃b,b=numB x.b (c.regs-1):=⟨_,rfl⟩
          rw[←hnd]at HD HRR;rw[←hna]at HA HRR;rw[←hnb]at HBB HRR;clear hnd hna hnb;have hT:(t0=false)∨(t0=true∧nd=true)∨(t0=true∧nd=false):=by cases t0<;>cases nd<;>simp
          have hA:(t1=false)∨(t1=true∧na=true)∨(t1=true∧na=false):=by cases t1<;>cases na<;>simp
          have hC:(t2=false)∨(t2=true∧nb=true)∨(t2=true∧nb=false):=by cases t2<;>cases nb<;>simp
          clear HSH HSR HIN HFF;rcases hT with rfl|⟨rfl,rfl⟩|⟨rfl,rfl⟩
          ·skip
           rcases hA with rfl|⟨rfl,rfl⟩|⟨rfl,rfl⟩
           ·skip
            rcases hC with rfl|⟨rfl,rfl⟩|⟨rfl,rfl⟩
            ·skip
             go_wp2_with fail
             go_meet
             exact⟨by rw[HRR.out];simp,rfl⟩
            ·skip
             go_wp2_with fail;refine HBB.out.mono ?_;rintro e w' ⟨rfl,rfl⟩;go_wp2_with fail
             go_meet
             exact⟨by rw[HRR.out];simp,rfl⟩
            ·skip
             go_wp2_with fail;refine HBB.out.mono ?_;rintro e w' ⟨rfl,rfl⟩;go_wp2_with fail
             go_meet
             exact⟨by rw[HRR.out];simp,rfl⟩
           ·skip
            rcases hC with rfl|⟨rfl,rfl⟩|⟨rfl,rfl⟩
            ·skip
             go_wp2_with fail;refine HA.out.mono ?_;rintro e w' ⟨rfl,rfl⟩;go_wp2_with fail
             go_meet
             exact⟨by rw[HRR.out];simp,rfl⟩
            ·skip
             go_wp2_with fail;refine HA.out.mono ?_;rintro e w' ⟨rfl,rfl⟩;go_wp2_with fail;refine HBB.out.mono ?_;rintro e w' ⟨rfl,rfl⟩;go_wp2_with fail
             go_meet
             exact⟨by rw[HRR.out];simp,rfl⟩
            ·skip
             go_wp2_with fail;refine HA.out.mono ?_;rintro e w' ⟨rfl,rfl⟩;go_wp2_with fail;refine HBB.out.mono ?_;rintro e w' ⟨rfl,rfl⟩;go_wp2_with fail
             go_meet
             exact⟨by rw[HRR.out];simp,rfl⟩
           ·skip
            clear hC;go_wp2_with fail;refine HA.out.mono ?_;rintro e w' ⟨rfl,rfl⟩;go_wp2_with fail
            go_meet
            exact⟨by rw[HRR.out];simp,rfl⟩
          ·skip
           rcases hA with rfl|⟨rfl,rfl⟩|⟨rfl,rfl⟩
           ·skip
            rcases hC with rfl|⟨rfl,rfl⟩|⟨rfl,rfl⟩
            ·skip
             go_wp2_with fail;refine HD.out.mono ?_;rintro e w' ⟨rfl,rfl⟩;go_wp2_with fail
             go_meet
             exact⟨by rw[HRR.out];simp,rfl⟩
            ·skip
             go_wp2_with fail;refine HD.out.mono ?_;rintro e w' ⟨rfl,rfl⟩;go_wp2_with fail;refine HBB.out.mono ?_;rintro e w' ⟨rfl,rfl⟩;go_wp2_with fail
             go_meet
             exact⟨by rw[HRR.out];simp,rfl⟩
            ·skip
             go_wp2_with fail;refine HD.out.mono ?_;rintro e w' ⟨rfl,rfl⟩;go_wp2_with fail;refine HBB.out.mono ?_;rintro e w' ⟨rfl,rfl⟩;go_wp2_with fail
             go_meet
             exact⟨by rw[HRR.out];simp,rfl⟩
           ·skip
            rcases hC with rfl|⟨rfl,rfl⟩|⟨rfl,rfl⟩
            ·skip
             go_wp2_with fail;refine HD.out.mono ?_;rintro e w' ⟨rfl,rfl⟩;go_wp2_with fail;refine HA.out.mono ?_;rintro e w' ⟨rfl,rfl⟩;go_wp2_with fail
             go_meet
             exact⟨by rw[HRR.out];simp,rfl⟩
            ·skip
             go_wp2_with fail;refine HD.out.mono ?_;rintro e w' ⟨rfl,rfl⟩;go_wp2_with fail;refine HA.out.mono ?_;rintro e w' ⟨rfl,rfl⟩;go_wp2_with fail;refine HBB.out.mono ?_;rintro e w' ⟨rfl,rfl⟩;go_wp2_with fail
             go_meet
             exact⟨by rw[HRR.out];simp,rfl⟩
            ·skip
             go_wp2_with fail;refine HD.out.mono ?_;rintro e w' ⟨rfl,rfl⟩;go_wp2_with fail;refine HA.out.mono ?_;rintro e w' ⟨rfl,rfl⟩;go_wp2_with fail;refine HBB.out.mono ?_;rintro e w' ⟨rfl,rfl⟩;go_wp2_with fail
             go_meet
             exact⟨by rw[HRR.out];simp,rfl⟩
           ·skip
            clear hC;go_wp2_with fail;refine HD.out.mono ?_;rintro e w' ⟨rfl,rfl⟩;go_wp2_with fail;refine HA.out.mono ?_;rintro e w' ⟨rfl,rfl⟩;go_wp2_with fail
            go_meet
            exact⟨by rw[HRR.out];simp,rfl⟩
          ·skip
           clear hA hC;go_wp2_with fail;refine HD.out.mono ?_;rintro e w' ⟨rfl,rfl⟩;go_wp2_with fail
           go_meet
           exact⟨by rw[HRR.out];simp,rfl⟩
         case rest=>
          obtain⟨rfl,hwc⟩:=hcut;subst hwc;have HSIZE:=Lib.hid HB6.out.size;have HIT6:=Lib.hid (HIT2.out.wr (Wr.of_below (F:=fun _=>False) HB6.out) (fun h=>h));have HBT6:=Lib.hid (HBT2.out.wr (Wr.of_below (F:=fun _=>False) HB6.out) (fun h=>h));have HWR6:=Lib.hid (HWR.out.trans (Wr.of_below (F:=fun _=>False) HB6.out) (fun _ h=>h.elim));have HBW6:=Lib.hid (HBW.out.trans (HB6.out.mono HBW.out.size));cases hrr:regsR c x with
          |false=>
           have HBAD:=Lib.hid (allR_bad (ng:=ng) (pl:=pl) HBK.out (by rw[HIN.out,HFF.out,hrr];rfl));rw[Bool.not_false];clear hrr;go_wp2_with fail;refine HQ.out _ _ _ ?_;exact bodyPost_ret (v:= .bool false) (by simp[results,Tryz.results17,go_sem]) rfl ⟨by rw[HBAD.out,Bool.false_and],HBW6.out⟩
          |true=>
           have HRR:=Lib.hid hrr;rw[Bool.not_true];clear hrr s0 s1 s2 y1 y2 y3 k1;go_wp2_with fail;obtain⟨wo,rfl⟩:∃wo:World,wo=wr:=⟨_,rfl⟩
           have hwrap:IntKind.i64.wrap (c.regs-1)=c.regs-1:=IntWalk.i64_in _ (by have:=HRG.out;omega);have HWP:=Lib.hid hwrap;clear hwrap;go_loopw [13] (fun i ws=>∃j:Nat,i= .int .i64 (j:Nat)∧j≤x.arg.length∧(t3=true→regsB (x.arg.take j) c.regs=true)∧Below wc.heap.size wc ws) (fun i _=>x.arg.length-(intOf i).toNat)
           case atStart=>exact⟨0,rfl,Nat.zero_le _,fun _=>rfl,Below.refl _ _⟩
           case round=>
            obtain⟨j,rfl,hj,hrb,hbj⟩:=hrel;have HRB:=Lib.hid hrb;have HBJ:=Lib.hid hbj;have hzj:=hbj.size;have hsj:=HSR.out.below hbj HSR.out.lt;have hxj:=HXR.out.below hbj HXR.out.lt;have hcj:=HCR.out.below hbj HCR.out.lt;have s3:=hsj.cell (j:=3) rfl;have sl:=hsj.lt;have y0:=hxj.cell (j:=0) rfl;have y4:=hxj.cell (j:=4) rfl;have y5:=hxj.cell (j:=5) rfl;have yl:=hxj.lt;have k1:=hcj.cell (j:=1) rfl;have kl:=hcj.lt;have HCJ:=Lib.hid hcj;clear hrb hbj hsj hxj hcj;by_cases hgo:t3=true∧j<x.arg.length
            ·obtain⟨rfl,hlt2⟩:=hgo;obtain⟨sb,so,hSA,hsb,g0,_⟩:=(HST.out.below ((HB6.out.trans (HBJ.out.mono HB6.out.size)).mono (show B≤wo.heap.size by have:=HBW.out.size;omega)) (Nat.le_refl _)).at hlt2;have hnal:=HST.out.len.2;rw[hSA]at y5;have hd:decide ((j:Int)<(x.arg.length:Int))=true:=by simpa using hlt2
             have hjl:(j:Int)<(x.arg.length:Int):=by omega
             have hsbl:sb<wr.heap.size:=by have:=HBW.out.size;have:=HB6.out.size;omega
             have hwrap:=HWP.out;have HNJ:=Lib.hid (fun W=>num_any x.arg[j] (c.regs-1) W);cases hnj:numB x.arg[j] (c.regs-1)with
             |true=>
              have HNX:=Lib.hid (show regsB (x.arg.take (j+1)) c.regs=true by rw[regsB_take hlt2,HRB.out rfl];unfold numB at hnj;simp at hnj ⊢;omega);rw[hnj]at HNJ;clear hnj;go_wp2_with fail;go_quiet ((go_at_call 16;exact Calls.quiet_of_same ((HNJ.out _).mono fun _ _ h=>⟨h.1,h.2.symm⟩)));clear hwrap;go_wp2_with fail;go_roundw
              case rel=>exact⟨j+1,by go_num,hlt2,fun _=>HNX.out,below_drewN HBJ.out _⟩
              case measure=>simp[intOf];omega
             |false=>
              have HNX:=Lib.hid (show regsB x.arg c.regs=false from regsB_no hlt2 (fun h=>by unfold numB at hnj;simp at hnj;omega));have HBAD:=Lib.hid (allR_bad (ng:=ng) (pl:=pl) HBK.out (by rw[HIN.out,HFF.out,HRR.out,HNX.out,←HSH.out];rfl));rw[hnj]at HNJ;clear hnj;go_wp2_with fail;go_quiet ((go_at_call 16;exact Calls.quiet_of_same ((HNJ.out _).mono fun _ _ h=>⟨h.1,h.2.symm⟩)));clear hwrap;go_wp2_with fail;refine HQ.out _ _ _ ?_;exact bodyPost_ret (v:= .bool false) (by simp[results,Tryz.results17,go_sem]) rfl ⟨by rw[HBAD.out,Bool.false_and],below_drewN (HBW6.out.trans (HBJ.out.mono HBW6.out.size)) _⟩
            ·have HARG:=Lib.hid (show(!t3||regsB x.arg c.regs)=true by
              cases t3 with
              |false=>rfl
              |true=>
               have hje:j=x.arg.length:=by have:¬j<x.arg.length:=fun h=>hgo ⟨rfl,h⟩;omega
               have:=HRB.out rfl;rw[hje,List.take_length]at this;rw[this];rfl)
             have hor:t3=false∨(t3=true∧j=x.arg.length):=by
              cases t3 with
              |false=>exact Or.inl rfl
              |true=>exact Or.inr ⟨rfl,by have:¬j<x.arg.length:=fun h=>hgo ⟨rfl,h⟩;omega⟩
             have HIT7:=Lib.hid (HIT6.out.wr (Wr.of_below (F:=fun _=>False) HBJ.out) (fun h=>h));have HBT7:=Lib.hid (HBT6.out.wr (Wr.of_below (F:=fun _=>False) HBJ.out) (fun h=>h));have HWR7:=Lib.hid (HWR6.out.trans (Wr.of_below (F:=fun _=>False) HBJ.out) (fun _ h=>h.elim));have HBW7:=Lib.hid (HBW6.out.trans (HBJ.out.mono HBW6.out.size));have HNEXT:=Lib.hid (fun(e1:(!(decide (x.op=14)&& labI (c.ins.take k) x.n))=true)(e2:(!decide (x.op=15∨x.op=16)||labI c.ins x.n)=true)=>(show allR c ng pl (k+1)=true from by rw[allR_next HBK.out,HALL.out,HIN.out,HFF.out,HRR.out,←HSH.out,HARG.out,e1,e2];rfl));have HTK:=Lib.hid (take_succ_of HBK.out);have hs8:w2.heap.size<wr.heap.size:=by have:=HSZ.out;have:=HB6.out.size;have:=HBJ.out.size;omega
             have ht8:tb<wr.heap.size:=by have:=HTL.out;have:=HB6.out.size;have:=HBJ.out.size;omega
             obtain⟨xo,hxo⟩:∃o,o=x.op:=⟨_,rfl⟩
             rw[←hxo]at y0 HNEXT HN8;have HXO:=Lib.hid hxo;clear hgo hxo k1 kl;rcases hor with rfl|⟨rfl,rfl⟩
             all_goals
              by_cases h14:xo=14
              ·subst h14;obtain⟨m,hn,hm⟩:=HN8.out (Or.inl rfl);rw[hn]at y4 HNEXT;have HN:=Lib.hid hn;have hm0:(0:Int)≤(m:Int):=by omega
               have hm1:(m:Int)<8000:=by omega
               obtain⟨cs,hr,hc1,hc2⟩:=HBT7.out;have c0:wr.cell? ⟨w2.heap.size,m,none⟩=some (.bool (labI (c.ins.take k) (m:Int))):=hr.cell (hc2 m hm);have c1:=hr.free m;cases hv:labI (c.ins.take k) (m:Int)with
               |true=>
                rw[hv]at c0;have HBAD:=Lib.hid (allR_bad (ng:=ng) (pl:=pl) HBK.out (by rw[HIN.out,HFF.out,HRR.out,←HSH.out,HARG.out,←HXO.out,HN.out,hv];rfl));clear hn hr hc1 hc2 hv;go_wp2_with fail;refine HQ.out _ _ _ ?_;exact bodyPost_ret (v:= .bool false) (by simp[results,Tryz.results17,go_sem]) rfl ⟨by rw[HBAD.out,Bool.false_and],HBW7.out⟩
               |false=>
                rw[hv]at c0;have HNX:=Lib.hid (HNEXT.out (by rw[hv];rfl) (by rw[decide_eq_false (by decide)];rfl));have HB8:=Lib.hid (HBT7.out.set (j:=m) (g:=fun j=>labI (c.ins.take (k+1)) j) (v:=true) hm (by show labI (c.ins.take (k+1)) (m:Int)=true;rw[HTK.out,labI_snoc,←HXO.out,HN.out];simp) (fun i hi=>by show labI (c.ins.take (k+1)) (i:Int)=labI (c.ins.take k) (i:Int);rw[HTK.out,labI_snoc,HN.out,decide_eq_false (fun h=>hi (by omega)),Bool.or_false]));have hwc:=Wr.cell1 wr w2.heap.size m (.bool true);have HI8:=Lib.hid (HIT7.out.wr hwc (by omega));have HC8:=Lib.hid (HCJ.out.wr hwc (by omega));have HW8:=Lib.hid (HWR7.out.trans hwc (fun _ h=>Or.inl h));clear hn hr hc1 hc2 hv hwc;go_wp2_with fail;go_roundw
                case rel=>exact⟨k+1,by go_num,hlt,HNX.out,HI8.out,HB8.out,HC8.out,HW8.out⟩
                case measure=>simp[intOf];omega
              ·have h14b:(xo==14)=false:=by simpa using h14
               have HB8:=Lib.hid (show BoolsAt wr w2.heap.size 8000 (fun j=>labI (c.ins.take (k+1)) j)from by
                obtain⟨cs,r1,r2,r3⟩:=HBT7.out;exact⟨cs,r1,r2,fun i hi=>by rw[r3 i hi];show some (Value.bool (labI (c.ins.take k) (i:Int)))=some (Value.bool (labI (c.ins.take (k+1)) (i:Int)));rw[HTK.out,labI_snoc,decide_eq_false (fun h=>h14 (by rw[HXO.out];exact h.1)),Bool.or_false]⟩)
               by_cases h15:xo=15∨xo=16
               ·obtain⟨m,hn,hm⟩:=HN8.out (Or.inr h15);rw[hn]at y4 HNEXT;have HN:=Lib.hid hn;have hm0:(0:Int)≤(m:Int):=by omega
                have hm1:(m:Int)<8000:=by omega
                obtain⟨cs,hr,hc1,hc2⟩:=HIT7.out;have c0:=hr.cell (hc2 m hm);have hth:=labK_there (l:=c.ins) c.ins.length (Nat.le_refl _) m;rw[List.take_length]at hth;obtain⟨lv,hlv⟩:∃v,v=labK c.ins c.ins.length m:=⟨_,rfl⟩
                rw[←hlv]at c0 hth;have H15:=Lib.hid h15;cases hv:labI c.ins (m:Int)with
                |true=>
                 have hl0:decide (lv<0)=false:=by have:=hth.2 hv;simp;omega
                 have HNX:=Lib.hid (HNEXT.out (by rw[decide_eq_false h14];rfl) (by rw[hv,Bool.or_true]));clear hn hr hc1 hc2 hv hth hlv h14;rcases h15 with rfl|rfl
                 all_goals
                  go_wp2_with fail;go_roundw
                  case rel=>exact⟨k+1,by go_num,hlt,HNX.out,HIT7.out,HB8.out,HCJ.out,HWR7.out⟩
                  case measure=>simp[intOf];omega
                |false=>
                 have hl0:decide (lv<0)=true:=decide_eq_true (Int.not_le.mp fun h=>absurd (hth.1 h) (by rw[hv];decide));have HBAD:=Lib.hid (allR_bad (ng:=ng) (pl:=pl) HBK.out (by rw[HIN.out,HFF.out,HRR.out,←HSH.out,HARG.out,←HXO.out,HN.out,hv,decide_eq_false h14,decide_eq_true H15.out];rfl));clear hn hr hc1 hc2 hv hth hlv h14;rcases h15 with rfl|rfl
                 all_goals
                  go_wp2_with fail;refine HQ.out _ _ _ ?_;exact bodyPost_ret (v:= .bool false) (by simp[results,Tryz.results17,go_sem]) rfl ⟨by rw[HBAD.out,Bool.false_and],HBW7.out⟩
               ·have e15:(xo==15)=false:=by simp;exact fun h=>h15 (Or.inl h)
                have e16:(xo==16)=false:=by simp;exact fun h=>h15 (Or.inr h)
                have HNX:=Lib.hid (HNEXT.out (by rw[decide_eq_false h14];rfl) (by rw[decide_eq_false h15];rfl));clear h14 h15;go_wp2_with fail;go_roundw
                case rel=>exact⟨k+1,by go_num,hlt,HNX.out,HIT7.out,HB8.out,HCJ.out,HWR7.out⟩
                case measure=>simp[intOf];omega
       ·obtain rfl:k=c.ins.length:=by omega
        obtain⟨bb,boff,x,hba,hbb,hbk,b0,_⟩:=(HK.out.below (hbw.mono hB) (Nat.le_refl _) (fun _ _ h=>h.below (hbw.mono hB) (Nat.le_refl _))).get (show c.ins.length-1<c.ins.length by omega);subst hba;simp only[Nat.add_zero]at b0;have HLST:=Lib.hid (lastR_eq hbk);obtain⟨m,hm⟩:∃m,c.ins.length=m+1:=⟨c.ins.length-1,by omega⟩
        have hm2:c.ins.length-1=m:=by omega
        rw[hm2]at b0;obtain⟨xo,hxo⟩:∃o,o=x.op:=⟨_,rfl⟩
        rw[←hxo]at b0 HLST;have hbbl:bb<wr.heap.size:=by omega
        have hxc:xo=15∨xo=17∨xo=13∨(xo≠15∧xo≠17∧xo≠13):=by omega
        clear hbk hbw hxo hm2;rcases hxc with rfl|rfl|rfl|⟨n1,n2,n3⟩
        all_goals try have e1:(xo==15)=false:=by simpa using n1
        all_goals try have e2:(xo==17)=false:=by simpa using n2
        all_goals try have e3:(xo==13)=false:=by simpa using n3
        all_goals try have HNN:=Lib.hid (And.intro n1 (And.intro n2 n3))
        all_goals try clear n1 n2 n3
        all_goals go_wp2_with fail
        all_goals refine HQ.out _ _ _ ?_
        iterate 3 (·refine bodyPost_ret (v:= .bool true) (by simp[results,Tryz.results17,go_sem]) rfl ?_;rw[HALL.out,HLST.out];exact⟨rfl,HBW.out⟩)
        ·refine bodyPost_ret (v:= .bool false) (by simp[results,Tryz.results17,go_sem]) rfl ?_;rw[HALL.out,HLST.out,decide_eq_false (fun h=>by rcases h with h|h|h;exact HNN.out.1 h;exact HNN.out.2.1 h;exact HNN.out.2.2 h)];exact⟨rfl,HBW.out⟩
end Go.Proofs.YtlenilbkifofjaaGreatDoor
