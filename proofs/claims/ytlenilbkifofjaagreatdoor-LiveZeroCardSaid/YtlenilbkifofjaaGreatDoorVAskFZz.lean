/- virt's checks: a function, whatever is asked of calls. Conditions: as stated. -/
import Derived.Test.YtlenilbkifofjaaGreatDoorVAskEZz
import Derived.Test.YtlenilbkifofjaaGreatDoorQ05Zz
import Derived.Test.YtlenilbkifofjaaGreatDoorQ02Zz
set_option linter.unusedVariables false
set_option linter.unusedSimpArgs false
set_option maxHeartbeats 8000000
set_option maxRecDepth 100000
namespace Go.Proofs.YtlenilbkifofjaaGreatDoor
open Go.RowKit
section
variable {σ:Type} (par:σ→Int→Nat→Bool×σ)
def insF(c:CodeS)(ng nf:Int)(s:σ)(x:InsS):Bool×σ:=
 if x.op=10∧insB c ng nf yesPar x=true then par s x.n x.arg.length else(insB c ng nf noPar x,s)
def inssF(c:CodeS)(ng nf:Int):σ→List InsS→Bool×σ
 |s,[]=>(true,s)
 |s,x::l=>if(insF par c ng nf s x).1=true then inssF c ng nf (insF par c ng nf s x).2 l else(false,(insF par c ng nf s x).2)
def codeF(c:CodeS)(ng nf:Int)(s:σ):Bool×σ:=if headV c then((inssF par c ng nf s c.ins).1 && lastB c,(inssF par c ng nf s c.ins).2)else(false,s)
theorem inssF_cons{c:CodeS}{ng nf:Int}{s s':σ}{b:Bool}{x:InsS}{l:List InsS}(h:insF par c ng nf s x=(b,s')):inssF par c ng nf s (x::l)=if b=true then inssF par c ng nf s' l else(false,s'):=by
 rw[inssF,h]
end
def FnSaysV{σ:Type}(I:σ→World→Prop)(F:Nat→Prop)(ab:Nat)(r:Bool×σ)(w:World)(e:Ending)(w':World):Prop:=
 e= .returned (.bool r.1)∧I r.2 w'∧Wr (fun k=>k=ab∨F k) w w'
theorem headV_of{c:CodeS}:headV c↔(¬c.params<0∧¬c.params>4∧¬c.params>c.regs∧¬c.regs>8000∧objsB c.locs 400=true∧¬(c.ins.length:Int)<1∧¬(c.ins.length:Int)>8000∧layB [] c.ins=true):=Iff.rfl
theorem lastB_eq{c:CodeS}{x:InsS}(h:c.ins[c.ins.length-1]? =some x):lastB c=decide (x.op=15∨x.op=17∨x.op=13):=by
 unfold lastB;rw[List.getD_eq_getElem?_getD,h];rfl
theorem vfn_any{σ:Type}(I:σ→World→Prop)(par:σ→Int→Nat→Bool×σ)(F:Nat→Prop)(s0:σ)(ab:Nat)(c:CodeS)(LA:Option Addr)(lc:Nat)(BA:Option Addr)(bc:Nat)(nf ng:Int)(cv mv:Value)(B:Nat)(w:World)
  (h:VAsk w ab c LA lc BA bc nf ng (.func (.func 30) #[] #[cv]) mv)(hB:B≤w.heap.size)(hab:B≤ab)(hL:SliceAt w B 3 (ObE w B) c.locs (.slice LA c.locs.length lc))(hK:SliceAt w B 6 (InsE w B) c.ins (.slice BA c.ins.length bc))
  (hF:∀k,F k→B≤k∧k<w.heap.size∧k≠ab)(hI0:I s0 w)(hI:∀s W W',I s W→Wr (fun k=>k=ab) W W'→I s W')
  (hpar:∀s n(k:Nat)W,(0≤n∧n<nf)→k≤9223372036854775807→I s W→Wr (fun k=>k=ab∨F k) w W→Calls Tryz.prog 30 #[.int .i64 n,.int .i64 k,cv] W fun e w'=>e= .returned (.bool (par s n k).1)∧I (par s n k).2 w'∧Wr F W w'):
  Calls Tryz.prog 31 #[.pointer (some ⟨ab,0,.none⟩)] w fun e w'=>FnSaysV I F ab (codeF par c ng nf s0) w e w':=by
 have HO:=Lib.hid (fun W(hW:Below w.heap.size w W)=>gobjs_any c.locs LA c.locs.length lc 400 B W (by have:=hW.size;omega) (hL.below (hW.mono hB) (Nat.le_refl _) (fun _ _ h=>h.below (hW.mono hB) (Nat.le_refl _))));have HR:=Lib.hid h;have HK:=Lib.hid hK;have HF:=Lib.hid hF;have HI0:=Lib.hid hI0;have HI:=Lib.hid hI;have HP:=Lib.hid hpar;have hrl:=Row.lt h;have hrl1:ab<w.heap.size+1:=by omega
 have hnbl:=hK.len.2;have r0:w.cell? ⟨ab,0,.none⟩=some (.int .i64 c.params):=Row.cell h rfl;have r1:w.cell? ⟨ab,1,.none⟩=some (.int .i64 c.regs):=Row.cell h rfl;have r2:w.cell? ⟨ab,2,.none⟩=some (.slice LA c.locs.length lc):=Row.cell h rfl;have r3:w.cell? ⟨ab,3,.none⟩=some (.slice BA c.ins.length bc):=Row.cell h rfl;have HGB:=Lib.hid (Row.new w #[.int .i64 c.params,.int .i64 c.regs,.slice LA c.locs.length lc,.slice BA c.ins.length bc] 39);have HLAY:=Lib.hid (fun W(hW:Below w.heap.size w W)(hl:c.ins.length≤8000)=>vlay_any B ab c.ins BA bc (.int .i64 c.params) (.int .i64 c.regs) (.slice LA c.locs.length lc) (.int .i64 nf) (.int .i64 ng) (.func (.func 30) #[] #[cv]) mv W (Row.below h hW hrl) (hK.below (hW.mono hB) (Nat.le_refl _) (fun _ _ h=>h.below (hW.mono hB) (Nat.le_refl _))) hab hl);clear h hL hK hF hI0 hI hpar
 by_cases c1:c.params<0
 ·have d1:decide (c.params<0)=true:=by simpa using c1
  have HE:=Lib.hid (show codeF par c ng nf s0=(false,s0)from by unfold codeF;rw[if_neg (fun h=>absurd c1 (headV_of.1 h).1)]);rw[HE.out];clear c1;go_enter Tryz.func31,Tryz.ntmps31;refine wp_letter (fun Q hQ=>?_);have HQ:=Lib.hid hQ;clear hQ;go_wp2_with fail;refine HQ.out _ _ _ ?_;exact bodyPost_ret (v:= .bool false) (by simp[results,Tryz.results31,go_sem]) rfl ⟨rfl,HI.out _ _ _ HI0.out (Wr.of_below (below1 _ _)),Wr.of_below (below1 _ _)⟩
 ·have d1:decide (c.params<0)=false:=by simpa using c1
  by_cases c2:c.params>4
  ·have d2:decide (4<c.params)=true:=by simpa using c2
   have HE:=Lib.hid (show codeF par c ng nf s0=(false,s0)from by unfold codeF;rw[if_neg (fun h=>absurd c2 (headV_of.1 h).2.1)]);rw[HE.out];clear c1 c2;go_enter Tryz.func31,Tryz.ntmps31;refine wp_letter (fun Q hQ=>?_);have HQ:=Lib.hid hQ;clear hQ;go_wp2_with fail;refine HQ.out _ _ _ ?_;exact bodyPost_ret (v:= .bool false) (by simp[results,Tryz.results31,go_sem]) rfl ⟨rfl,HI.out _ _ _ HI0.out (Wr.of_below (below1 _ _)),Wr.of_below (below1 _ _)⟩
  ·have d2:decide (4<c.params)=false:=by simpa using c2
   by_cases c3:c.params>c.regs
   ·have d3:decide (c.regs<c.params)=true:=by simpa using c3
    have HE:=Lib.hid (show codeF par c ng nf s0=(false,s0)from by unfold codeF;rw[if_neg (fun h=>absurd c3 (headV_of.1 h).2.2.1)]);rw[HE.out];clear c1 c2 c3;go_enter Tryz.func31,Tryz.ntmps31;refine wp_letter (fun Q hQ=>?_);have HQ:=Lib.hid hQ;clear hQ;go_wp2_with fail;refine HQ.out _ _ _ ?_;exact bodyPost_ret (v:= .bool false) (by simp[results,Tryz.results31,go_sem]) rfl ⟨rfl,HI.out _ _ _ HI0.out (Wr.of_below (below1 _ _)),Wr.of_below (below1 _ _)⟩
   ·have d3:decide (c.regs<c.params)=false:=by simpa using c3
    by_cases c4:c.regs>8000
    ·have d4:decide (8000<c.regs)=true:=by simpa using c4
     have HE:=Lib.hid (show codeF par c ng nf s0=(false,s0)from by unfold codeF;rw[if_neg (fun h=>absurd c4 (headV_of.1 h).2.2.2.1)]);rw[HE.out];clear c1 c2 c3 c4;go_enter Tryz.func31,Tryz.ntmps31;refine wp_letter (fun Q hQ=>?_);have HQ:=Lib.hid hQ;clear hQ;go_wp2_with fail;refine HQ.out _ _ _ ?_;exact bodyPost_ret (v:= .bool false) (by simp[results,Tryz.results31,go_sem]) rfl ⟨rfl,HI.out _ _ _ HI0.out (Wr.of_below (below1 _ _)),Wr.of_below (below1 _ _)⟩
    ·have d4:decide (8000<c.regs)=false:=by simpa using c4
     cases c5:objsB c.locs 400 with
     |false=>
      rw[c5]at HO;have HE:=Lib.hid (show codeF par c ng nf s0=(false,s0)from by unfold codeF;rw[if_neg (fun h=>absurd (headV_of.1 h).2.2.2.2.1 (by rw[c5];decide))]);rw[HE.out];clear c1 c2 c3 c4 c5;go_enter Tryz.func31,Tryz.ntmps31;refine wp_letter (fun Q hQ=>?_);have HQ:=Lib.hid hQ;clear hQ;go_wp2_with fail;refine(HO.out _ (below1 w _)).mono ?_;rintro e w1 ⟨rfl,hb1⟩;have HB1:=Lib.hid ((below1 w (.cells #[.int .i64 c.params,.int .i64 c.regs,.slice LA c.locs.length lc,.slice BA c.ins.length bc] 39)).trans (hb1.mono (below1 w (.cells #[.int .i64 c.params,.int .i64 c.regs,.slice LA c.locs.length lc,.slice BA c.ins.length bc] 39)).size));have hg1:=HGB.out.below hb1 HGB.out.lt;have HG1:=Lib.hid hg1;have g0:=hg1.cell (j:=0) rfl;have g1:=hg1.cell (j:=1) rfl;have g2:=hg1.cell (j:=2) rfl;have g3:=hg1.cell (j:=3) rfl;have gl:=hg1.lt
      clear hb1 hg1 r0 r1 r2 r3;go_wp2_with fail;refine HQ.out _ _ _ ?_;exact bodyPost_ret (v:= .bool false) (by simp[results,Tryz.results31,go_sem]) rfl ⟨rfl,HI.out _ _ _ HI0.out (Wr.of_below HB1.out),Wr.of_below HB1.out⟩
     |true=>
      rw[c5]at HO;by_cases c6:(c.ins.length:Int)<1
      ·have d6:decide ((c.ins.length:Int)<1)=true:=by simpa using c6
       have HE:=Lib.hid (show codeF par c ng nf s0=(false,s0)from by unfold codeF;rw[if_neg (fun h=>absurd c6 (headV_of.1 h).2.2.2.2.2.1)]);rw[HE.out];clear c1 c2 c3 c4 c5 c6;go_enter Tryz.func31,Tryz.ntmps31;refine wp_letter (fun Q hQ=>?_);have HQ:=Lib.hid hQ;clear hQ;go_wp2_with fail;refine(HO.out _ (below1 w _)).mono ?_;rintro e w1 ⟨rfl,hb1⟩;have HB1:=Lib.hid ((below1 w (.cells #[.int .i64 c.params,.int .i64 c.regs,.slice LA c.locs.length lc,.slice BA c.ins.length bc] 39)).trans (hb1.mono (below1 w (.cells #[.int .i64 c.params,.int .i64 c.regs,.slice LA c.locs.length lc,.slice BA c.ins.length bc] 39)).size));have hg1:=HGB.out.below hb1 HGB.out.lt;have HG1:=Lib.hid hg1;have g0:=hg1.cell (j:=0) rfl;have g1:=hg1.cell (j:=1) rfl;have g2:=hg1.cell (j:=2) rfl;have g3:=hg1.cell (j:=3) rfl;have gl:=hg1.lt;clear hb1 hg1 r0 r1 r2 r3;go_wp2_with fail
       refine HQ.out _ _ _ ?_;exact bodyPost_ret (v:= .bool false) (by simp[results,Tryz.results31,go_sem]) rfl ⟨rfl,HI.out _ _ _ HI0.out (Wr.of_below HB1.out),Wr.of_below HB1.out⟩
      ·have d6:decide ((c.ins.length:Int)<1)=false:=by simpa using c6
       by_cases c7:(c.ins.length:Int)>8000
       ·have d7:decide (8000<(c.ins.length:Int))=true:=by simpa using c7
        have HE:=Lib.hid (show codeF par c ng nf s0=(false,s0)from by unfold codeF;rw[if_neg (fun h=>absurd c7 (headV_of.1 h).2.2.2.2.2.2.1)]);rw[HE.out];clear c1 c2 c3 c4 c5 c6 c7;go_enter Tryz.func31,Tryz.ntmps31;refine wp_letter (fun Q hQ=>?_);have HQ:=Lib.hid hQ;clear hQ;go_wp2_with fail;refine(HO.out _ (below1 w _)).mono ?_;rintro e w1 ⟨rfl,hb1⟩;have HB1:=Lib.hid ((below1 w (.cells #[.int .i64 c.params,.int .i64 c.regs,.slice LA c.locs.length lc,.slice BA c.ins.length bc] 39)).trans (hb1.mono (below1 w (.cells #[.int .i64 c.params,.int .i64 c.regs,.slice LA c.locs.length lc,.slice BA c.ins.length bc] 39)).size));have hg1:=HGB.out.below hb1 HGB.out.lt;have HG1:=Lib.hid hg1;have g0:=hg1.cell (j:=0) rfl;have g1:=hg1.cell (j:=1) rfl;have g2:=hg1.cell (j:=2) rfl;have g3:=hg1.cell (j:=3) rfl;have gl:=hg1.lt;clear hb1 hg1 r0 r1 r2 r3;go_wp2_with fail
        refine HQ.out _ _ _ ?_;exact bodyPost_ret (v:= .bool false) (by simp[results,Tryz.results31,go_sem]) rfl ⟨rfl,HI.out _ _ _ HI0.out (Wr.of_below HB1.out),Wr.of_below HB1.out⟩
       ·have d7:decide (8000<(c.ins.length:Int))=false:=by simpa using c7
        have hlen8:c.ins.length≤8000:=by omega
        have hlen1:1≤c.ins.length:=by omega
        cases c8:layB [] c.ins with
        |false=>
         have HE:=Lib.hid (show codeF par c ng nf s0=(false,s0)from by unfold codeF;rw[if_neg (fun h=>absurd (headV_of.1 h).2.2.2.2.2.2.2 (by rw[c8];decide))]);rw[HE.out];unfold LaySays at HLAY;simp only[c8]at HLAY;clear c1 c2 c3 c4 c5 c6 c7 c8;go_enter Tryz.func31,Tryz.ntmps31;refine wp_letter (fun Q hQ=>?_);have HQ:=Lib.hid hQ;clear hQ;go_wp2_with fail;refine(HO.out _ (below1 w _)).mono ?_;rintro e w1 ⟨rfl,hb1⟩;have HB1:=Lib.hid ((below1 w (.cells #[.int .i64 c.params,.int .i64 c.regs,.slice LA c.locs.length lc,.slice BA c.ins.length bc] 39)).trans (hb1.mono (below1 w (.cells #[.int .i64 c.params,.int .i64 c.regs,.slice LA c.locs.length lc,.slice BA c.ins.length bc] 39)).size));have hg1:=HGB.out.below hb1 HGB.out.lt;have HG1:=Lib.hid hg1;have g0:=hg1.cell (j:=0) rfl;have g1:=hg1.cell (j:=1) rfl;have g2:=hg1.cell (j:=2) rfl
         have g3:=hg1.cell (j:=3) rfl;have gl:=hg1.lt;clear hb1 hg1 r0 r1 r2 r3;go_wp2_with fail;refine(HLAY.out w1 HB1.out (by omega)).mono ?_;rintro e w2 ⟨rfl,mb,mln,hmb,hmln,hrow2,hwr2,hmlt,hlab2⟩;have hz1:=HB1.out.size;have HROW2:=Lib.hid hrow2;have HWR2:=Lib.hid ((Wr.of_below HB1.out).trans hwr2 (fun _ h=>Or.inl h));have HLAB2:=Lib.hid hlab2;have hneg:¬w.heap.size=ab:=by omega
         have hg2:=HG1.out.wr hwr2 hneg;have HG2:=Lib.hid hg2;have k3:=hg2.cell (j:=3) rfl;have kl:=hg2.lt;clear hrow2 hwr2 hlab2 hg2 g0 g1 g2 g3 gl;go_wp2_with fail;refine HQ.out _ _ _ ?_;exact bodyPost_ret (v:= .bool false) (by simp[results,Tryz.results31,go_sem]) rfl ⟨rfl,HI.out _ _ _ HI0.out HWR2.out,HWR2.out.mono (fun _ h=>Or.inl (Or.inl h))⟩
        |true=>
         have HE:=Lib.hid (show codeF par c ng nf s0=((inssF par c ng nf s0 c.ins).1 && lastB c,(inssF par c ng nf s0 c.ins).2)from by unfold codeF;rw[if_pos (headV_of.2 ⟨c1,c2,c3,c4,c5,c6,c7,c8⟩)]);rw[HE.out];unfold LaySays at HLAY;simp only[c8]at HLAY;clear c1 c2 c3 c4 c5 c6 c7 c8;go_enter Tryz.func31,Tryz.ntmps31;refine wp_letter (fun Q hQ=>?_);have HQ:=Lib.hid hQ;clear hQ;go_wp2_with fail;refine(HO.out _ (below1 w _)).mono ?_;rintro e w1 ⟨rfl,hb1⟩;have HB1:=Lib.hid ((below1 w (.cells #[.int .i64 c.params,.int .i64 c.regs,.slice LA c.locs.length lc,.slice BA c.ins.length bc] 39)).trans (hb1.mono (below1 w (.cells #[.int .i64 c.params,.int .i64 c.regs,.slice LA c.locs.length lc,.slice BA c.ins.length bc] 39)).size));have hg1:=HGB.out.below hb1 HGB.out.lt;have HG1:=Lib.hid hg1;have g0:=hg1.cell (j:=0) rfl;have g1:=hg1.cell (j:=1) rfl
         have g2:=hg1.cell (j:=2) rfl;have g3:=hg1.cell (j:=3) rfl;have gl:=hg1.lt;clear hb1 hg1 r0 r1 r2 r3;go_wp2_with fail;refine(HLAY.out w1 HB1.out (by omega)).mono ?_;rintro e w2 ⟨rfl,mb,mln,hmb,hmln,hrow2,hwr2,hmlt,hlab2⟩;have hz1:=HB1.out.size;have HROW2:=Lib.hid hrow2;have HWR2:=Lib.hid ((Wr.of_below HB1.out).trans hwr2 (fun _ h=>Or.inl h));have HLAB2:=Lib.hid hlab2;have hneg:¬w.heap.size=ab:=by omega
         have hg2:=HG1.out.wr hwr2 hneg;have HG2:=Lib.hid hg2;have k3:=hg2.cell (j:=3) rfl;have kl:=hg2.lt;clear hrow2 hwr2 hlab2 hg2 g0 g1 g2 g3 gl;go_wp2_with fail;have HLAB3:=Lib.hid (HLAB2.out trivial);go_loopw [57] (fun i wr=>∃(k:Nat)(s:σ),i= .int .i64 (k:Nat)∧k≤c.ins.length∧inssF par c ng nf s (c.ins.drop k)=inssF par c ng nf s0 c.ins∧I s wr∧VAsk wr ab c LA lc BA bc nf ng (.func (.func 30) #[] #[cv]) (.map (some mb))∧LabM wr mb mln (labO c.ins)∧Row wr w.heap.size #[.int .i64 c.params,.int .i64 c.regs,.slice LA c.locs.length lc,.slice BA c.ins.length bc] 39∧Wr (fun k=>k=ab∨F k) w wr) (fun i _=>c.ins.length-(intOf i).toNat)
         case atStart=>exact⟨0,s0,rfl,Nat.zero_le _,rfl,HI.out _ _ _ HI0.out HWR2.out,HROW2.out,HLAB3.out,HG2.out,HWR2.out.mono (fun _ h=>Or.inl (Or.inl h))⟩
         case round=>
          obtain⟨k,s,rfl,hk,hcs,his,hrw,hlb,hgc,hwr⟩:=hrel;have HCS:=Lib.hid hcs;have HIS:=Lib.hid his;have HRW:=Lib.hid hrw;have HLB:=Lib.hid hlb;have HGC:=Lib.hid hgc;have HWR:=Lib.hid hwr;have hzw:=hwr.size;have hBw:Below B w wr:=hwr.below hB (fun k hk=>by rcases hk with h'|h';exact h'▸hab;exact(HF.out k h').1);have hrwl:=Row.lt hrw;have gcl:=hgc.lt;have gc3:=hgc.cell (j:=3) rfl;clear hcs his hrw hlb hgc hwr k3 kl;by_cases hlt:k<c.ins.length
          ·obtain⟨bb,boff,x,rfl,hbb,hbk,b0,b1,b2,b3,b4,⟨sv,b5,hst⟩,hx0,hx1,hx2,hx3,hx4⟩:=(HK.out.below hBw (Nat.le_refl _) (fun _ _ h=>h.below hBw (Nat.le_refl _))).get hlt;simp only[Nat.add_zero]at b0 b1 b2 b3 b4 b5;obtain⟨SA,scap,hsv⟩:∃SA scap,sv= .slice SA x.arg.length scap:=(by obtain⟨A',c',h,_⟩:=hst;exact⟨_,_,h⟩)
           subst hsv;have hb1:=below1 wr (.cells #[.int .i64 x.op,.int .i64 x.dst,.int .i64 x.a,.int .i64 x.b,.int .i64 x.n,.slice SA x.arg.length scap] 43);have hwx:Wr (fun k=>k=ab∨F k) w (wr.alloc (.cells #[.int .i64 x.op,.int .i64 x.dst,.int .i64 x.a,.int .i64 x.b,.int .i64 x.n,.slice SA x.arg.length scap] 43)):=HWR.out.trans (Wr.of_below (F:=fun _=>False) hb1) (fun _ h=>h.elim)
           have HIN:=Lib.hid (vins_any (fun b w'=>b=(par s x.n x.arg.length).1∧I (par s x.n x.arg.length).2 w'∧Wr F (wr.alloc (.cells #[.int .i64 x.op,.int .i64 x.dst,.int .i64 x.a,.int .i64 x.b,.int .i64 x.n,.slice SA x.arg.length scap] 43)) w') ab c LA lc (some ⟨bb,boff,.none⟩) bc nf ng cv mb mln x SA scap B (wr.alloc (.cells #[.int .i64 x.op,.int .i64 x.dst,.int .i64 x.a,.int .i64 x.b,.int .i64 x.n,.slice SA x.arg.length scap] 43)) (Row.below HRW.out hb1 hrwl) (HLB.out.below hb1) hx4 (by simp;omega) (hst.below (hb1.mono (by omega)) (Nat.le_refl _)) (fun h0 W hW=>(HP.out s x.n x.arg.length W h0 (SliceAt.len hst).2 (HI.out _ _ _ HIS.out (Wr.of_below (hb1.trans (hW.mono hb1.size)))) (hwx.trans (Wr.of_below (F:=fun _=>False) hW) (fun _ h=>h.elim))).mono (fun e w' h=>⟨_,h.1,rfl,h.2.1,(Wr.of_below hW).trans h.2.2 (fun _ h=>Or.inl h)⟩)));have HB1X:=Lib.hid hb1
           have HBK:=Lib.hid hbk;have hkb:(k:Int)<(c.ins.length:Int):=by omega
           have hbbl:bb<wr.heap.size:=by omega
           clear hst hbk hBw hb1 hwx hx0 hx1 hx2 hx3 hx4;unfold insV at HIN;go_wp2_with fail;refine HIN.out.mono ?_;rintro e w4 ⟨bz,rfl,hs⟩;have hst:∃s',insF par c ng nf s x=(bz,s')∧I s' w4∧Wr F wr w4:=by
            rcases hs with⟨h1,h2,h3,h4,h5⟩|⟨h1,h2,h3⟩
            ·refine⟨(par s x.n x.arg.length).2,?_,h4,(Wr.of_below HB1X.out).trans h5 (fun _ h=>Or.inl h)⟩;unfold insF;rw[if_pos ⟨h1,h2⟩,h3]
            ·refine⟨s,?_,HI.out _ _ _ HIS.out (Wr.of_below (HB1X.out.trans (h3.mono HB1X.out.size))),Wr.of_below (HB1X.out.trans (h3.mono HB1X.out.size))⟩;unfold insF;rw[if_neg h1,h2]
           obtain⟨s',hs1,hs2,hs3⟩:=hst;have hnew:=(HCS.out).symm.trans (by rw[drop_of HBK.out,inssF_cons par hs1]);have HNW:=Lib.hid hnew;have HS2:=Lib.hid hs2;have HW4:=Lib.hid hs3;have HWT:=Lib.hid (HWR.out.trans hs3 (fun _ h=>Or.inl (Or.inr h)));clear hs hs1 hs2 hs3 hnew b0 b1 b2 b3 b4 b5 gc3;have hbz:bz=true∨bz=false:=by cases bz<;>simp
           rcases hbz with rfl|rfl
           ·go_wp2_with fail;go_roundw
            case rel=>
             refine⟨k+1,s',by go_num,hlt,?_,HS2.out,Row.wr HRW.out HW4.out (fun h=>(HF.out _ h).2.2 rfl),HLB.out.wr HW4.out (fun h=>by have:=(HF.out _ h).2.1;omega),HGC.out.wr HW4.out (fun h=>by have:=(HF.out _ h).2.1;omega),HWT.out⟩;have h9:=HNW.out;rw[if_pos trivial]at h9;exact h9.symm
            case measure=>simp[intOf];omega
           ·go_wp2_with fail;have h9:=HNW.out;rw[if_neg (by decide)]at h9;have H9:=Lib.hid h9;clear h9;refine HQ.out _ _ _ ?_;refine bodyPost_ret (v:= .bool false) (by simp[results,Tryz.results31,go_sem]) rfl ?_;rw[H9.out];exact⟨rfl,HS2.out,HWT.out⟩
          ·obtain rfl:k=c.ins.length:=by omega
           have h9:inssF par c ng nf s0 c.ins=(true,s):=by rw[←HCS.out,drop_nil_of (Nat.le_refl _),inssF]
           have H9:=Lib.hid h9;obtain⟨bb,boff,x,hba,hbb,hbk,b0,_⟩:=(HK.out.below hBw (Nat.le_refl _) (fun _ _ h=>h.below hBw (Nat.le_refl _))).get (show c.ins.length-1<c.ins.length by omega);subst hba;simp only[Nat.add_zero]at b0;have HLST:=Lib.hid (lastB_eq hbk);obtain⟨m,hm⟩:∃m,c.ins.length=m+1:=⟨c.ins.length-1,by omega⟩
           have hm2:c.ins.length-1=m:=by omega
           rw[hm2]at b0;obtain⟨xo,hxo⟩:∃o,o=x.op:=⟨_,rfl⟩
           rw[←hxo]at b0 HLST;have hbbl:bb<wr.heap.size:=by omega
           have hxc:xo=15∨xo=17∨xo=13∨(xo≠15∧xo≠17∧xo≠13):=by omega
           clear h9 hbk hBw hxo hm2;rcases hxc with rfl|rfl|rfl|⟨n1,n2,n3⟩
           all_goals try have e1:(xo==15)=false:=by simpa using n1
           all_goals try have e2:(xo==17)=false:=by simpa using n2
           all_goals try have e3:(xo==13)=false:=by simpa using n3
           all_goals try have HNN:=Lib.hid (And.intro n1 (And.intro n2 n3))
           all_goals try clear n1 n2 n3
           all_goals go_wp2_with fail
           all_goals refine HQ.out _ _ _ ?_
           iterate 3 (·refine bodyPost_ret (v:= .bool true) (by simp[results,Tryz.results31,go_sem]) rfl ?_;rw[H9.out,HLST.out];exact⟨rfl,HIS.out,HWR.out⟩)
           ·refine bodyPost_ret (v:= .bool false) (by simp[results,Tryz.results31,go_sem]) rfl ?_;rw[H9.out,HLST.out,decide_eq_false (fun h=>by rcases h with h|h|h;exact HNN.out.1 h;exact HNN.out.2.1 h;exact HNN.out.2.2 h)];exact⟨rfl,HIS.out,HWR.out⟩
end Go.Proofs.YtlenilbkifofjaaGreatDoor
