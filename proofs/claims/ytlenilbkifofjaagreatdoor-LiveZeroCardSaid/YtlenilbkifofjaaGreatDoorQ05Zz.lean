/- virt's checks: a call. Conditions: as stated. A function's labels: look-ups that say whether, stores. No condition. virt: a function's labels are laid. Conditions: as stated. -/
import Derived.Test.YtlenilbkifofjaaGreatDoorVAskBZz
import Derived.Test.YtlenilbkifofjaaGreatDoorQ04Zz
import Derived.Test.YtlenilbkifofjaaGreatDoorQ02Zz
import Derived.Test.YtlenilbkifofjaaGreatDoorQ01Zz
import Derived.BigQuiet
import Derived.Maps.Views
import Derived.Deep.QuietTactic
set_option linter.unusedVariables false
set_option linter.unusedSimpArgs false
set_option maxHeartbeats 8000000
set_option maxRecDepth 100000
namespace Go.Proofs.YtlenilbkifofjaaGreatDoor
open Go.RowKit
def callB(c:CodeS)(nf:Int)(x:InsS):Bool:=decide (0≤x.n∧x.n<nf)&& regsB x.arg c.regs
def CallSaysV(PQ:Bool→World→Prop)(c:CodeS)(nf:Int)(x:InsS)(w:World)(e:Ending)(w':World):Prop:=
 ∃b,e= .returned (.bool b)∧(callB c nf x=true∧PQ b w'∨callB c nf x=false∧b=false∧Below w.heap.size w w')
theorem regsB_take{l:List Int}{nr:Int}{k:Nat}(hk:k<l.length):regsB (l.take (k+1)) nr=(regsB (l.take k) nr && decide (0≤l[k]∧l[k]<nr)):=by
 unfold regsB;rw[List.take_add_one,List.getElem?_eq_getElem hk,List.all_append];simp
theorem regsB_no{l:List Int}{nr:Int}{k:Nat}(hk:k<l.length)(h:¬(0≤l[k]∧l[k]<nr)):regsB l nr=false:=by
 unfold regsB;rw[List.all_eq_false];exact⟨l[k],List.getElem_mem hk,by simp;omega⟩
theorem LongsAt.at{w:World}{B:Nat}{l:List Int}{A:Option Addr}{n c k:Nat}(h:LongsAt w B l (.slice A n c))(hk:k<l.length):∃b off,A=some ⟨b,off,none⟩∧b<B∧w.cell? ⟨b,off+k,none⟩=some (.int .i64 l[k])∧In64 l[k]:=by
 have hn:=(SliceAt.len h).1;subst hn;obtain⟨b,off,x,h1,h2,h3,h4,h5⟩:=SliceAt.get h hk;rw[List.getElem?_eq_getElem hk]at h3;injection h3 with h3;subst h3;simp only[Nat.mul_one,Nat.add_zero]at h4;exact⟨b,off,h1,h2,h4,h5⟩
theorem vaskcall_any(PQ:Bool→World→Prop)(ab:Nat)(c:CodeS)(LA:Option Addr)(lc:Nat)(BA:Option Addr)(bc:Nat)(nf ng:Int)(cv mv:Value)(x:InsS)(A:Option Addr)(cap B:Nat)(w:World)
  (h:VAsk w ab c LA lc BA bc nf ng (.func (.func 30) #[] #[cv]) mv)(hB:B≤w.heap.size)(hx:LongsAt w B x.arg (.slice A x.arg.length cap))
  (hpar:(0≤x.n∧x.n<nf)→∀W,Below w.heap.size w W→Calls Tryz.prog 30 #[.int .i64 x.n,.int .i64 x.arg.length,cv] W fun e w'=>∃b,e= .returned (.bool b)∧PQ b w'):
  Calls Tryz.prog 85 #[.pointer (some ⟨ab,0,.none⟩),insV x A cap] w fun e w'=>CallSaysV PQ c nf x w e w':=by
 obtain⟨op,dst,a,b,n,arg⟩:=x;simp only at hx hpar;unfold insV;simp only;have r1:w.cell? ⟨ab,1,.none⟩=some (.int .i64 c.regs):=Row.cell h rfl;have r4:w.cell? ⟨ab,4,.none⟩=some (.int .i64 nf):=Row.cell h rfl;have rl:=Row.lt h;have hl:=(SliceAt.len hx).2;have HA:=Lib.hid h;have HX:=Lib.hid hx;have HP:=Lib.hid hpar;clear h hx hpar;by_cases h0:0≤n∧n<nf
 ·have e0:decide (n<0)=false:=by simp;omega
  have e1:decide (nf≤n)=false:=by simp;omega
  have HC:=Lib.hid (show callB c nf ⟨op,dst,a,b,n,arg⟩=regsB arg c.regs by unfold callB;rw[decide_eq_true h0,Bool.true_and]);have HP2:=Lib.hid (HP.out h0);clear h0 HP;go_enter Tryz.func85,Tryz.ntmps85;refine wp_letter (fun Q hQ=>?_);have HQ:=Lib.hid hQ;clear hQ;go_wp2_with fail;go_quiet (fail);go_wp2_with fail;go_loopw [22] (fun i wr=>∃k:Nat,i= .int .i64 (k:Nat)∧k≤arg.length∧regsB (arg.take k) c.regs=true∧Below w.heap.size w wr∧Row wr w.heap.size #[.int .i64 op,.int .i64 dst,.int .i64 a,.int .i64 b,.int .i64 n,.slice A arg.length cap] 43) (fun i _=>arg.length-(intOf i).toNat)
  case atStart=>exact⟨0,rfl,Nat.zero_le _,rfl,below_drewN (below1 _ _) _,Row.new _ _ _⟩
  case round=>
   obtain⟨k,rfl,hk,hrg,hbw,hrow⟩:=hrel;have HRG:=Lib.hid hrg;have HBW:=Lib.hid hbw;have HROW:=Lib.hid hrow;have hzw:=hbw.size;have ha:=Row.below HA.out hbw rl;have a1:wr.cell? ⟨ab,1,.none⟩=some (.int .i64 c.regs):=Row.cell ha rfl;have al:=Row.lt ha;have HAW:=Lib.hid ha;clear hrg hbw hrow ha;by_cases hlt:k<arg.length
   ·obtain⟨sb,so,rfl,hsb,g0,_⟩:=(HX.out.below (HBW.out.mono hB) (Nat.le_refl _)).at hlt;have HW:=Lib.hid (vwithin_any arg[k] c.regs wr);have hkl:(k:Int)<(arg.length:Int):=by omega
    have hsl:sb<wr.heap.size:=by omega
    by_cases hin:0≤arg[k]∧arg[k]<c.regs
    ·have HT:=Lib.hid (show regsB (arg.take (k+1)) c.regs=true by rw[regsB_take hlt,HRG.out,decide_eq_true hin];rfl);rw[decide_eq_true hin]at HW;clear hin;go_wp2_with fail;refine HW.out.mono ?_;rintro e w1 ⟨rfl,rfl⟩;go_wp2_with fail;go_roundw
     case rel=>exact⟨k+1,by go_num,hlt,HT.out,HBW.out,HROW.out⟩
     case measure=>simp[intOf];omega
    ·have HT:=Lib.hid (regsB_no hlt hin);rw[decide_eq_false hin]at HW;clear hin;go_wp2_with fail;refine HW.out.mono ?_;rintro e w1 ⟨rfl,rfl⟩;go_wp2_with fail;refine HQ.out _ _ _ ?_;exact bodyPost_ret (v:= .bool false) (by simp[results,Tryz.results85,go_sem]) rfl ⟨false,rfl,Or.inr ⟨by rw[HC.out,HT.out],rfl,HBW.out⟩⟩
   ·obtain rfl:k=arg.length:=by omega
    rw[List.take_length]at HRG;have x4:=HROW.out.cell (j:=4) rfl;have x5:=HROW.out.cell (j:=5) rfl;have xl:=HROW.out.lt;have a6:wr.cell? ⟨ab,6,.none⟩=some (.func (.func 30) #[] #[cv]):=Row.cell HAW.out rfl;have HPW:=Lib.hid (HP2.out wr.drew HBW.out.drew);go_wp2_with fail;refine still_tailq 9 (by kernel_rfl) (by kernel_rfl) ?_;simp only[List.take_succ_cons,List.take_zero,List.drop_succ_cons,List.drop_zero]
    repeat(go_big_quiet_step (fail))
    refine wpQuiet_nil ?_;go_wp2_with fail;refine HPW.out.mono ?_;rintro e w1 ⟨b1,rfl,hpq⟩;have HPQ:=Lib.hid hpq;clear hpq;go_wp2_with fail;refine HQ.out _ _ _ ?_;exact bodyPost_ret (v:= .bool b1) (by simp[results,Tryz.results85,go_sem]) rfl ⟨b1,rfl,Or.inl ⟨by rw[HC.out,HRG.out],HPQ.out⟩⟩
 ·have hd:decide (n<0)=true∨(decide (n<0)=false∧decide (nf≤n)=true):=by
   by_cases h1:n<0
   ·exact Or.inl (by simpa using h1)
   ·exact Or.inr ⟨by simp;omega,by simp;omega⟩
  have HC:=Lib.hid (show callB c nf ⟨op,dst,a,b,n,arg⟩=false by unfold callB;rw[decide_eq_false h0,Bool.false_and]);clear h0;rcases hd with e0|⟨e0,e1⟩
  all_goals
   go_enter Tryz.func85,Tryz.ntmps85;refine wp_letter (fun Q hQ=>?_);have HQ:=Lib.hid hQ;clear hQ;go_wp2_with fail;go_quiet (fail);go_wp2_with fail;refine HQ.out _ _ _ ?_;exact bodyPost_ret (v:= .bool false) (by simp[results,Tryz.results85,go_sem]) rfl ⟨false,rfl,Or.inr ⟨HC.out,rfl,below_drewN (below1 _ _) _⟩⟩
end Go.Proofs.YtlenilbkifofjaaGreatDoor
namespace Go.Proofs.YtlenilbkifofjaaGreatDoor
open Go.RowKit Go.Maps
theorem still_allq{P:Program}{id:Nat}{Q:Exit→Act→World→Prop}{a:Act}{w:World}{l:List Oper}(hm:P.follows .mixedOrders=true)(hB:Region.lexB .any l.toArray=true)
  (h:wpQuiet P l.toArray (fun w'=>w'=w.drew) (fun a'=>Q .normal a' w.drew) l a):(Code.region id l.toArray true).wp P Q a w:=
 wp_region_still_lit hm hB (still_of_quiet h)
theorem LabM.look2{w:World}{b n:Nat}{f:Int→Option Nat}(h:LabM w b n f){k:Int}(hk:In64 k):(Instr.lookup 86 (.map (some b)) (.int .i64 k) true).run Tryz.prog w= .ok (.tuple #[.int .i64 ((f k).getD 0:Nat),.bool (f k).isSome]) w:=by
 obtain⟨D,h1,h2⟩:=h;obtain⟨v,ps,hrun,hR⟩:=h1.look_ok lab_law Tryz.underlying86 (lab_zero w) (plainElem_int Tryz.underlying3 (a:=0) rfl) (lab_key hk);obtain⟨a,rfl,hz,_⟩:=plainElem_int_inv Tryz.underlying3 hR;obtain⟨h3,h4⟩:=h2 k hk;have he:D.atKey (.int .i64 k) (.lit (.int .i64 0))= .lit (.int .i64 a):=congrArg Prod.fst hz;rw[h4]at he;injection he with he;injection he with _ he;rw[hrun,h3,he]
theorem labD_put{f:Int→Option Nat}{D:DataW Unit}(hD:IsMap D)(h:LabD f D){k:Int}(v:Nat){g:Int→Option Nat}(hg:g k=some v)(ho:∀j,j≠k→g j=f j):LabD g (D.put (.int .i64 k) (.lit (.int .i64 (v:Nat)))):=by
 have hkl:WideAt.IsKeyLit (.int .i64 k):=trivial;intro j hj;by_cases e:j=k
 ·subst e;rw[hg];exact⟨has_put_same hD hkl _,atKey_put_same hD hkl _ _⟩
 ·have hne:(Lit.int .i64 j)≠Lit.int .i64 k:=fun h=>by injection h with _ h;exact e h
  rw[ho j e];exact⟨(has_put_other hne _).trans (h j hj).1,(atKey_put_other hne _ _).trans (h j hj).2⟩
theorem LabM.congr{w:World}{b n:Nat}{f g:Int→Option Nat}(h:LabM w b n f)(hg:∀j,g j=f j):LabM w b n g:=by
 rw[show g=f from funext hg];exact h
theorem LabM.mono{w:World}{b n m:Nat}{f:Int→Option Nat}(h:LabM w b n f)(hn:n≤m):LabM w b m f:=by
 obtain⟨D,h1,h2⟩:=h;exact⟨D,h1.mono hn,h2⟩
theorem labO_some{l:List InsS}{n:Int}:(labO l n).isSome=labI l n:=by
 unfold labO;cases h:labI l n<;>simp
theorem layB_step{l r:List InsS}{x:InsS}(h:x.op≠14):layB l (x::r)=layB (l++[x]) r:=by
 rw[layB,decide_eq_true h];rfl
theorem layB_no{l r:List InsS}{x:InsS}(h:x.op=14)(h':labI l x.n=true∨x.n<0∨8000≤x.n):layB l (x::r)=false:=by
 rw[layB,decide_eq_false (by omega),Bool.false_or];rcases h' with h'|h'
 ·rw[h'];rfl
 ·rw[decide_eq_false (by omega),Bool.and_false];rfl
theorem layB_yes{l r:List InsS}{x:InsS}(h:x.op=14)(h1:labI l x.n=false)(h2:0≤x.n)(h3:x.n<8000):layB l (x::r)=layB (l++[x]) r:=by
 rw[layB,h1];simp[h2,h3]
def LaySays(ab:Nat)(l:List InsS)(zz0 zz1 zz2 zz3 zz4 zz5 zz6:Value)(w:World)(e:Ending)(w':World):Prop:=
 e= .returned (.bool (layB [] l))∧∃mb n,w.heap.size≤mb∧n≤l.length∧Row w' ab #[zz0,zz1,zz2,zz3,zz4,zz5,zz6,.map (some mb)] 88∧Wr (fun k=>k=ab) w w'∧mb<w'.heap.size∧(layB [] l=true→LabM w' mb n (labO l))
theorem vlay_any(base ab:Nat)(l:List InsS)(BA:Option Addr)(bcap:Nat)(zz0 zz1 zz2 zz4 zz5 zz6 zz7:Value)(w:World)(hr:Row w ab #[zz0,zz1,zz2,.slice BA l.length bcap,zz4,zz5,zz6,zz7] 88)(hl:SliceAt w base 6 (InsE w base) l (.slice BA l.length bcap))(hab:base≤ab)(hlen:l.length≤8000):
  Calls Tryz.prog 46 #[.pointer (some ⟨ab,0,none⟩)] w fun e w'=>LaySays ab l zz0 zz1 zz2 (.slice BA l.length bcap) zz4 zz5 zz6 w e w':=by
 have hrl:=hr.lt;have hbs:base≤w.heap.size:=by omega
 have hmm:=@run_makeMap Tryz.prog;have hr2:=(hr.set 7 (.map (some w.heap.size))).alloc (.map #[] 0);have r3:=hr.cell (j:=3) rfl;have r7:=hr.cell (j:=7) rfl;have f7:=hr.free 7;have s3:=hr2.cell (j:=3) rfl;have HR2:=Lib.hid hr2;have HW2:=Lib.hid ((Wr.cell1 w ab 7 (.map (some w.heap.size))).allocR (.map #[] 0));have HM2:=Lib.hid (by simpa using LabM.made (w.setCell ⟨ab,7,none⟩ (.map (some w.heap.size))):LabM ((w.setCell ⟨ab,7,none⟩ (.map (some w.heap.size))).alloc (.map #[] 0)) w.heap.size 0 (fun _=>none));have HL:=Lib.hid hl;clear hr hr2 hl;go_enter Tryz.func46,Tryz.ntmps46;refine wp_letter (fun Q hQ=>?_);have HQ:=Lib.hid hQ;clear hQ;go_wp2_with fail
 go_loopw [17] (fun i wr=>∃k n,i= .int .i64 (k:Nat)∧k≤l.length∧n≤k∧layB (l.take k) (l.drop k)=layB [] l∧Row wr ab #[zz0,zz1,zz2,.slice BA l.length bcap,zz4,zz5,zz6,.map (some w.heap.size)] 88∧LabM wr w.heap.size n (labO (l.take k))∧Wr (fun k=>k=ab) w wr) (fun i _=>l.length-(intOf i).toNat)
 case atStart=>exact⟨0,0,rfl,Nat.zero_le _,Nat.le_refl _,rfl,HR2.out,HM2.out.congr (fun j=>rfl),HW2.out⟩
 case round=>
  obtain⟨k,n,rfl,hk,hn,hlay,hr,hm,hw⟩:=hrel;have HR:=Lib.hid hr;have HM:=Lib.hid hm;have HW:=Lib.hid hw;have HLAY:=Lib.hid hlay;have hzw:=hw.size;by_cases hlt:k<l.length
  ·have hbw:Below base w wr:=hw.below hbs (fun k hk=>by have e:k=ab:=hk;omega);obtain⟨bb,boff,x,rfl,hbb,hbk,b0,b1,b2,b3,b4,⟨sv,b5,hst⟩,hx0,hx1,hx2,hx3,hx4⟩:=(HL.out.below hbw (Nat.le_refl _) (fun _ _ h=>h.below hbw (Nat.le_refl _))).get hlt;simp only[Nat.add_zero]at b0 b1 b2 b3 b4 b5;obtain⟨SA,scap,hsv⟩:∃SA scap,sv= .slice SA x.arg.length scap:=(by obtain⟨A',c',h,_⟩:=hst;exact⟨_,_,h⟩)
   subst hsv;have HX:=Lib.hid hx4;have hkb:(k:Int)<(l.length:Int):=by omega
   have hbbl:bb<wr.heap.size:=by omega
   have hdrop:=drop_cons hbk;have htake:l.take (k+1)=l.take k++[x]:=take_succ_of hbk;have hlen1:(l.take k).length=k:=by rw[List.length_take];omega
   have HDT:=Lib.hid (And.intro hdrop (And.intro htake hlen1));have HXW:=Lib.hid (Row.new wr #[.int .i64 x.op,.int .i64 x.dst,.int .i64 x.a,.int .i64 x.b,.int .i64 x.n,.slice SA x.arg.length scap] 43);have HRW:=Lib.hid (hr.alloc (.cells #[.int .i64 x.op,.int .i64 x.dst,.int .i64 x.a,.int .i64 x.b,.int .i64 x.n,.slice SA x.arg.length scap] 43));have HMW:=Lib.hid (hm.below (below1 wr (.cells #[.int .i64 x.op,.int .i64 x.dst,.int .i64 x.a,.int .i64 x.b,.int .i64 x.n,.slice SA x.arg.length scap] 43)));have HWW:=Lib.hid (hw.allocR (.cells #[.int .i64 x.op,.int .i64 x.dst,.int .i64 x.a,.int .i64 x.b,.int .i64 x.n,.slice SA x.arg.length scap] 43));by_cases hop:x.op=14
   ·have HOP:=Lib.hid hop;have hcase:(labI (l.take k) x.n=true)∨(labI (l.take k) x.n=false∧decide (x.n<0)=true)∨(labI (l.take k) x.n=false∧decide (x.n<0)=false∧decide (8000≤x.n)=true)∨(labI (l.take k) x.n=false∧decide (x.n<0)=false∧decide (8000≤x.n)=false):=by
     cases labI (l.take k) x.n<;>cases decide (x.n<0)<;>cases decide (8000≤x.n)<;>simp
    clear hr hm hw hlay hbk hst hdrop htake hlen1 hbw hx0 hx1 hx2 hx3 hx4;rcases hcase with hv|⟨hv,e0⟩|⟨hv,e0,e1⟩|⟨hv,e0,e1⟩
    ·have HV:=Lib.hid hv;have HNO:=Lib.hid (show layB [] l=false by rw[←HLAY.out,HDT.out.1,layB_no HOP.out (Or.inl HV.out)]);clear hv;go_wp2_with fail;obtain⟨w1,hw1⟩:∃w1,w1=wr.alloc (.cells #[.int .i64 x.op,.int .i64 x.dst,.int .i64 x.a,.int .i64 x.b,.int .i64 x.n,.slice SA x.arg.length scap] 43):=⟨_,rfl⟩
     rw[←hw1]at HXW HRW HMW HWW;rw[hop]at hw1;rw[←hw1];clear hw1 hop;have x4:=HXW.out.cell (j:=4) rfl;have xl:=HXW.out.lt;have a7:=HRW.out.cell (j:=7) rfl;have al:=HRW.out.lt;have hlk:=(HMW.out.below (Below.refl _ _).drew).look2 HX.out;rw[labO_some,HV.out]at hlk;refine still_allq (by kernel_rfl) (by kernel_rfl) ?_
     repeat(go_big_quiet_step (fail))
     refine wpQuiet_nil ?_;go_wp2_with fail;refine HQ.out _ _ _ ?_;refine bodyPost_ret (v:= .bool false) (by simp[results,Tryz.results46,go_sem]) rfl ?_;exact⟨by rw[HNO.out],w.heap.size,n,Nat.le_refl _,by omega,HRW.out.drew,HWW.out.drewR,by have:=HMW.out.lt;simpa using this,fun h=>by rw[HNO.out]at h;cases h⟩
    ·have HV:=Lib.hid hv;have HNO:=Lib.hid (show layB [] l=false by rw[←HLAY.out,HDT.out.1,layB_no HOP.out (Or.inr (Or.inl (by simpa using e0)))]);clear hv;go_wp2_with fail;obtain⟨w1,hw1⟩:∃w1,w1=wr.alloc (.cells #[.int .i64 x.op,.int .i64 x.dst,.int .i64 x.a,.int .i64 x.b,.int .i64 x.n,.slice SA x.arg.length scap] 43):=⟨_,rfl⟩
     rw[←hw1]at HXW HRW HMW HWW;rw[hop]at hw1;rw[←hw1];clear hw1 hop;have x4:=HXW.out.cell (j:=4) rfl;have xl:=HXW.out.lt;have a7:=HRW.out.cell (j:=7) rfl;have al:=HRW.out.lt;have hlk:=(HMW.out.below (Below.refl _ _).drew).look2 HX.out;rw[labO_some,HV.out]at hlk;refine still_allq (by kernel_rfl) (by kernel_rfl) ?_
     repeat(go_big_quiet_step (fail))
     refine wpQuiet_nil ?_;go_wp2_with fail;refine HQ.out _ _ _ ?_;refine bodyPost_ret (v:= .bool false) (by simp[results,Tryz.results46,go_sem]) rfl ?_;exact⟨by rw[HNO.out],w.heap.size,n,Nat.le_refl _,by omega,HRW.out.drew,HWW.out.drewR,by have:=HMW.out.lt;simpa using this,fun h=>by rw[HNO.out]at h;cases h⟩
    ·have HV:=Lib.hid hv;have HNO:=Lib.hid (show layB [] l=false by rw[←HLAY.out,HDT.out.1,layB_no HOP.out (Or.inr (Or.inr (by simpa using e1)))]);clear hv;go_wp2_with fail;obtain⟨w1,hw1⟩:∃w1,w1=wr.alloc (.cells #[.int .i64 x.op,.int .i64 x.dst,.int .i64 x.a,.int .i64 x.b,.int .i64 x.n,.slice SA x.arg.length scap] 43):=⟨_,rfl⟩
     rw[←hw1]at HXW HRW HMW HWW;rw[hop]at hw1;rw[←hw1];clear hw1 hop;have x4:=HXW.out.cell (j:=4) rfl;have xl:=HXW.out.lt;have a7:=HRW.out.cell (j:=7) rfl;have al:=HRW.out.lt;have hlk:=(HMW.out.below (Below.refl _ _).drew).look2 HX.out;rw[labO_some,HV.out]at hlk;refine still_allq (by kernel_rfl) (by kernel_rfl) ?_
     repeat(go_big_quiet_step (fail))
     refine wpQuiet_nil ?_;go_wp2_with fail;refine HQ.out _ _ _ ?_;refine bodyPost_ret (v:= .bool false) (by simp[results,Tryz.results46,go_sem]) rfl ?_;exact⟨by rw[HNO.out],w.heap.size,n,Nat.le_refl _,by omega,HRW.out.drew,HWW.out.drewR,by have:=HMW.out.lt;simpa using this,fun h=>by rw[HNO.out]at h;cases h⟩
    ·have HV:=Lib.hid hv;have HYES:=Lib.hid (show layB (l.take k++[x]) (l.drop (k+1))=layB [] l by rw[←HLAY.out,HDT.out.1,layB_yes HOP.out HV.out (by simpa using e0) (by simpa using e1)]);clear hv;go_wp2_with fail;obtain⟨w1,hw1⟩:∃w1,w1=wr.alloc (.cells #[.int .i64 x.op,.int .i64 x.dst,.int .i64 x.a,.int .i64 x.b,.int .i64 x.n,.slice SA x.arg.length scap] 43):=⟨_,rfl⟩
     rw[←hw1]at HXW HRW HMW HWW;rw[hop]at hw1;rw[←hw1];clear hw1 hop;have x4:=HXW.out.cell (j:=4) rfl;have xl:=HXW.out.lt;have a7:=HRW.out.cell (j:=7) rfl;have al:=HRW.out.lt;have hlk:=(HMW.out.below (Below.refl _ _).drew).look2 HX.out;rw[labO_some,HV.out]at hlk;refine still_allq (by kernel_rfl) (by kernel_rfl) ?_
     repeat(go_big_quiet_step (fail))
     refine wpQuiet_nil ?_;go_wp2_with fail;obtain⟨D,hown,hD⟩:=HMW.out.below (Below.refl _ _).drew.drew;have HXIN:=Lib.hid HX.out;refine still_tailq 7 (by kernel_rfl) (by kernel_rfl) ?_;simp only[List.take_succ_cons,List.take_zero,List.drop_succ_cons,List.drop_zero]
     repeat(go_big_quiet_step (fail))
     refine wpQuiet_nil ?_;go_wp2_with(first|(at_mapUpdate;refine wpList_mapUpdate_own _ rfl _ _ _ 86 rfl 2 3 lab_law Tryz.underlying86 _ w.heap.size n _ rfl hown (by unfold maxLen;omega) _ _ _ rfl rfl (lab_key HXIN.out) _ [] (plainElem_int Tryz.underlying3 (WalkArith.wf_i64 (by omega))) ?_)|go_in);intro w2 hown2 hg2;have hD2:=labD_put (g:=labO (l.take (k+1))) hown.isMap hD k (by rw[HDT.out.2.1,labO_new HV.out HOP.out,HDT.out.2.2]) (fun j hj=>by rw[HDT.out.2.1,labO_other (fun h=>hj h.2.symm)]);have hwg:=Wr.grown (F:=fun i=>i=w.heap.size) hg2 (fun k hk=>by cases hk;rfl);have HR9:=Lib.hid ((HRW.out.drew.drew).wr hwg (by omega));have HM9:=Lib.hid (⟨_,hown2,hD2⟩:LabM w2 w.heap.size (n+1) (labO (l.take (k+1))));have HW9:=Lib.hid (HWW.out.drewR.drewR.trans hwg (fun i hi=>Or.inr (by have:i=w.heap.size:=hi;omega)))
     clear hown hD hown2 hg2 hD2 hwg;go_wp2_with fail;go_roundw
     case rel=>exact⟨k+1,n+1,by go_num,hlt,by omega,by rw[HDT.out.2.1];exact HYES.out,HR9.out,HM9.out,HW9.out⟩
     case measure=>simp[intOf];omega
   ·clear hr hm hw hlay hbk hst hdrop htake hlen1 hbw hx0 hx1 hx2 hx3 hx4;go_wp2_with fail;go_roundw
    case rel=>
     refine⟨k+1,n,by go_num,hlt,by omega,?_,HRW.out,HMW.out.congr (fun j=>?_),HWW.out⟩
     ·rw[HDT.out.2.1,←layB_step hop,←HDT.out.1];exact HLAY.out
     ·rw[HDT.out.2.1,labO_other (fun h=>hop h.1)]
    case measure=>simp[intOf];omega
  ·obtain rfl:k=l.length:=by omega
   rw[List.take_length,List.drop_length]at hlay;rw[List.take_length]at hm;have HM':=Lib.hid hm;have hyes:layB [] l=true:=by rw[←hlay,layB]
   have HY:=Lib.hid hyes;clear hr hm hw hlay hyes;go_wp2_with fail;refine HQ.out _ _ _ ?_;refine bodyPost_ret (v:= .bool true) (by simp[results,Tryz.results46,go_sem]) rfl ?_;exact⟨by rw[HY.out],w.heap.size,n,Nat.le_refl _,hn,HR.out,HW.out,HM'.out.lt,fun _=>HM'.out⟩
end Go.Proofs.YtlenilbkifofjaaGreatDoor
