/- virt's checks: a call. Conditions: as stated. -/
import Derived.Test.YtinmgbodgecoeaaGreatVAskBZz
set_option linter.unusedSimpArgs false
set_option linter.unusedVariables false
set_option maxHeartbeats 8000000
set_option maxRecDepth 100000
open Go.Proofs.Tryz
namespace Go.Proofs.YtinmgbodgecoeaaGreat
open Go.RowKit
def sB(c:aR)(nf:Int)(x:bg):Bool:=decide (0<=x.n/\x.n<nf)&& mF x.arg c.regs
def NU(PQ:Bool->World->Prop)(c:aR)(nf:Int)(x:bg)(w:World)(e:Ending)(w':World):Prop:=
 ∃b,e= .returned (.bool b)/\(sB c nf x=true/\PQ b w'\/sB c nf x=false/\b=false/\Below w.heap.size w w')
theorem Ay{l:List Int}{nr:Int}{k:Nat}(hk:k<l.length):mF (l.take (k+1)) nr=(mF (l.take k) nr && decide (0<=l[k]/\l[k]<nr)):=by
 unfold mF;rw[List.take_add_one,List.getElem?_eq_getElem hk,List.all_append];simp
theorem FN{l:List Int}{nr:Int}{k:Nat}(hk:k<l.length)(h:¬(0<=l[k]/\l[k]<nr)):mF l nr=false:=by
 unfold mF;rw[List.all_eq_false];exact⟨l[k],List.getElem_mem hk,by simp;omega⟩
theorem aD.at{w:World}{B:Nat}{l:List Int}{A:Option Addr}{n c k:Nat}(h:aD w B l (.slice A n c))(hk:k<l.length):∃b off,A=some ⟨b,off,none⟩/\b<B/\w.cell? ⟨b,off+k,none⟩=some (.int .i64 l[k])/\In64 l[k]:=by
 have hn:=(SliceAt.len h).1;subst hn;obtain⟨b,off,x,h1,h2,h3,h4,h5⟩:=SliceAt.get h hk;rw[List.getElem?_eq_getElem hk]at h3;injection h3 with h3;subst h3;simp only[Nat.mul_one,Nat.add_zero]at h4;exact⟨b,off,h1,h2,h4,h5⟩
theorem Ee(PQ:Bool->World->Prop)(ab:Nat)(c:aR)(LA:Option Addr)(lc:Nat)(BA:Option Addr)(bc:Nat)(nf ng:Int)(cv mv:Value)(x:bg)(A:Option Addr)(aA B:Nat)(w:World)
  (h:tL w ab c LA lc BA bc nf ng (.func (.func 39) #[] #[cv]) mv)(hB:B<=w.heap.size)(hx:aD w B x.arg (.slice A x.arg.length aA))
  (gH:(0<=x.n/\x.n<nf)->∀W,Below w.heap.size w W->Calls prog 39 #[.int .i64 x.n,.int .i64 x.arg.length,cv] W λe w'=>∃b,e= .returned (.bool b)/\PQ b w'):
  Calls prog 98 #[.pointer (some ⟨ab,0,.none⟩),cH x A aA] w λe w'=>NU PQ c nf x w e w':=by
 obtain⟨op,dst,a,b,n,arg⟩:=x;simp only at hx gH;unfold cH;simp only;have r1:w.cell? ⟨ab,1,.none⟩=some (.int .i64 c.regs):=Row.cell h rfl;have r4:w.cell? ⟨ab,4,.none⟩=some (.int .i64 nf):=Row.cell h rfl;have rl:=Row.lt h;have hl:=(SliceAt.len hx).2;have HA:=ae h;have HX:=ae hx;have HP:=ae gH;clear h hx gH;by_cases h0:0<=n/\n<nf
 ·have e0:decide (n<0)=false:=by simp;omega
  have e1:decide (nf<=n)=false:=by simp;omega
  have HC:=ae (show sB c nf ⟨op,dst,a,b,n,arg⟩=mF arg c.regs by unfold sB;rw[decide_eq_true h0,Bool.true_and]);have HP2:=ae (HP.out h0);clear h0 HP;go_enter func98,ntmps98;refine aj λQ HQ=>?_;go_wp2_with fail;go_quiet (fail);go_wp2_with fail;go_loopw [22] (λi wr=>∃k:Nat,i= .int .i64 (k:Nat)/\k<=arg.length/\mF (arg.take k) c.regs=true/\Below w.heap.size w wr/\Row wr w.heap.size #[.int .i64 op,.int .i64 dst,.int .i64 a,.int .i64 b,.int .i64 n,.slice A arg.length aA] 94) (λi _=>arg.length-(intOf i).toNat)
  case atStart=>exact⟨0,rfl,Nat.zero_le _,rfl,below_drewN (ax _ _) _,Row.new _ _ _⟩
  case round=>
   obtain⟨k,rfl,hk,hrg,aJ,hrow⟩:=hrel;have HRG:=ae hrg;have cB:=ae aJ;have dI:=ae hrow;have pS:=aJ.size;have ha:=Row.below HA.out aJ rl;have a1:wr.cell? ⟨ab,1,.none⟩=some (.int .i64 c.regs):=Row.cell ha rfl;have al:=Row.lt ha;have HAW:=ae ha;clear hrg aJ hrow ha;by_cases hlt:k<arg.length
   ·obtain⟨sb,so,rfl,Ey,g0,_⟩:=(HX.below (cB.mono hB) (aY _)).at hlt;have HW:=ae (sY arg[k] c.regs wr);have hkl:(k:Int)<(arg.length:Int):=by omega
    have hsl:sb<wr.heap.size:=by omega
    by_cases hin:0<=arg[k]/\arg[k]<c.regs
    ·have HT:=ae (show mF (arg.take (k+1)) c.regs=true by rw[Ay hlt,HRG.out,decide_eq_true hin];rfl);rw[decide_eq_true hin]at HW;clear hin;go_wp2_with fail;refine HW.mono ?_;rintro e w1 ⟨rfl,rfl⟩;go_wp2_with fail;go_roundw
     case rel=>exact⟨k+1,by go_num,hlt,HT.out,cB.out,dI.out⟩
     case measure=>simp[intOf];omega
    ·have HT:=ae (FN hlt hin);rw[decide_eq_false hin]at HW;clear hin;go_wp2_with fail;refine HW.mono ?_;rintro e w1 ⟨rfl,rfl⟩;go_wp2_with fail;refine HQ _ _ _ ?_;exact aS (v:= .bool false) (by simp[results,results98,go_sem]) rfl ⟨false,rfl,bu ⟨by rw[HC.out,HT.out],rfl,cB.out⟩⟩
   ·obtain rfl:k=arg.length:=by omega
    rw[List.take_length]at HRG;have x4:=dI.cell (j:=4) rfl;have x5:=dI.cell (j:=5) rfl;have xl:=dI.lt;have a6:wr.cell? ⟨ab,6,.none⟩=some (.func (.func 39) #[] #[cv]):=Row.cell HAW.out rfl;have Aa:=ae (HP2.out wr.drew cB.drew);go_wp2_with fail;refine aX 9 (by kernel_rfl) (by kernel_rfl) ?_;simp only[List.take_succ_cons,List.take_zero,List.drop_succ_cons,List.drop_zero]
    repeat(go_big_quiet_step (fail))
    refine wpQuiet_nil ?_;go_wp2_with fail;refine Aa.mono ?_;rintro e w1 ⟨b1,rfl,hpq⟩;have HPQ:=ae hpq;clear hpq;go_wp2_with fail;refine HQ _ _ _ ?_;exact aS (v:= .bool b1) (by simp[results,results98,go_sem]) rfl ⟨b1,rfl,aK ⟨by rw[HC.out,HRG.out],HPQ.out⟩⟩
 ·have hd:decide (n<0)=true\/(decide (n<0)=false/\decide (nf<=n)=true):=by
   by_cases h1:n<0
   ·exact aK (by simpa using h1)
   ·exact bu ⟨by simp;omega,by simp;omega⟩
  have HC:=ae (show sB c nf ⟨op,dst,a,b,n,arg⟩=false by unfold sB;rw[decide_eq_false h0,Bool.false_and]);clear h0;rcases hd with e0|⟨e0,e1⟩
  all_goals
   go_enter func98,ntmps98;refine aj λQ HQ=>?_;go_wp2_with fail;go_quiet (fail);go_wp2_with fail;refine HQ _ _ _ ?_;exact aS (v:= .bool false) (by simp[results,results98,go_sem]) rfl ⟨false,rfl,bu ⟨HC.out,rfl,below_drewN (ax _ _) _⟩⟩
end Go.Proofs.YtinmgbodgecoeaaGreat
