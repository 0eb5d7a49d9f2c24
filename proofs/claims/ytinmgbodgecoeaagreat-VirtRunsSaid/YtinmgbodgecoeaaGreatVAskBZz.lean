/- virt's checks: what an op names; a register. Conditions: as stated. -/
import Derived.Test.YtinmgbodgecoeaaGreatQ11Zz
set_option linter.unusedSimpArgs false
set_option linter.unusedVariables false
set_option maxHeartbeats 8000000
set_option maxRecDepth 100000
open Go.Proofs.Tryz
namespace Go.Proofs.YtinmgbodgecoeaaGreat
open Go.RowKit
def aI(x:bg):Bool×Bool×Bool×Bool×Bool:=(aP x).getD (false,false,false,false,false)
def cu(x:bg)(w:World)(e:Ending)(w':World):Prop:=
 e= .returned (.tuple #[.agg #[.bool (aI x).1,.bool (aI x).2.1,.bool (aI x).2.2.1,.bool (aI x).2.2.2.1,.bool (aI x).2.2.2.2],.bool (aP x).isSome])/\Below w.heap.size w w'
def cH(x:bg)(A:Option Addr)(c:Nat):Value:= .agg #[.int .i64 x.op,.int .i64 x.dst,.int .i64 x.a,.int .i64 x.b,.int .i64 x.n,.slice A x.arg.length c]
theorem I7(x:bg)(A:Option Addr)(c:Nat)(w:World):Calls prog 76 #[cH x A c] w λe w'=>cu x w e w':=by
 obtain⟨op,dst,a,b,n,arg⟩:=x;obtain⟨m,hm⟩:∃m,m=arg.length:=⟨_,rfl⟩
 unfold cH;simp only[<-hm];have h:op=1\/op=2\/op=3\/op=4\/op=5\/op=6\/op=7\/op=8\/op=9\/op=10\/op=11\/op=12\/op=13\/op=14\/op=15\/op=16\/op=17\/(op≠1/\op≠2/\op≠3/\op≠4/\op≠5/\op≠6/\op≠7/\op≠8/\op≠9/\op≠10/\op≠11/\op≠12/\op≠13/\op≠14/\op≠15/\op≠16/\op≠17):=by omega
 rcases h with rfl|rfl|rfl|rfl|rfl|rfl|rfl|rfl|rfl|rfl|rfl|rfl|rfl|rfl|rfl|rfl|rfl|⟨h1,h2,h3,h4,h5,h6,h7,h8,h9,h10,h11,h12,Lx,Bk,iC,mL,p8⟩
 ·have e:aI ⟨1,dst,a,b,n,arg⟩=(true,false,false,true,false)/\(aP ⟨1,dst,a,b,n,arg⟩).isSome=true:=by simp[aI,aP]
  unfold cu;rw[e.1,e.2];clear e;go_enter func76,ntmps76;refine aj λQ HQ=>?_;go_wp2_with fail;refine HQ _ _ _ ?_;exact aS (v:= .tuple #[.agg #[.bool true,.bool false,.bool false,.bool true,.bool false],.bool true]) (by simp[results,results76,go_sem]) rfl ⟨rfl,aB _ _ _⟩
 ·have e:aI ⟨2,dst,a,b,n,arg⟩=(true,true,false,false,false)/\(aP ⟨2,dst,a,b,n,arg⟩).isSome=true:=by simp[aI,aP]
  unfold cu;rw[e.1,e.2];clear e;go_enter func76,ntmps76;refine aj λQ HQ=>?_;go_wp2_with fail;refine HQ _ _ _ ?_;exact aS (v:= .tuple #[.agg #[.bool true,.bool true,.bool false,.bool false,.bool false],.bool true]) (by simp[results,results76,go_sem]) rfl ⟨rfl,aB _ _ _⟩
 ·have e:aI ⟨3,dst,a,b,n,arg⟩=(true,false,false,true,false)/\(aP ⟨3,dst,a,b,n,arg⟩).isSome=true:=by simp[aI,aP]
  unfold cu;rw[e.1,e.2];clear e;go_enter func76,ntmps76;refine aj λQ HQ=>?_;go_wp2_with fail;refine HQ _ _ _ ?_;exact aS (v:= .tuple #[.agg #[.bool true,.bool false,.bool false,.bool true,.bool false],.bool true]) (by simp[results,results76,go_sem]) rfl ⟨rfl,aB _ _ _⟩
 ·have e:aI ⟨4,dst,a,b,n,arg⟩=(true,false,false,true,false)/\(aP ⟨4,dst,a,b,n,arg⟩).isSome=true:=by simp[aI,aP]
  unfold cu;rw[e.1,e.2];clear e;go_enter func76,ntmps76;refine aj λQ HQ=>?_;go_wp2_with fail;refine HQ _ _ _ ?_;exact aS (v:= .tuple #[.agg #[.bool true,.bool false,.bool false,.bool true,.bool false],.bool true]) (by simp[results,results76,go_sem]) rfl ⟨rfl,aB _ _ _⟩
 ·have e:aI ⟨5,dst,a,b,n,arg⟩=(true,true,true,true,false)/\(aP ⟨5,dst,a,b,n,arg⟩).isSome=true:=by simp[aI,aP]
  unfold cu;rw[e.1,e.2];clear e;go_enter func76,ntmps76;refine aj λQ HQ=>?_;go_wp2_with fail;refine HQ _ _ _ ?_;exact aS (v:= .tuple #[.agg #[.bool true,.bool true,.bool true,.bool true,.bool false],.bool true]) (by simp[results,results76,go_sem]) rfl ⟨rfl,aB _ _ _⟩
 ·have e:aI ⟨6,dst,a,b,n,arg⟩=(true,true,false,true,true)/\(aP ⟨6,dst,a,b,n,arg⟩).isSome=true:=by simp[aI,aP]
  unfold cu;rw[e.1,e.2];clear e;go_enter func76,ntmps76;refine aj λQ HQ=>?_;go_wp2_with fail;refine HQ _ _ _ ?_;exact aS (v:= .tuple #[.agg #[.bool true,.bool true,.bool false,.bool true,.bool true],.bool true]) (by simp[results,results76,go_sem]) rfl ⟨rfl,aB _ _ _⟩
 ·have e:aI ⟨7,dst,a,b,n,arg⟩=(true,true,false,true,false)/\(aP ⟨7,dst,a,b,n,arg⟩).isSome=true:=by simp[aI,aP]
  unfold cu;rw[e.1,e.2];clear e;go_enter func76,ntmps76;refine aj λQ HQ=>?_;go_wp2_with fail;refine HQ _ _ _ ?_;exact aS (v:= .tuple #[.agg #[.bool true,.bool true,.bool false,.bool true,.bool false],.bool true]) (by simp[results,results76,go_sem]) rfl ⟨rfl,aB _ _ _⟩
 ·have e:aI ⟨8,dst,a,b,n,arg⟩=(true,true,false,true,false)/\(aP ⟨8,dst,a,b,n,arg⟩).isSome=true:=by simp[aI,aP]
  unfold cu;rw[e.1,e.2];clear e;go_enter func76,ntmps76;refine aj λQ HQ=>?_;go_wp2_with fail;refine HQ _ _ _ ?_;exact aS (v:= .tuple #[.agg #[.bool true,.bool true,.bool false,.bool true,.bool false],.bool true]) (by simp[results,results76,go_sem]) rfl ⟨rfl,aB _ _ _⟩
 ·have e:aI ⟨9,dst,a,b,n,arg⟩=(true,true,false,true,false)/\(aP ⟨9,dst,a,b,n,arg⟩).isSome=true:=by simp[aI,aP]
  unfold cu;rw[e.1,e.2];clear e;go_enter func76,ntmps76;refine aj λQ HQ=>?_;go_wp2_with fail;refine HQ _ _ _ ?_;exact aS (v:= .tuple #[.agg #[.bool true,.bool true,.bool false,.bool true,.bool false],.bool true]) (by simp[results,results76,go_sem]) rfl ⟨rfl,aB _ _ _⟩
 ·by_cases hd:dst= -1
  ·subst hd;have e:aI ⟨10,-1,a,b,n,arg⟩=(false,false,false,true,true)/\(aP ⟨10,-1,a,b,n,arg⟩).isSome=true:=by simp[aI,aP]
   unfold cu;rw[e.1,e.2];clear e;go_enter func76,ntmps76;refine aj λQ HQ=>?_;go_wp2_with fail;refine HQ _ _ _ ?_;exact aS (v:= .tuple #[.agg #[.bool false,.bool false,.bool false,.bool true,.bool true],.bool true]) (by simp[results,results76,go_sem]) rfl ⟨rfl,aB _ _ _⟩
  ·have hb:(dst== -1)=false:=by simpa using hd
   have e:aI ⟨10,dst,a,b,n,arg⟩=(true,false,false,true,true)/\(aP ⟨10,dst,a,b,n,arg⟩).isSome=true:=by simp[aI,aP,hd]
   unfold cu;rw[e.1,e.2];clear e;have HD:=ae hd;clear hd;go_enter func76,ntmps76;refine aj λQ HQ=>?_;go_wp2_with fail;refine HQ _ _ _ ?_;exact aS (v:= .tuple #[.agg #[.bool true,.bool false,.bool false,.bool true,.bool true],.bool true]) (by simp[results,results76,go_sem,HD.out]) rfl ⟨rfl,aB _ _ _⟩
 ·have e:aI ⟨11,dst,a,b,n,arg⟩=(false,true,false,false,false)/\(aP ⟨11,dst,a,b,n,arg⟩).isSome=true:=by simp[aI,aP]
  unfold cu;rw[e.1,e.2];clear e;go_enter func76,ntmps76;refine aj λQ HQ=>?_;go_wp2_with fail;refine HQ _ _ _ ?_;exact aS (v:= .tuple #[.agg #[.bool false,.bool true,.bool false,.bool false,.bool false],.bool true]) (by simp[results,results76,go_sem]) rfl ⟨rfl,aB _ _ _⟩
 ·have e:aI ⟨12,dst,a,b,n,arg⟩=(true,false,false,false,false)/\(aP ⟨12,dst,a,b,n,arg⟩).isSome=true:=by simp[aI,aP]
  unfold cu;rw[e.1,e.2];clear e;go_enter func76,ntmps76;refine aj λQ HQ=>?_;go_wp2_with fail;refine HQ _ _ _ ?_;exact aS (v:= .tuple #[.agg #[.bool true,.bool false,.bool false,.bool false,.bool false],.bool true]) (by simp[results,results76,go_sem]) rfl ⟨rfl,aB _ _ _⟩
 ·have e:aI ⟨13,dst,a,b,n,arg⟩=(false,true,false,false,false)/\(aP ⟨13,dst,a,b,n,arg⟩).isSome=true:=by simp[aI,aP]
  unfold cu;rw[e.1,e.2];clear e;go_enter func76,ntmps76;refine aj λQ HQ=>?_;go_wp2_with fail;refine HQ _ _ _ ?_;exact aS (v:= .tuple #[.agg #[.bool false,.bool true,.bool false,.bool false,.bool false],.bool true]) (by simp[results,results76,go_sem]) rfl ⟨rfl,aB _ _ _⟩
 ·have e:aI ⟨14,dst,a,b,n,arg⟩=(false,false,false,true,false)/\(aP ⟨14,dst,a,b,n,arg⟩).isSome=true:=by simp[aI,aP]
  unfold cu;rw[e.1,e.2];clear e;go_enter func76,ntmps76;refine aj λQ HQ=>?_;go_wp2_with fail;refine HQ _ _ _ ?_;exact aS (v:= .tuple #[.agg #[.bool false,.bool false,.bool false,.bool true,.bool false],.bool true]) (by simp[results,results76,go_sem]) rfl ⟨rfl,aB _ _ _⟩
 ·have e:aI ⟨15,dst,a,b,n,arg⟩=(false,false,false,true,false)/\(aP ⟨15,dst,a,b,n,arg⟩).isSome=true:=by simp[aI,aP]
  unfold cu;rw[e.1,e.2];clear e;go_enter func76,ntmps76;refine aj λQ HQ=>?_;go_wp2_with fail;refine HQ _ _ _ ?_;exact aS (v:= .tuple #[.agg #[.bool false,.bool false,.bool false,.bool true,.bool false],.bool true]) (by simp[results,results76,go_sem]) rfl ⟨rfl,aB _ _ _⟩
 ·have e:aI ⟨16,dst,a,b,n,arg⟩=(false,true,false,true,false)/\(aP ⟨16,dst,a,b,n,arg⟩).isSome=true:=by simp[aI,aP]
  unfold cu;rw[e.1,e.2];clear e;go_enter func76,ntmps76;refine aj λQ HQ=>?_;go_wp2_with fail;refine HQ _ _ _ ?_;exact aS (v:= .tuple #[.agg #[.bool false,.bool true,.bool false,.bool true,.bool false],.bool true]) (by simp[results,results76,go_sem]) rfl ⟨rfl,aB _ _ _⟩
 ·have e:aI ⟨17,dst,a,b,n,arg⟩=(false,true,false,false,false)/\(aP ⟨17,dst,a,b,n,arg⟩).isSome=true:=by simp[aI,aP]
  unfold cu;rw[e.1,e.2];clear e;go_enter func76,ntmps76;refine aj λQ HQ=>?_;go_wp2_with fail;refine HQ _ _ _ ?_;exact aS (v:= .tuple #[.agg #[.bool false,.bool true,.bool false,.bool false,.bool false],.bool true]) (by simp[results,results76,go_sem]) rfl ⟨rfl,aB _ _ _⟩
 ·have e:aI ⟨op,dst,a,b,n,arg⟩=(false,false,false,false,false)/\(aP ⟨op,dst,a,b,n,arg⟩).isSome=false:=by simp[aI,aP,h1,h2,h3,h4,h5,h6,h7,h8,h9,h10,h11,h12,Lx,Bk,iC,mL,p8]
  unfold cu;rw[e.1,e.2];clear e;have e1:(op==1)=false:=by simpa using h1
  have e2:(op==2)=false:=by simpa using h2
  have e3:(op==3)=false:=by simpa using h3
  have e4:(op==4)=false:=by simpa using h4
  have e5:(op==5)=false:=by simpa using h5
  have e6:(op==6)=false:=by simpa using h6
  have e7:(op==7)=false:=by simpa using h7
  have e8:(op==8)=false:=by simpa using h8
  have e9:(op==9)=false:=by simpa using h9
  have e10:(op==10)=false:=by simpa using h10
  have e11:(op==11)=false:=by simpa using h11
  have e12:(op==12)=false:=by simpa using h12
  have e13:(op==13)=false:=by simpa using Lx
  have SK:(op==14)=false:=by simpa using Bk
  have Z8:(op==15)=false:=by simpa using iC
  have e16:(op==16)=false:=by simpa using mL
  have e17:(op==17)=false:=by simpa using p8
  clear h1 h2 h3 h4 h5 h6 h7 h8 h9 h10 h11 h12 Lx Bk iC mL p8;go_enter func76,ntmps76;refine aj λQ HQ=>?_;go_wp2_with fail;refine HQ _ _ _ ?_;exact aS (v:= .tuple #[.agg #[.bool false,.bool false,.bool false,.bool false,.bool false],.bool false]) (by simp[results,results76,go_sem]) rfl ⟨rfl,aB _ _ _⟩
def tL(w:World)(ab:Nat)(c:aR)(LA:Option Addr)(lc:Nat)(BA:Option Addr)(bc:Nat)(nf ng:Int)(pv mv:Value):Prop:=
 Row w ab #[.int .i64 c.params,.int .i64 c.regs,.slice LA c.az.length lc,.slice BA c.ins.length bc,.int .i64 nf,.int .i64 ng,pv,mv] 103
theorem iq(ab:Nat)(c:aR)(LA:Option Addr)(lc:Nat)(BA:Option Addr)(bc:Nat)(nf ng:Int)(pv mv:Value)(r:Int)(named:Bool)(none:Int)(w:World)(h:tL w ab c LA lc BA bc nf ng pv mv):
  Calls prog 77 #[.pointer (some ⟨ab,0,.none⟩),.int .i64 r,.bool named,.int .i64 none] w λe w'=>e= .returned (.bool (sH r named none c.regs))/\w=w':=by
 have r1:w.cell? ⟨ab,1,.none⟩=some (.int .i64 c.regs):=Row.cell h rfl;have rl:=Row.lt h;clear h;cases named with
 |true=>
  have HW:=ae (sY r c.regs w);have e:sH r true none c.regs=decide (0<=r/\r<c.regs):=by simp[sH]
  rw[e];clear e;by_cases hb:0<=r/\r<c.regs
  all_goals
   first|rw[decide_eq_true hb]at HW ⊢ |rw[decide_eq_false hb]at HW ⊢
   clear hb;go_enter func77,ntmps77;go_wp2_with fail;refine HW.mono ?_;rintro e w1 ⟨rfl,rfl⟩;go_wp2_with fail;go_ret;exact⟨rfl,rfl⟩
 |false=>
  have e:sH r false none c.regs=decide (r=none):=by simp[sH]
  rw[e];clear e;by_cases hb:r=none
  ·subst hb;rw[decide_eq_true rfl];go_enter func77,ntmps77;go_wp2_with fail;go_ret;exact⟨iB (by simp),rfl⟩
  ·rw[decide_eq_false hb];have hb2:(r==none)=false:=by simpa using hb
   clear hb;go_enter func77,ntmps77;go_wp2_with fail;go_ret;exact⟨iB (by simp[*]),rfl⟩
end Go.Proofs.YtinmgbodgecoeaaGreat
