/- virt's checks: what an op names; a register. Conditions: as stated. -/
import Derived.Test.YtlenilbkifofjaaGreatDoorQ04Zz
import Derived.Test.YtlenilbkifofjaaGreatDoorQ01Zz
set_option linter.unusedVariables false
set_option linter.unusedSimpArgs false
set_option maxHeartbeats 8000000
set_option maxRecDepth 100000
namespace Go.Proofs.YtlenilbkifofjaaGreatDoor
open Go.RowKit
def fieldsI(x:InsS):Bool×Bool×Bool×Bool×Bool:=(namedI x).getD (false,false,false,false,false)
def NamedSays(x:InsS)(w:World)(e:Ending)(w':World):Prop:=
 e= .returned (.tuple #[.agg #[.bool (fieldsI x).1,.bool (fieldsI x).2.1,.bool (fieldsI x).2.2.1,.bool (fieldsI x).2.2.2.1,.bool (fieldsI x).2.2.2.2],.bool (namedI x).isSome])∧Below w.heap.size w w'
def insV(x:InsS)(A:Option Addr)(c:Nat):Value:= .agg #[.int .i64 x.op,.int .i64 x.dst,.int .i64 x.a,.int .i64 x.b,.int .i64 x.n,.slice A x.arg.length c]
theorem vnamed_any(x:InsS)(A:Option Addr)(c:Nat)(w:World):Calls Tryz.prog 65 #[insV x A c] w fun e w'=>NamedSays x w e w':=by
 obtain⟨op,dst,a,b,n,arg⟩:=x;obtain⟨m,hm⟩:∃m,m=arg.length:=⟨_,rfl⟩
 unfold insV;simp only[←hm];have h:op=1∨op=2∨op=3∨op=4∨op=5∨op=6∨op=7∨op=8∨op=9∨op=10∨op=11∨op=12∨op=13∨op=14∨op=15∨op=16∨op=17∨(op≠1∧op≠2∧op≠3∧op≠4∧op≠5∧op≠6∧op≠7∧op≠8∧op≠9∧op≠10∧op≠11∧op≠12∧op≠13∧op≠14∧op≠15∧op≠16∧op≠17):=by omega
 rcases h with rfl|rfl|rfl|rfl|rfl|rfl|rfl|rfl|rfl|rfl|rfl|rfl|rfl|rfl|rfl|rfl|rfl|⟨h1,h2,h3,h4,h5,h6,h7,h8,h9,h10,h11,h12,h13,h14,h15,h16,h17⟩
 ·have e:fieldsI ⟨1,dst,a,b,n,arg⟩=(true,false,false,true,false)∧(namedI ⟨1,dst,a,b,n,arg⟩).isSome=true:=by simp[fieldsI,namedI]
  unfold NamedSays;rw[e.1,e.2];clear e;go_enter Tryz.func65,Tryz.ntmps65;refine wp_letter (fun Q hQ=>?_);have HQ:=Lib.hid hQ;clear hQ;go_wp2_with fail;refine HQ.out _ _ _ ?_;exact bodyPost_ret (v:= .tuple #[.agg #[.bool true,.bool false,.bool false,.bool true,.bool false],.bool true]) (by simp[results,Tryz.results65,go_sem]) rfl ⟨rfl,below2 _ _ _⟩
 ·have e:fieldsI ⟨2,dst,a,b,n,arg⟩=(true,true,false,false,false)∧(namedI ⟨2,dst,a,b,n,arg⟩).isSome=true:=by simp[fieldsI,namedI]
  unfold NamedSays;rw[e.1,e.2];clear e;go_enter Tryz.func65,Tryz.ntmps65;refine wp_letter (fun Q hQ=>?_);have HQ:=Lib.hid hQ;clear hQ;go_wp2_with fail;refine HQ.out _ _ _ ?_;exact bodyPost_ret (v:= .tuple #[.agg #[.bool true,.bool true,.bool false,.bool false,.bool false],.bool true]) (by simp[results,Tryz.results65,go_sem]) rfl ⟨rfl,below2 _ _ _⟩
 ·have e:fieldsI ⟨3,dst,a,b,n,arg⟩=(true,false,false,true,false)∧(namedI ⟨3,dst,a,b,n,arg⟩).isSome=true:=by simp[fieldsI,namedI]
  unfold NamedSays;rw[e.1,e.2];clear e;go_enter Tryz.func65,Tryz.ntmps65;refine wp_letter (fun Q hQ=>?_);have HQ:=Lib.hid hQ;clear hQ;go_wp2_with fail;refine HQ.out _ _ _ ?_;exact bodyPost_ret (v:= .tuple #[.agg #[.bool true,.bool false,.bool false,.bool true,.bool false],.bool true]) (by simp[results,Tryz.results65,go_sem]) rfl ⟨rfl,below2 _ _ _⟩
 ·have e:fieldsI ⟨4,dst,a,b,n,arg⟩=(true,false,false,true,false)∧(namedI ⟨4,dst,a,b,n,arg⟩).isSome=true:=by simp[fieldsI,namedI]
  unfold NamedSays;rw[e.1,e.2];clear e;go_enter Tryz.func65,Tryz.ntmps65;refine wp_letter (fun Q hQ=>?_);have HQ:=Lib.hid hQ;clear hQ;go_wp2_with fail;refine HQ.out _ _ _ ?_;exact bodyPost_ret (v:= .tuple #[.agg #[.bool true,.bool false,.bool false,.bool true,.bool false],.bool true]) (by simp[results,Tryz.results65,go_sem]) rfl ⟨rfl,below2 _ _ _⟩
 ·have e:fieldsI ⟨5,dst,a,b,n,arg⟩=(true,true,true,true,false)∧(namedI ⟨5,dst,a,b,n,arg⟩).isSome=true:=by simp[fieldsI,namedI]
  unfold NamedSays;rw[e.1,e.2];clear e;go_enter Tryz.func65,Tryz.ntmps65;refine wp_letter (fun Q hQ=>?_);have HQ:=Lib.hid hQ;clear hQ;go_wp2_with fail;refine HQ.out _ _ _ ?_;exact bodyPost_ret (v:= .tuple #[.agg #[.bool true,.bool true,.bool true,.bool true,.bool false],.bool true]) (by simp[results,Tryz.results65,go_sem]) rfl ⟨rfl,below2 _ _ _⟩
 ·have e:fieldsI ⟨6,dst,a,b,n,arg⟩=(true,true,false,true,true)∧(namedI ⟨6,dst,a,b,n,arg⟩).isSome=true:=by simp[fieldsI,namedI]
  unfold NamedSays;rw[e.1,e.2];clear e;go_enter Tryz.func65,Tryz.ntmps65;refine wp_letter (fun Q hQ=>?_);have HQ:=Lib.hid hQ;clear hQ;go_wp2_with fail;refine HQ.out _ _ _ ?_;exact bodyPost_ret (v:= .tuple #[.agg #[.bool true,.bool true,.bool false,.bool true,.bool true],.bool true]) (by simp[results,Tryz.results65,go_sem]) rfl ⟨rfl,below2 _ _ _⟩
 ·have e:fieldsI ⟨7,dst,a,b,n,arg⟩=(true,true,false,true,false)∧(namedI ⟨7,dst,a,b,n,arg⟩).isSome=true:=by simp[fieldsI,namedI]
  unfold NamedSays;rw[e.1,e.2];clear e;go_enter Tryz.func65,Tryz.ntmps65;refine wp_letter (fun Q hQ=>?_);have HQ:=Lib.hid hQ;clear hQ;go_wp2_with fail;refine HQ.out _ _ _ ?_;exact bodyPost_ret (v:= .tuple #[.agg #[.bool true,.bool true,.bool false,.bool true,.bool false],.bool true]) (by simp[results,Tryz.results65,go_sem]) rfl ⟨rfl,below2 _ _ _⟩
 ·have e:fieldsI ⟨8,dst,a,b,n,arg⟩=(true,true,false,true,false)∧(namedI ⟨8,dst,a,b,n,arg⟩).isSome=true:=by simp[fieldsI,namedI]
  unfold NamedSays;rw[e.1,e.2];clear e;go_enter Tryz.func65,Tryz.ntmps65;refine wp_letter (fun Q hQ=>?_);have HQ:=Lib.hid hQ;clear hQ;go_wp2_with fail;refine HQ.out _ _ _ ?_;exact bodyPost_ret (v:= .tuple #[.agg #[.bool true,.bool true,.bool false,.bool true,.bool false],.bool true]) (by simp[results,Tryz.results65,go_sem]) rfl ⟨rfl,below2 _ _ _⟩
 ·have e:fieldsI ⟨9,dst,a,b,n,arg⟩=(true,true,false,true,false)∧(namedI ⟨9,dst,a,b,n,arg⟩).isSome=true:=by simp[fieldsI,namedI]
  unfold NamedSays;rw[e.1,e.2];clear e;go_enter Tryz.func65,Tryz.ntmps65;refine wp_letter (fun Q hQ=>?_);have HQ:=Lib.hid hQ;clear hQ;go_wp2_with fail;refine HQ.out _ _ _ ?_;exact bodyPost_ret (v:= .tuple #[.agg #[.bool true,.bool true,.bool false,.bool true,.bool false],.bool true]) (by simp[results,Tryz.results65,go_sem]) rfl ⟨rfl,below2 _ _ _⟩
 ·by_cases hd:dst= -1
  ·subst hd;have e:fieldsI ⟨10,-1,a,b,n,arg⟩=(false,false,false,true,true)∧(namedI ⟨10,-1,a,b,n,arg⟩).isSome=true:=by simp[fieldsI,namedI]
   unfold NamedSays;rw[e.1,e.2];clear e;go_enter Tryz.func65,Tryz.ntmps65;refine wp_letter (fun Q hQ=>?_);have HQ:=Lib.hid hQ;clear hQ;go_wp2_with fail;refine HQ.out _ _ _ ?_;exact bodyPost_ret (v:= .tuple #[.agg #[.bool false,.bool false,.bool false,.bool true,.bool true],.bool true]) (by simp[results,Tryz.results65,go_sem]) rfl ⟨rfl,below2 _ _ _⟩
  ·have hb:(dst== -1)=false:=by simpa using hd
   have e:fieldsI ⟨10,dst,a,b,n,arg⟩=(true,false,false,true,true)∧(namedI ⟨10,dst,a,b,n,arg⟩).isSome=true:=by simp[fieldsI,namedI,hd]
   unfold NamedSays;rw[e.1,e.2];clear e;have HD:=Lib.hid hd;clear hd;go_enter Tryz.func65,Tryz.ntmps65;refine wp_letter (fun Q hQ=>?_);have HQ:=Lib.hid hQ;clear hQ;go_wp2_with fail;refine HQ.out _ _ _ ?_;exact bodyPost_ret (v:= .tuple #[.agg #[.bool true,.bool false,.bool false,.bool true,.bool true],.bool true]) (by simp[results,Tryz.results65,go_sem,HD.out]) rfl ⟨rfl,below2 _ _ _⟩
 ·have e:fieldsI ⟨11,dst,a,b,n,arg⟩=(false,true,false,false,false)∧(namedI ⟨11,dst,a,b,n,arg⟩).isSome=true:=by simp[fieldsI,namedI]
  unfold NamedSays;rw[e.1,e.2];clear e;go_enter Tryz.func65,Tryz.ntmps65;refine wp_letter (fun Q hQ=>?_);have HQ:=Lib.hid hQ;clear hQ;go_wp2_with fail;refine HQ.out _ _ _ ?_;exact bodyPost_ret (v:= .tuple #[.agg #[.bool false,.bool true,.bool false,.bool false,.bool false],.bool true]) (by simp[results,Tryz.results65,go_sem]) rfl ⟨rfl,below2 _ _ _⟩
 ·have e:fieldsI ⟨12,dst,a,b,n,arg⟩=(true,false,false,false,false)∧(namedI ⟨12,dst,a,b,n,arg⟩).isSome=true:=by simp[fieldsI,namedI]
  unfold NamedSays;rw[e.1,e.2];clear e;go_enter Tryz.func65,Tryz.ntmps65;refine wp_letter (fun Q hQ=>?_);have HQ:=Lib.hid hQ;clear hQ;go_wp2_with fail;refine HQ.out _ _ _ ?_;exact bodyPost_ret (v:= .tuple #[.agg #[.bool true,.bool false,.bool false,.bool false,.bool false],.bool true]) (by simp[results,Tryz.results65,go_sem]) rfl ⟨rfl,below2 _ _ _⟩
 ·have e:fieldsI ⟨13,dst,a,b,n,arg⟩=(false,true,false,false,false)∧(namedI ⟨13,dst,a,b,n,arg⟩).isSome=true:=by simp[fieldsI,namedI]
  unfold NamedSays;rw[e.1,e.2];clear e;go_enter Tryz.func65,Tryz.ntmps65;refine wp_letter (fun Q hQ=>?_);have HQ:=Lib.hid hQ;clear hQ;go_wp2_with fail;refine HQ.out _ _ _ ?_;exact bodyPost_ret (v:= .tuple #[.agg #[.bool false,.bool true,.bool false,.bool false,.bool false],.bool true]) (by simp[results,Tryz.results65,go_sem]) rfl ⟨rfl,below2 _ _ _⟩
 ·have e:fieldsI ⟨14,dst,a,b,n,arg⟩=(false,false,false,true,false)∧(namedI ⟨14,dst,a,b,n,arg⟩).isSome=true:=by simp[fieldsI,namedI]
  unfold NamedSays;rw[e.1,e.2];clear e;go_enter Tryz.func65,Tryz.ntmps65;refine wp_letter (fun Q hQ=>?_);have HQ:=Lib.hid hQ;clear hQ;go_wp2_with fail;refine HQ.out _ _ _ ?_;exact bodyPost_ret (v:= .tuple #[.agg #[.bool false,.bool false,.bool false,.bool true,.bool false],.bool true]) (by simp[results,Tryz.results65,go_sem]) rfl ⟨rfl,below2 _ _ _⟩
 ·have e:fieldsI ⟨15,dst,a,b,n,arg⟩=(false,false,false,true,false)∧(namedI ⟨15,dst,a,b,n,arg⟩).isSome=true:=by simp[fieldsI,namedI]
  unfold NamedSays;rw[e.1,e.2];clear e;go_enter Tryz.func65,Tryz.ntmps65;refine wp_letter (fun Q hQ=>?_);have HQ:=Lib.hid hQ;clear hQ;go_wp2_with fail;refine HQ.out _ _ _ ?_;exact bodyPost_ret (v:= .tuple #[.agg #[.bool false,.bool false,.bool false,.bool true,.bool false],.bool true]) (by simp[results,Tryz.results65,go_sem]) rfl ⟨rfl,below2 _ _ _⟩
 ·have e:fieldsI ⟨16,dst,a,b,n,arg⟩=(false,true,false,true,false)∧(namedI ⟨16,dst,a,b,n,arg⟩).isSome=true:=by simp[fieldsI,namedI]
  unfold NamedSays;rw[e.1,e.2];clear e;go_enter Tryz.func65,Tryz.ntmps65;refine wp_letter (fun Q hQ=>?_);have HQ:=Lib.hid hQ;clear hQ;go_wp2_with fail;refine HQ.out _ _ _ ?_;exact bodyPost_ret (v:= .tuple #[.agg #[.bool false,.bool true,.bool false,.bool true,.bool false],.bool true]) (by simp[results,Tryz.results65,go_sem]) rfl ⟨rfl,below2 _ _ _⟩
 ·have e:fieldsI ⟨17,dst,a,b,n,arg⟩=(false,true,false,false,false)∧(namedI ⟨17,dst,a,b,n,arg⟩).isSome=true:=by simp[fieldsI,namedI]
  unfold NamedSays;rw[e.1,e.2];clear e;go_enter Tryz.func65,Tryz.ntmps65;refine wp_letter (fun Q hQ=>?_);have HQ:=Lib.hid hQ;clear hQ;go_wp2_with fail;refine HQ.out _ _ _ ?_;exact bodyPost_ret (v:= .tuple #[.agg #[.bool false,.bool true,.bool false,.bool false,.bool false],.bool true]) (by simp[results,Tryz.results65,go_sem]) rfl ⟨rfl,below2 _ _ _⟩
 ·have e:fieldsI ⟨op,dst,a,b,n,arg⟩=(false,false,false,false,false)∧(namedI ⟨op,dst,a,b,n,arg⟩).isSome=false:=by simp[fieldsI,namedI,h1,h2,h3,h4,h5,h6,h7,h8,h9,h10,h11,h12,h13,h14,h15,h16,h17]
  unfold NamedSays;rw[e.1,e.2];clear e;have e1:(op==1)=false:=by simpa using h1
  have e2:(op==2)=false:=by simpa using h2
  have e3:(op==3)=false:=by simpa using h3
  have e4:(op==4)=false:=by simpa using h4
  have e5:(op==5)=false:=by simpa using h5
  have e6:(op==6)=false:=by simpa using h6
  have e7:(op==7)=false:=by simpa using h7
  have e8:(op==8)=false:=by simpa using h8
  have e9:(op==9)=false:=by simpa using h9
  have e10:(op==10)=false:=by simpa using h10
  have e11:(op==11)=false:=by simpa using h11
  have e12:(op==12)=false:=by simpa using h12
  have e13:(op==13)=false:=by simpa using h13
  have e14:(op==14)=false:=by simpa using h14
  have e15:(op==15)=false:=by simpa using h15
  have e16:(op==16)=false:=by simpa using h16
  have e17:(op==17)=false:=by simpa using h17
  clear h1 h2 h3 h4 h5 h6 h7 h8 h9 h10 h11 h12 h13 h14 h15 h16 h17;go_enter Tryz.func65,Tryz.ntmps65;refine wp_letter (fun Q hQ=>?_);have HQ:=Lib.hid hQ;clear hQ;go_wp2_with fail;refine HQ.out _ _ _ ?_;exact bodyPost_ret (v:= .tuple #[.agg #[.bool false,.bool false,.bool false,.bool false,.bool false],.bool false]) (by simp[results,Tryz.results65,go_sem]) rfl ⟨rfl,below2 _ _ _⟩
def VAsk(w:World)(ab:Nat)(c:CodeS)(LA:Option Addr)(lc:Nat)(BA:Option Addr)(bc:Nat)(nf ng:Int)(pv mv:Value):Prop:=
 Row w ab #[.int .i64 c.params,.int .i64 c.regs,.slice LA c.locs.length lc,.slice BA c.ins.length bc,.int .i64 nf,.int .i64 ng,pv,mv] 88
theorem vregister_any(ab:Nat)(c:CodeS)(LA:Option Addr)(lc:Nat)(BA:Option Addr)(bc:Nat)(nf ng:Int)(pv mv:Value)(r:Int)(named:Bool)(none:Int)(w:World)(h:VAsk w ab c LA lc BA bc nf ng pv mv):
  Calls Tryz.prog 66 #[.pointer (some ⟨ab,0,.none⟩),.int .i64 r,.bool named,.int .i64 none] w fun e w'=>e= .returned (.bool (regI r named none c.regs))∧w=w':=by
 have r1:w.cell? ⟨ab,1,.none⟩=some (.int .i64 c.regs):=Row.cell h rfl;have rl:=Row.lt h;clear h;cases named with
 |true=>
  have HW:=Lib.hid (vwithin_any r c.regs w);have e:regI r true none c.regs=decide (0≤r∧r<c.regs):=by simp[regI]
  rw[e];clear e;by_cases hb:0≤r∧r<c.regs
  all_goals
   first|rw[decide_eq_true hb]at HW ⊢ |rw[decide_eq_false hb]at HW ⊢
   clear hb;go_enter Tryz.func66,Tryz.ntmps66;go_wp2_with fail;refine HW.out.mono ?_;rintro e w1 ⟨rfl,rfl⟩;go_wp2_with fail;go_ret;exact⟨rfl,rfl⟩
 |false=>
  have e:regI r false none c.regs=decide (r=none):=by simp[regI]
  rw[e];clear e;by_cases hb:r=none
  ·subst hb;rw[decide_eq_true rfl];go_enter Tryz.func66,Tryz.ntmps66;go_wp2_with fail;go_ret;exact⟨ret_b (by simp),rfl⟩
  ·rw[decide_eq_false hb];have hb2:(r==none)=false:=by simpa using hb
   clear hb;go_enter Tryz.func66,Tryz.ntmps66;go_wp2_with fail;go_ret;exact⟨ret_b (by simp[*]),rfl⟩
end Go.Proofs.YtlenilbkifofjaaGreatDoor
