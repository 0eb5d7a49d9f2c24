/- May a function alone be? virt's way (plain). No program in sight. No condition. A program of virtual code that may be: each function may be alone, and its calls are followed (plain). No program in sight. Conditions: as stated. Which registers are live (plain): what an instruction reads and writes, where it goes on, the least solution, and how a search comes to it. No program in sight. No condition. A set of registers as words of 64 bits (plain). No program in sight. No condition. What is live ahead of a place, in words (plain). No program in sight. No condition. live's sets: put, drop. Conditions: as stated. live's sets: slices.Equal, math/bits.TrailingZeros64, list. Conditions: as stated. live's sets: list. Conditions: as stated. live's Defs and Next, the page's Defs. Conditions: as stated. The page's put: a number into a rising list. Conditions: as stated. live's Next. Conditions: as stated. What a function that may be alone promises (plain). No program in sight. No condition. Programs that read the same are the same. Conditions: as stated. -/
import Derived.Test.YtlenilbkifofjaaGreatDoorVAskFZz
import Derived.Test.YtlenilbkifofjaaGreatDoorQ04Zz
import Derived.Test.YtlenilbkifofjaaGreatDoorQ05Zz
import Derived.Test.YtlenilbkifofjaaGreatDoorVCopyEZz
import Derived.Lib.TrailingZeros
import Derived.Shelf.Spec.TrailingZeros
import Derived.Laws.AppendOwnNone
set_option linter.unusedVariables false
set_option linter.unusedSimpArgs false
set_option maxHeartbeats 8000000
set_option maxRecDepth 100000
namespace Go.Proofs.YtlenilbkifofjaaGreatDoor
open Go.RowKit
def parK(s:Int→Option Nat)(n:Int)(k:Nat):Bool×(Int→Option Nat):=
 if s n=none then(decide (k≤4),fun j=>if j=n then some k else s j)else(decide (s n=some k)&& decide (k≤4),s)
def noneK:Int→Option Nat:=fun _=>none
def aloneB(c:CodeS):Bool:=(codeF parK c 16 8 noneK).1
def callsL:(Int→Option Nat)→List InsS→Bool
 |_,[]=>true
 |s,x::l=>if x.op=10 then(parK s x.n x.arg.length).1 && callsL (parK s x.n x.arg.length).2 l else callsL s l
theorem insB_par{c:CodeS}{ng nf:Int}{par:Int→Int→Bool}{x:InsS}:insB c ng nf par x=(insB c ng nf yesPar x && (!decide (x.op=10)||par x.n x.arg.length)):=by
 rw[insB_eq (par:=par),insB_eq (par:=yesPar)];by_cases h:x.op=10
 ·have e:numberI c ng nf par x=(numberI c ng nf yesPar x && par x.n x.arg.length):=by
   obtain⟨op,dst,a,b,n,arg⟩:=x;simp only at h;subst h;simp[numberI,yesPar,Bool.and_assoc]
  rw[e,decide_eq_true h,Bool.not_true,Bool.false_or];simp only[Bool.and_assoc]
 ·have e:numberI c ng nf par x=numberI c ng nf yesPar x:=by
   unfold numberI;rw[if_neg h,if_neg h]
  rw[e,decide_eq_false h,Bool.not_false,Bool.true_or,Bool.and_true]
theorem insB_call{c:CodeS}{ng nf:Int}{x:InsS}(h:insB c ng nf yesPar x=true)(h10:x.op=10):0≤x.n∧x.n<nf:=by
 rw[insB_eq]at h;simp only[Bool.and_eq_true]at h;have:=h.2.2.2.2.2.2;rw[number_yes h10]at this;unfold callB at this;simp only[Bool.and_eq_true,decide_eq_true_eq]at this;exact this.1
theorem inssF_alone(c:CodeS)(ng nf:Int):∀(l:List InsS)(s:Int→Option Nat),(inssF parK c ng nf s l).1=(l.all (insB c ng nf yesPar)&& callsL s l)
 |[],_=>rfl
 |x::l,s=>by
  rw[List.all_cons,callsL];by_cases h:x.op=10
  ·rw[if_pos h];cases hy:insB c ng nf yesPar x with
   |true=>
    rw[inssF_cons parK (b:=(parK s x.n x.arg.length).1) (s':=(parK s x.n x.arg.length).2) (by unfold insF;rw[if_pos ⟨h,hy⟩])];cases hp:(parK s x.n x.arg.length).1 with
    |true=>rw[if_pos rfl,inssF_alone c ng nf l];simp
    |false=>simp
   |false=>
    have hn:insB c ng nf noPar x=false:=by rw[insB_par,hy];rfl
    rw[inssF_cons parK (b:=false) (s':=s) (by unfold insF;rw[if_neg (fun hh=>by rw[hy]at hh;cases hh.2),hn])];simp
  ·rw[if_neg h];have hn:insB c ng nf noPar x=insB c ng nf yesPar x:=by rw[insB_par,decide_eq_false h];simp
   rw[inssF_cons parK (b:=insB c ng nf yesPar x) (s':=s) (by unfold insF;rw[if_neg (fun hh=>h hh.1),hn])];cases hy:insB c ng nf yesPar x with
   |true=>rw[if_pos rfl,inssF_alone c ng nf l];simp
   |false=>simp
theorem codeF_alone(c:CodeS)(ng nf:Int)(s:Int→Option Nat):(codeF parK c ng nf s).1=true↔headV c∧(c.ins.all (insB c ng nf yesPar)=true∧callsL s c.ins=true)∧lastB c=true:=by
 unfold codeF;by_cases h:headV c
 ·rw[if_pos h];simp only[inssF_alone,Bool.and_eq_true,h,true_and]
 ·rw[if_neg h];simp[h]
theorem may_codes{v:VirtS}(h:vmayB v=true):vmayP v∧∀c,c∈v.funcs→codeB c v.globs.length v.funcs.length (parV v)=true:=by
 unfold vmayB at h;by_cases hh:vmayP v
 ·rw[if_pos hh]at h;exact⟨hh,fun c hc=>List.all_eq_true.1 h c hc⟩
 ·rw[if_neg hh]at h;cases h
theorem parV_iff{v:VirtS}{n k:Int}:parV v n k=true↔(v.funcs.getD n.toNat noCode).params=k:=by unfold parV;simp
theorem calls_of{v:VirtS}:∀(l:List InsS)(s:Int→Option Nat),(∀n k,s n=some k→(v.funcs.getD n.toNat noCode).params=(k:Nat))→(∀x,x∈l→x.op=10→(v.funcs.getD x.n.toNat noCode).params=(x.arg.length:Nat)∧x.arg.length≤4)→callsL s l=true
 |[],_,_,_=>rfl
 |x::l,s,hs,hl=>by
  rw[callsL];by_cases h10:x.op=10
  ·rw[if_pos h10];obtain⟨h1,h4⟩:=hl x (by simp) h10;have d4:decide (x.arg.length≤4)=true:=decide_eq_true h4;unfold parK;cases hn:s x.n with
   |none=>
    rw[if_pos rfl,d4,Bool.true_and];refine calls_of l _ (fun n k hk=>?_) (fun y hy=>hl y (by simp[hy]));simp only at hk;split at hk
    ·rename_i e;injection hk with hk;subst e hk;exact h1
    ·exact hs n k hk
   |some k=>
    have h2:=hs _ _ hn;have e:k=x.arg.length:=by omega
    rw[if_neg (by simp),d4,Bool.and_true,e,decide_eq_true rfl,Bool.true_and];exact calls_of l s hs (fun y hy=>hl y (by simp[hy]))
  ·rw[if_neg h10];exact calls_of l s hs (fun y hy=>hl y (by simp[hy]))
theorem insB_more{c:CodeS}{ng nf ng' nf':Int}{par:Int→Int→Bool}{x:InsS}(h:insB c ng nf par x=true)(hg:ng≤ng')(hf:nf≤nf'):insB c ng' nf' yesPar x=true:=by
 rw[insB_par,Bool.and_eq_true]at h;have h:=h.1;rw[insB_eq]at h ⊢;simp only[Bool.and_eq_true]at h ⊢;obtain⟨h1,h2,h3,h4,h5,h6,h7⟩:=h;refine⟨h1,h2,h3,h4,h5,h6,?_⟩;obtain⟨op,dst,a,b,n,arg⟩:=x;unfold numberI at h7 ⊢;simp only at h7 ⊢;by_cases e3:op=3
 ·rw[if_pos e3]at h7 ⊢;exact h7
 rw[if_neg e3]at h7 ⊢;by_cases e4:op=4
 ·rw[if_pos e4]at h7 ⊢;simp only[decide_eq_true_eq]at h7 ⊢;omega
 rw[if_neg e4]at h7 ⊢;by_cases e5:op=5
 ·rw[if_pos e5]at h7 ⊢;exact h7
 rw[if_neg e5]at h7 ⊢;by_cases e6:op=6
 ·rw[if_pos e6]at h7 ⊢;exact h7
 rw[if_neg e6]at h7 ⊢;by_cases e7:op=7
 ·rw[if_pos e7]at h7 ⊢;exact h7
 rw[if_neg e7]at h7 ⊢;by_cases e8:op=8
 ·rw[if_pos e8]at h7 ⊢;exact h7
 rw[if_neg e8]at h7 ⊢;by_cases e9:op=9
 ·rw[if_pos e9]at h7 ⊢;exact h7
 rw[if_neg e9]at h7 ⊢;by_cases e10:op=10
 ·rw[if_pos e10]at h7 ⊢;simp only[Bool.and_eq_true,decide_eq_true_eq,yesPar]at h7 ⊢;exact⟨by omega,h7.2⟩
 rw[if_neg e10]at h7 ⊢;exact h7
theorem code_call{c:CodeS}{ng nf:Int}{par:Int→Int→Bool}{x:InsS}(h:insB c ng nf par x=true)(h10:x.op=10):(0≤x.n∧x.n<nf)∧par x.n x.arg.length=true:=by
 rw[insB_par,Bool.and_eq_true]at h;refine⟨insB_call h.1 h10,?_⟩;have:=h.2;rw[decide_eq_true h10]at this;simpa using this
theorem objsB_len{l:List ObS}{m:Int}(h:objsB l m=true):(l.length:Int)≤m:=by
 unfold objsB at h
 revert h
 simp
theorem may_params{v:VirtS}(h:vmayB v=true)(n:Int):(v.funcs.getD n.toNat noCode).params≤4∧0≤(v.funcs.getD n.toNat noCode).params:=by
 by_cases hn:n.toNat<v.funcs.length
 ·have hc:v.funcs.getD n.toNat noCode∈v.funcs:=by
   rw[List.getD_eq_getElem?_getD,List.getElem?_eq_getElem hn];exact List.getElem_mem hn
  have hcb:=(may_codes h).2 _ hc;unfold codeB at hcb;by_cases hh:headV (v.funcs.getD n.toNat noCode)
  ·exact⟨by have:=hh.2.1;omega,by have:=hh.1;omega⟩
  ·rw[if_neg hh]at hcb;cases hcb
 ·rw[List.getD_eq_getElem?_getD,List.getElem?_eq_none (by omega)];exact⟨by decide,by decide⟩
theorem may_alone{v:VirtS}(h:vmayB v=true){c:CodeS}(hc:c∈v.funcs):aloneB c=true:=by
 obtain⟨⟨hg,h1,h2,_⟩,hall⟩:=may_codes h;have hcb:=hall c hc;have hgl:=objsB_len hg;unfold codeB at hcb;by_cases hh:headV c
 ·rw[if_pos hh,Bool.and_eq_true,List.all_eq_true]at hcb;refine(codeF_alone c 16 8 noneK).2 ⟨hh,⟨List.all_eq_true.2 fun x hx=>insB_more (hcb.1 x hx) (by omega) (by omega),?_⟩,hcb.2⟩;refine calls_of (v:=v) c.ins noneK (fun n k hk=>by cases hk) (fun x hx h10=>?_);obtain⟨_,hp⟩:=code_call (hcb.1 x hx) h10;have hp:=parV_iff.1 hp;have:=(may_params h x.n).1;exact⟨hp,by omega⟩
 ·rw[if_neg hh]at hcb;cases hcb
theorem may_zero{v:VirtS}(h:vmayB v=true){hss:List (List Int)}{M:Int}(hl:hss.length=v.funcs.length)(hm:∀hs,hs∈hss→(hs.length:Int)≤M)(hp:∀(k:Nat)hs c,hss[k]? =some hs→v.funcs[k]? =some c→∀r,r∈hs→c.params≤r):ZeroV v hss M:=by
 obtain⟨_,hall⟩:=may_codes h;have hok:∀c,c∈v.funcs→headV c∧(∀x,x∈c.ins→insB c v.globs.length v.funcs.length (parV v) x=true)∧lastB c=true:=fun c hc=>by
  have hcb:=hall c hc;unfold codeB at hcb;by_cases hh:headV c
  ·rw[if_pos hh,Bool.and_eq_true,List.all_eq_true]at hcb;exact⟨hh,hcb.1,hcb.2⟩
  ·rw[if_neg hh]at hcb;cases hcb
 refine⟨hl,hm,fun k hs c hk hc=>⟨by have:=(hok c (List.mem_of_getElem? hc)).1.1;omega,hp k hs c hk hc⟩,fun c hc=>by have:=(hok c hc).1.2.2.2.2.2.1;omega,fun c hc x hx hj=>?_,fun c hc k x hk h15 h13 h17=>?_,fun c hc x hx h10=>?_⟩
 ·have hi:=(hok c hc).2.1 x hx;rw[insB_eq]at hi;simp only[Bool.and_eq_true]at hi;have:=hi.2.2.2.2.2.2;unfold numberI at this;rw[if_neg (by omega),if_neg (by omega),if_neg (by omega),if_neg (by omega),if_neg (by omega),if_neg (by omega),if_neg (by omega),if_neg (by omega),if_pos hj]at this;exact labN_lt this
 ·have hkl:k<c.ins.length:=(List.getElem?_eq_some_iff.1 hk).1;rcases Nat.lt_or_ge (k+1) c.ins.length with h'|h'
  ·exact h'
  ·exfalso;have hke:c.ins.length-1=k:=by omega
   have hb:=(hok c hc).2.2;unfold lastB at hb;rw[hke,List.getD_eq_getElem?_getD,hk]at hb;simp at hb;omega
 ·obtain⟨h1,h2⟩:=code_call ((hok c hc).2.1 x hx) h10;exact⟨h1,parV_iff.1 h2⟩
theorem may_main{v:VirtS}(h:vmayB v=true):okV v v.main 0:=by
 obtain⟨⟨_,_,_,h4,h5⟩,_⟩:=may_codes h;exact⟨h4,h5⟩
end Go.Proofs.YtlenilbkifofjaaGreatDoor
namespace Go.Proofs.YtlenilbkifofjaaGreatDoor
open Go.RowKit
def regsL(x:InsS):List Int:=
 if x.op=2∨x.op=6∨x.op=7∨x.op=8∨x.op=11∨x.op=13∨x.op=16∨x.op=17 then [x.a]
 else if x.op=5 then [x.a,x.b]
 else if x.op=9 then [x.a,x.dst]
 else if x.op=10 then x.arg
 else []
def defL(x:InsS):Int:=
 if x.op=1∨x.op=2∨x.op=3∨x.op=4∨x.op=5∨x.op=6∨x.op=7∨x.op=8∨x.op=10∨x.op=12 then x.dst else-1
def Rise(l:List Int):Prop:=l.Pairwise (·<·)
theorem Rise.ext:∀{l m:List Int},Rise l→Rise m→(∀x,x∈l↔x∈m)→l=m
 |[],[],_,_,_=>rfl
 |[],y::m,_,_,h=>by have:=(h y).2 (by simp);simp at this
 |x::l,[],_,_,h=>by have:=(h x).1 (by simp);simp at this
 |x::l,y::m,hl,hm,h=>by
  obtain⟨hl1,hl2⟩:=List.pairwise_cons.1 hl;obtain⟨hm1,hm2⟩:=List.pairwise_cons.1 hm;have e:x=y:=by
   rcases List.mem_cons.1 ((h x).1 (by simp))with h1|h1
   ·exact h1
   ·rcases List.mem_cons.1 ((h y).2 (by simp))with h2|h2
    ·exact h2.symm
    ·have:=hl1 _ h2;have:=hm1 _ h1;omega
  subst e;rw[Rise.ext hl2 hm2 (fun z=>⟨fun hz=>?_,fun hz=>?_⟩)]
  ·have:=hl1 _ hz;rcases List.mem_cons.1 ((h z).1 (by simp[hz]))with h1|h1
   ·omega
   ·exact h1
  ·have:=hm1 _ hz;rcases List.mem_cons.1 ((h z).2 (by simp[hz]))with h1|h1
   ·omega
   ·exact h1
def putL:List Int→Int→List Int
 |[],n=>[n]
 |x::r,n=>if x<n then x::putL r n else if x=n then x::r else n::x::r
theorem putL_mem:∀{l:List Int}{n y:Int},y∈putL l n↔y=n∨y∈l
 |[],n,y=>by simp[putL]
 |x::r,n,y=>by
  rw[putL];split
  ·rw[List.mem_cons,putL_mem,List.mem_cons];constructor
   ·rintro(h|h|h)<;>simp[h]
   ·rintro(h|h|h)<;>simp[h]
  ·split
   ·rename_i h1;subst h1;simp
   ·simp
theorem putL_rise:∀{l:List Int}{n:Int},Rise l→Rise (putL l n)
 |[],n,_=>by simp[putL,Rise]
 |x::r,n,h=>by
  obtain⟨h1,h2⟩:=List.pairwise_cons.1 h;rw[putL];split
  ·rename_i hx;refine List.pairwise_cons.2 ⟨fun y hy=>?_,putL_rise h2⟩;rcases putL_mem.1 hy with rfl|hy
   ·exact hx
   ·exact h1 _ hy
  ·split
   ·exact h
   ·refine List.pairwise_cons.2 ⟨fun y hy=>?_,h⟩;rcases List.mem_cons.1 hy with rfl|hy
    ·omega
    ·have:=h1 _ hy;omega
theorem foldPut_mem{m:List Int}:∀{l:List Int}{y:Int},y∈m.foldl putL l↔y∈m∨y∈l:=by
 induction m with
 |nil=>intro l y;simp
 |cons a m ih=>
  intro l y;rw[List.foldl_cons,ih,putL_mem,List.mem_cons];constructor
  ·rintro(h|h|h)<;>simp[h]
  ·rintro((h|h)|h)<;>simp[h]
theorem foldPut_rise{m:List Int}:∀{l:List Int},Rise l→Rise (m.foldl putL l):=by
 induction m with
 |nil=>intro l h;exact h
 |cons a m ih=>intro l h;exact ih (putL_rise h)
def usesL(x:InsS):List Int:=(regsL x).foldl putL []
theorem usesL_mem{x:InsS}{y:Int}:y∈usesL x↔y∈regsL x:=by simp[usesL,foldPut_mem]
theorem usesL_rise{x:InsS}:Rise (usesL x):=foldPut_rise (by simp[Rise])
theorem usesL_of{x:InsS}{l:List Int}(h:Rise l)(hm:∀y,y∈l↔y∈regsL x):l=usesL x:=h.ext usesL_rise fun y=>(hm y).trans usesL_mem.symm
theorem Rise.bound{l:List Int}{R:Nat}(h:Rise l)(hb:∀x,x∈l→0≤x∧x<R):l.length≤R:=by
 induction R generalizing l with
 |zero=>
  cases l with
  |nil=>simp
  |cons x r=>have:=hb x (by simp);omega
 |succ R ih=>
  have hn:l.Nodup:=List.Pairwise.imp (fun h=>by omega) h;have h1:(l.erase (R:Int)).length≤R:=by
   refine ih (List.Pairwise.sublist List.erase_sublist h) fun x hx=>?_;obtain⟨h2,h3⟩:=(List.Nodup.mem_erase_iff hn).1 hx;have:=hb x h3;omega
  have h2:l.length≤(l.erase (R:Int)).length+1:=by
   rw[List.length_erase];split<;>omega
  omega
def nextL(l:List InsS)(k:Nat):List Nat:=
 match l[k]? with
 |none=>[]
 |some x=>if x.op=17∨x.op=13 then []else if x.op=15 then [labN l x.n]else if x.op=16 then [k+1,labN l x.n]else [k+1]
def LiveF(l:List InsS)(L:Nat→Int→Prop)(k:Nat)(r:Int):Prop:=∃x,l[k]? =some x∧(r∈regsL x∨(r≠defL x∧∃n,n∈nextL l k∧L n r))
def memR(rows:List (List Int))(k:Nat)(r:Int):Prop:=∃row,rows[k]? =some row∧r∈row
theorem LiveF.mono{l:List InsS}{L M:Nat→Int→Prop}(h:∀k r,L k r→M k r){k:Nat}{r:Int}(hl:LiveF l L k r):LiveF l M k r:=by
 obtain⟨x,hx,h1⟩:=hl;exact⟨x,hx,h1.imp id fun⟨h2,n,h3,h4⟩=>⟨h2,n,h3,h _ _ h4⟩⟩
structure IsLive (l:List InsS) (rows:List (List Int)):Prop where
 len:rows.length=l.length+1
 rise:∀row,row∈rows→Rise row
 pre:∀k r,LiveF l (memR rows) k r→memR rows k r
 least:∀M:Nat→Int→Prop,(∀k r,LiveF l M k r→M k r)→∀k r,memR rows k r→M k r
theorem IsLive.only{l:List InsS}{a b:List (List Int)}(ha:IsLive l a)(hb:IsLive l b):a=b:=by
 have hm:∀k r,memR a k r↔memR b k r:=fun k r=>⟨ha.least _ hb.pre k r,hb.least _ ha.pre k r⟩
 refine List.ext_getElem (by rw[ha.len,hb.len]) fun k h1 h2=>?_;refine(ha.rise _ (List.getElem_mem h1)).ext (hb.rise _ (List.getElem_mem h2)) fun r=>?_;have h:=hm k r;unfold memR at h;rw[List.getElem?_eq_getElem h1,List.getElem?_eq_getElem h2]at h;simpa using h
structure Flow (l:List InsS) (R:Nat) (rows:List (List Int)):Prop where
 len:rows.length=l.length+1
 rise:∀row,row∈rows→Rise row
 bound:∀row,row∈rows→∀x,x∈row→0≤x∧x<R
 asc:∀k r,memR rows k r→LiveF l (memR rows) k r
 low:∀M:Nat→Int→Prop,(∀k r,LiveF l M k r→M k r)→∀k r,memR rows k r→M k r
theorem memR_nil{n k:Nat}{r:Int}:¬memR (List.replicate n []) k r:=by
 rintro⟨row,h1,h2⟩;have:=List.eq_of_mem_replicate (List.mem_of_getElem? h1);subst this;simp at h2
theorem Flow.start(l:List InsS)(R:Nat):Flow l R (List.replicate (l.length+1) []) where
 len:=by simp
 rise:=fun row h=>by rw[List.eq_of_mem_replicate h];simp[Rise]
 bound:=fun row h x hx=>by rw[List.eq_of_mem_replicate h]at hx;simp at hx
 asc:=fun k r h=>absurd h memR_nil
 low:=fun M _ k r h=>absurd h memR_nil
theorem memR_set{rows:List (List Int)}{k j:Nat}{x:List Int}{r:Int}(hk:k<rows.length):memR (rows.set k x) j r↔if k=j then r∈x else memR rows j r:=by
 unfold memR;rw[List.getElem?_set];by_cases h:k=j
 ·subst h;simp[hk]
 ·simp[h]
def roomL(R:Nat)(rows:List (List Int)):Nat:=(rows.map fun row=>R-row.length).sum
theorem roomL_set{R:Nat}{x:List Int}:∀{rows:List (List Int)}{k:Nat}(hk:k<rows.length),rows[k].length<x.length→x.length≤R→roomL R (rows.set k x)<roomL R rows
 |y::rows,0,_,h,hR=>by
  simp only[List.getElem_cons_zero]at h;simp only[roomL,List.set_cons_zero,List.map_cons,List.sum_cons];omega
 |y::rows,k+1,hk,h,hR=>by
  simp only[List.getElem_cons_succ]at h;have:=roomL_set (rows:=rows) (k:=k) (by simpa using hk) h hR;simp only[roomL,List.set_cons_succ,List.map_cons,List.sum_cons]at this ⊢;omega
theorem Rise.sub_len{l m:List Int}(hl:Rise l)(hm:Rise m)(h:∀x,x∈l→x∈m):l.length≤m.length∧(l.length=m.length→l=m):=by
 have e:l=m.filter (fun x=>decide (x∈l)):=hl.ext (List.Pairwise.sublist List.filter_sublist hm) fun x=>by
  rw[List.mem_filter];exact⟨fun hx=>⟨h x hx,by simpa using hx⟩,fun hx=>by simpa using hx.2⟩
 have h1:=List.length_filter_le (fun x=>decide (x∈l)) m;rw[←e]at h1;refine⟨h1,fun he=>hl.ext hm fun x=>⟨h x,fun hx=>?_⟩⟩;rw[e]at he;have:=List.length_filter_eq_length_iff.1 he x hx;simpa using this
section
variable {l:List InsS} {R:Nat} {rows:List (List Int)} {k:Nat} {x:List Int}
theorem Flow.sub(h:Flow l R rows)(hk:k<l.length)(hm:∀r,r∈x↔LiveF l (memR rows) k r):∀r,r∈rows[k]'(by have:=h.len;omega)→r∈x:=by
 intro r hr;have hk':k<rows.length:=by have:=h.len;omega
 exact(hm r).2 (h.asc k r ⟨_,List.getElem?_eq_getElem hk',hr⟩)
theorem Flow.set(h:Flow l R rows)(hk:k<l.length)(hx:Rise x)(hb:∀y,y∈x→0≤y∧y<R)(hm:∀r,r∈x↔LiveF l (memR rows) k r):Flow l R (rows.set k x):=by
 have hk':k<rows.length:=by have:=h.len;omega
 have hup:∀j r,memR rows j r→memR (rows.set k x) j r:=by
  intro j r hr;rw[memR_set hk'];split
  ·rename_i e;subst e;obtain⟨row,h1,h2⟩:=hr;obtain⟨_,h3⟩:=List.getElem?_eq_some_iff.1 h1;exact h.sub hk hm r (by rw[h3];exact h2)
  ·exact hr
 refine⟨by rw[List.length_set];exact h.len,fun row hr=>?_,fun row hr=>?_,fun j r hj=>?_,fun M hM j r hj=>?_⟩
 ·rcases List.mem_or_eq_of_mem_set hr with h1|rfl
  ·exact h.rise _ h1
  ·exact hx
 ·rcases List.mem_or_eq_of_mem_set hr with h1|rfl
  ·exact h.bound _ h1
  ·exact hb
 ·rw[memR_set hk']at hj;split at hj
  ·rename_i e;subst e;exact LiveF.mono hup ((hm r).1 hj)
  ·exact LiveF.mono hup (h.asc j r hj)
 ·rw[memR_set hk']at hj;split at hj
  ·rename_i e;subst e;exact hM _ _ (LiveF.mono (h.low M hM) ((hm r).1 hj))
  ·exact h.low M hM j r hj
theorem Flow.turn(h:Flow l R rows)(hk:k<l.length)(hx:Rise x)(hb:∀y,y∈x→0≤y∧y<R)(hm:∀r,r∈x↔LiveF l (memR rows) k r)(hne:x≠rows[k]'(by have:=h.len;omega)):roomL R (rows.set k x)<roomL R rows:=by
 have hk':k<rows.length:=by have:=h.len;omega
 have h1:=(h.rise _ (List.getElem_mem hk')).sub_len hx (h.sub hk hm);refine roomL_set hk' ?_ (hx.bound hb);rcases Nat.lt_or_eq_of_le h1.1 with h2|h2
 ·exact h2
 ·exact absurd (h1.2 h2).symm hne
theorem Flow.done(h:Flow l R rows)(hs:∀k,k<l.length→∀r,LiveF l (memR rows) k r→memR rows k r):IsLive l rows:=by
 refine⟨h.len,h.rise,fun k r hr=>?_,h.low⟩;have hr':=hr;obtain⟨x,hx,_⟩:=hr';exact hs k (List.getElem?_eq_some_iff.1 hx).1 r hr
end
end Go.Proofs.YtlenilbkifofjaaGreatDoor
namespace Go.Proofs.YtlenilbkifofjaaGreatDoor
open Go.RowKit
def bitsW(w:Nat):List Nat:=(List.range 64).filter fun j=>w.testBit j
def listW:Nat→List Nat→List Int
 |_,[]=>[]
 |i,w::r=>(bitsW w).map (fun j=>((i*64+j:Nat):Int))++listW (i+1) r
theorem bitsW_mem{w j:Nat}:j∈bitsW w↔j<64∧w.testBit j=true:=by simp[bitsW,List.mem_filter]
theorem bitsW_rise{w:Nat}:(bitsW w).Pairwise (·<·):=List.Pairwise.sublist List.filter_sublist List.pairwise_lt_range
theorem listW_mem:∀{ws:List Nat}{i:Nat}{r:Int},r∈listW i ws↔∃k j w,ws[k]? =some w∧j<64∧w.testBit j=true∧r=(((i+k)*64+j:Nat):Int)
 |[],i,r=>by simp[listW]
 |w::ws,i,r=>by
  rw[listW,List.mem_append,listW_mem];constructor
  ·rintro(h|⟨k,j,v,h1,h2,h3,h4⟩)
   ·obtain⟨j,hj,rfl⟩:=List.mem_map.1 h;obtain⟨h1,h2⟩:=bitsW_mem.1 hj;exact⟨0,j,w,rfl,h1,h2,by simp⟩
   ·exact⟨k+1,j,v,by simpa using h1,h2,h3,by rw[h4];congr 3;omega⟩
  ·rintro⟨k,j,v,h1,h2,h3,h4⟩;cases k with
   |zero=>
    simp at h1;subst h1;exact Or.inl (List.mem_map.2 ⟨j,bitsW_mem.2 ⟨h2,h3⟩,by rw[h4];simp⟩)
   |succ k=>exact Or.inr ⟨k,j,v,by simpa using h1,h2,h3,by rw[h4];congr 3;omega⟩
theorem listW_low{ws:List Nat}{i:Nat}{r:Int}(h:r∈listW i ws):(i*64:Nat)≤r∧r<((i+ws.length)*64:Nat):=by
 obtain⟨k,j,w,h1,h2,_,rfl⟩:=listW_mem.1 h;have:=(List.getElem?_eq_some_iff.1 h1).1;omega
theorem listW_rise:∀{ws:List Nat}{i:Nat},Rise (listW i ws)
 |[],_=>by simp[listW,Rise]
 |w::ws,i=>by
  refine List.pairwise_append.2 ⟨?_,listW_rise,fun a ha b hb=>?_⟩
  ·rw[List.pairwise_map];exact List.Pairwise.imp (fun h=>by omega) bitsW_rise
  ·obtain⟨j,hj,rfl⟩:=List.mem_map.1 ha;have:=(bitsW_mem.1 hj).1;have:=(listW_low hb).1;omega
theorem listW_at{ws:List Nat}{r:Nat}:(r:Int)∈listW 0 ws↔∃w,ws[r/64]? =some w∧w.testBit (r%64)=true:=by
 rw[listW_mem];constructor
 ·rintro⟨k,j,w,h1,h2,h3,h4⟩;have e:r=k*64+j:=by omega
  have e1:r/64=k:=by omega
  have e2:r%64=j:=by omega
  exact⟨w,by rw[e1];exact h1,by rw[e2];exact h3⟩
 ·rintro⟨w,h1,h2⟩;exact⟨r/64,r%64,w,h1,by omega,h2,by omega⟩
theorem listW_ext{a b:List Nat}(hl:a.length=b.length)(ha:∀w,w∈a→w<2^64)(hb:∀w,w∈b→w<2^64)(h:listW 0 a=listW 0 b):a=b:=by
 refine List.ext_getElem hl fun k h1 h2=>?_;refine Nat.eq_of_testBit_eq fun j=>?_;by_cases hj:j<64
 ·have e:∀(l:List Nat)(hk:k<l.length),((k*64+j:Nat):Int)∈listW 0 l↔l[k].testBit j=true:=by
   intro l hk;rw[listW_at,show(k*64+j)/64=k from by omega,show(k*64+j)%64=j from by omega,List.getElem?_eq_getElem hk];simp
  have e1:=e a h1;have e2:=e b h2;rw[h,e2]at e1;cases hx:a[k].testBit j<;>cases hy:b[k].testBit j<;>simp[hx,hy]at e1 ⊢
 ·have t:∀w:Nat,w<2^64→w.testBit j=false:=fun w hw=>Nat.testBit_lt_two_pow (Nat.lt_of_lt_of_le hw (Nat.pow_le_pow_right (by omega) (by omega)));rw[t _ (ha _ (List.getElem_mem h1)),t _ (hb _ (List.getElem_mem h2))]
def putW(ws:List Nat)(r:Nat):List Nat:=ws.set (r/64) (ws.getD (r/64) 0|||2^(r%64))
def dropW(ws:List Nat)(r:Nat):List Nat:=ws.set (r/64) (ws.getD (r/64) 0 &&& (2^64-1-2^(r%64)))
def joinW(a b:List Nat):List Nat:=List.zipWith (·|||·) a b
def In64W(ws:List Nat):Prop:=∀w,w∈ws→w<2^64
theorem getD_of{ws:List Nat}{k:Nat}(h:k<ws.length):ws.getD k 0=ws[k]:=by rw[List.getD_eq_getElem?_getD,List.getElem?_eq_getElem h,Option.getD_some]
theorem listW_set{ws:List Nat}{k v:Nat}{q:Nat}(hk:k<ws.length):(q:Int)∈listW 0 (ws.set k v)↔if k=q/64 then v.testBit (q%64)=true else(q:Int)∈listW 0 ws:=by
 rw[listW_at,List.getElem?_set];by_cases h:k=q/64
 ·subst h;simp[hk]
 ·rw[if_neg h,if_neg h,listW_at]
theorem putW_mem{ws:List Nat}{r q:Nat}(hr:r/64<ws.length):(q:Int)∈listW 0 (putW ws r)↔q=r∨(q:Int)∈listW 0 ws:=by
 rw[putW,listW_set hr];by_cases h:r/64=q/64
 ·rw[if_pos h,Nat.testBit_or,getD_of hr,Nat.testBit_two_pow,listW_at,←h,List.getElem?_eq_getElem hr];simp only[Bool.or_eq_true,decide_eq_true_eq,Option.some.injEq,exists_eq_left'];constructor
  ·rintro(h1|h1)
   ·exact Or.inr h1
   ·exact Or.inl (by omega)
  ·rintro(h1|h1)
   ·exact Or.inr (by rw[h1])
   ·exact Or.inl h1
 ·rw[if_neg h];exact⟨Or.inr,fun h1=>h1.resolve_left (fun e=>h (by rw[e]))⟩
theorem testBit_all{j:Nat}(h:j<64){n:Nat}(hn:n<64):(2^64-1-2^n).testBit j=decide (j≠n):=by
 rw[Nat.sub_sub,Nat.add_comm 1,Nat.testBit_two_pow_sub_succ (Nat.pow_lt_pow_right (by omega) hn),Nat.testBit_two_pow];by_cases e:n=j
 ·simp[e]
 ·simp[e,h,Ne.symm e]
theorem dropW_mem{ws:List Nat}{r q:Nat}(hr:r/64<ws.length):(q:Int)∈listW 0 (dropW ws r)↔q≠r∧(q:Int)∈listW 0 ws:=by
 rw[dropW,listW_set hr];by_cases h:r/64=q/64
 ·rw[if_pos h,Nat.testBit_and,getD_of hr,testBit_all (by omega) (by omega),listW_at,←h,List.getElem?_eq_getElem hr];simp only[Bool.and_eq_true,decide_eq_true_eq,Option.some.injEq,exists_eq_left'];constructor
  ·rintro⟨h1,h2⟩;exact⟨fun e=>h2 (by rw[e]),h1⟩
  ·rintro⟨h1,h2⟩;exact⟨h2,fun e=>h1 (by omega)⟩
 ·rw[if_neg h];exact⟨fun h1=>⟨fun e=>h (by rw[e]),h1⟩,And.right⟩
theorem joinW_mem{a b:List Nat}{q:Nat}(hl:a.length=b.length):(q:Int)∈listW 0 (joinW a b)↔(q:Int)∈listW 0 a∨(q:Int)∈listW 0 b:=by
 rw[listW_at,listW_at,listW_at];unfold joinW;rw[List.getElem?_zipWith];by_cases h:q/64<a.length
 ·rw[List.getElem?_eq_getElem h,List.getElem?_eq_getElem (by omega:q/64<b.length)];simp[Nat.testBit_or]
 ·rw[List.getElem?_eq_none (by omega),List.getElem?_eq_none (by omega)];simp
theorem putW_len{ws:List Nat}{r:Nat}:(putW ws r).length=ws.length:=by simp[putW]
theorem dropW_len{ws:List Nat}{r:Nat}:(dropW ws r).length=ws.length:=by simp[dropW]
theorem joinW_len{a b:List Nat}(hl:a.length=b.length):(joinW a b).length=a.length:=by simp[joinW,hl]
theorem getD_lt{ws:List Nat}(h:In64W ws)(k:Nat):ws.getD k 0<2^64:=by
 by_cases hk:k<ws.length
 ·rw[getD_of hk];exact h _ (List.getElem_mem hk)
 ·rw[List.getD_eq_getElem?_getD,List.getElem?_eq_none (by omega)];simp
theorem set_64{ws:List Nat}(h:In64W ws){k v:Nat}(hv:v<2^64):In64W (ws.set k v):=by
 intro w hw;rcases List.mem_or_eq_of_mem_set hw with h1|rfl
 ·exact h _ h1
 ·exact hv
theorem putW_64{ws:List Nat}(h:In64W ws)(r:Nat):In64W (putW ws r):=set_64 h (Nat.or_lt_two_pow (getD_lt h _) (Nat.pow_lt_pow_right (by omega) (by omega)))
theorem dropW_64{ws:List Nat}(h:In64W ws)(r:Nat):In64W (dropW ws r):=set_64 h (Nat.lt_of_le_of_lt Nat.and_le_left (getD_lt h _))
theorem joinW_64{a b:List Nat}(ha:In64W a)(hb:In64W b):In64W (joinW a b):=by
 intro w hw;unfold joinW at hw;obtain⟨k,hk,rfl⟩:=List.mem_iff_getElem.1 hw;rw[List.getElem_zipWith];exact Nat.or_lt_two_pow (ha _ (List.getElem_mem _)) (hb _ (List.getElem_mem _))
theorem bitsW_next{w:Nat}(h0:w≠0)(h:w<2^64):bitsW w=Lib.ctz 64 w::bitsW (w &&& (w-1))∧Lib.ctz 64 w<64∧w &&& (w-1)<w:=by
 obtain⟨m,hm,hk⟩:=Lib.ctzFrom_spec 64 w (by omega) h;have hc:Lib.ctz 64 w=Lib.ctzFrom 64 w:=by simp[Lib.ctz,h0]
 rw[hc];generalize Lib.ctzFrom 64 w=k at hm hk ⊢;have hp:0<2^k:=Nat.two_pow_pos k;have hb:∀j,w.testBit j=(decide (k≤j)&& (2*m+1).testBit (j-k)):=fun j=>by rw[hm,Nat.testBit_two_pow_mul]
 have hw1:w-1=2^k*(2*m)+(2^k-1):=by
  rw[hm,Nat.mul_add,Nat.mul_one];omega
 have hb1:∀j,(w-1).testBit j=if j<k then true else(2*m).testBit (j-k):=fun j=>by
  rw[hw1,Nat.testBit_two_pow_mul_add _ (by omega)];split
  ·rename_i hj;rw[Nat.testBit_two_pow_sub_one];simpa using hj
  ·rfl
 have hbb:∀j,(w &&& (w-1)).testBit j=(w.testBit j && decide (j≠k)):=fun j=>by
  rw[Nat.testBit_and,hb1,hb];by_cases h1:j<k
  ·simp[Nat.not_le.2 h1]
  ·rw[if_neg h1];by_cases h2:j=k
   ·subst h2;simp
   ·obtain⟨i,hi⟩:∃i,j-k=i+1:=⟨j-k-1,by omega⟩
    rw[hi];simp only[Nat.testBit_succ];have e1:(2*m+1)/2=m:=by omega
    have e2:2*m/2=m:=by omega
    rw[e1,e2];simp[h2]
 refine⟨?_,hk,?_⟩
 ·have hx:(bitsW w).map (fun j:Nat=>(j:Int))=(k::bitsW (w &&& (w-1))).map (fun j:Nat=>(j:Int)):=by
   refine Rise.ext ?_ ?_ fun x=>?_
   ·unfold Rise;rw[List.pairwise_map];exact List.Pairwise.imp (fun h=>by omega) bitsW_rise
   ·unfold Rise;rw[List.pairwise_map];refine List.Pairwise.imp (R:=(·<·)) (fun h=>by omega) (List.pairwise_cons.2 ⟨fun j hj=>?_,bitsW_rise⟩);obtain⟨h1,h2⟩:=bitsW_mem.1 hj;rw[hbb,hb]at h2;simp only[Bool.and_eq_true,decide_eq_true_eq]at h2;omega
   ·simp only[List.mem_map,List.mem_cons,bitsW_mem];constructor
    ·rintro⟨j,⟨h1,h2⟩,rfl⟩;by_cases e:j=k
     ·exact⟨j,Or.inl e,rfl⟩
     ·exact⟨j,Or.inr ⟨h1,by rw[hbb,h2];simpa using e⟩,rfl⟩
    ·rintro⟨j,(rfl|⟨h1,h2⟩),rfl⟩
     ·exact⟨j,⟨hk,by rw[hb];simp⟩,rfl⟩
     ·rw[hbb,Bool.and_eq_true]at h2;exact⟨j,⟨h1,h2.1⟩,rfl⟩
  exact(List.map_inj_right (fun a b h=>Int.ofNat.inj h)).1 hx
 ·have:=Nat.and_le_right (n:=w) (m:=w-1);omega
theorem bitsW_zero:bitsW 0=[]:=by simp[bitsW]
end Go.Proofs.YtlenilbkifofjaaGreatDoor
namespace Go.Proofs.YtlenilbkifofjaaGreatDoor
open Go.RowKit
def joinsW(wss:List (List Nat))(ns:List Nat)(s:List Nat):List Nat:=ns.foldl (fun s n=>joinW s (wss.getD n [])) s
def dropD(d:Int)(s:List Nat):List Nat:=if d<0 then s else dropW s d.toNat
def putsW(rs:List Int)(s:List Nat):List Nat:=rs.foldl (fun s r=>putW s r.toNat) s
def aheadW(l:List InsS)(nw:Nat)(wss:List (List Nat))(k:Nat)(x:InsS):List Nat:=putsW (usesL x) (dropD (defL x) (joinsW wss (nextL l k) (List.replicate nw 0)))
def Sets(nw:Nat)(wss:List (List Nat)):Prop:=∀ws,ws∈wss→ws.length=nw∧In64W ws
def RegsIn(R:Nat)(x:InsS):Prop:=(∀r,r∈regsL x→0≤r∧r<(R:Int))∧defL x<(R:Int)
theorem listW_zero{nw i:Nat}:listW i (List.replicate nw 0)=[]:=by
 induction nw generalizing i with
 |zero=>rfl
 |succ n ih=>rw[List.replicate_succ,listW,bitsW_zero,ih];rfl
theorem zero_64{nw:Nat}:In64W (List.replicate nw 0):=by
 intro w hw;rw[List.eq_of_mem_replicate hw];omega
section
variable {nw:Nat} {wss:List (List Nat)}
theorem Sets.getD(h:Sets nw wss){n:Nat}(hn:n<wss.length):(wss.getD n []).length=nw∧In64W (wss.getD n []):=by
 rw[List.getD_eq_getElem?_getD,List.getElem?_eq_getElem hn];exact h _ (List.getElem_mem hn)
theorem joinsW_snoc{ns:List Nat}{n:Nat}{s:List Nat}:joinsW wss (ns++[n]) s=joinW (joinsW wss ns s) (wss.getD n []):=by simp[joinsW]
theorem joinsW_good(h:Sets nw wss):∀{ns:List Nat}{s:List Nat},(∀n,n∈ns→n<wss.length)→s.length=nw→In64W s→(joinsW wss ns s).length=nw∧In64W (joinsW wss ns s)∧∀q:Nat,(q:Int)∈listW 0 (joinsW wss ns s)↔(q:Int)∈listW 0 s∨∃n,n∈ns∧(q:Int)∈listW 0 (wss.getD n [])
 |[],s,_,hl,h64=>⟨hl,h64,fun q=>by simp[joinsW]⟩
 |n::ns,s,hn,hl,h64=>by
  obtain⟨g1,g2⟩:=h.getD (hn n (by simp));have hlj:s.length=(wss.getD n []).length:=by omega
  obtain⟨i1,i2,i3⟩:=joinsW_good h (ns:=ns) (s:=joinW s (wss.getD n [])) (fun m hm=>hn m (by simp[hm])) (by rw[joinW_len hlj,hl]) (joinW_64 h64 g2);refine⟨i1,i2,fun q=>(i3 q).trans ?_⟩;rw[joinW_mem hlj];simp only[List.mem_cons];constructor
  ·rintro((h1|h1)|⟨m,h1,h2⟩)
   ·exact Or.inl h1
   ·exact Or.inr ⟨n,Or.inl rfl,h1⟩
   ·exact Or.inr ⟨m,Or.inr h1,h2⟩
  ·rintro(h1|⟨m,rfl|h1,h2⟩)
   ·exact Or.inl (Or.inl h1)
   ·exact Or.inl (Or.inr h2)
   ·exact Or.inr ⟨m,h1,h2⟩
theorem dropD_good{d:Int}{s:List Nat}(hd:d<((nw*64:Nat):Int))(hl:s.length=nw)(h64:In64W s):(dropD d s).length=nw∧In64W (dropD d s)∧∀q:Nat,(q:Int)∈listW 0 (dropD d s)↔(q:Int)≠d∧(q:Int)∈listW 0 s:=by
 unfold dropD;split
 ·exact⟨hl,h64,fun q=>⟨fun h=>⟨by omega,h⟩,And.right⟩⟩
 ·obtain⟨m,rfl⟩:∃m:Nat,d=(m:Int):=⟨d.toNat,by omega⟩
  refine⟨by rw[dropW_len,hl],dropW_64 h64 _,fun q=>?_⟩;rw[Int.toNat_natCast,dropW_mem (by omega)];exact and_congr_left fun _=>by omega
theorem putsW_snoc{rs:List Int}{r:Int}{s:List Nat}:putsW (rs++[r]) s=putW (putsW rs s) r.toNat:=by simp[putsW]
theorem putsW_good:∀{rs:List Int}{s:List Nat},(∀r,r∈rs→0≤r∧r<((nw*64:Nat):Int))→s.length=nw→In64W s→(putsW rs s).length=nw∧In64W (putsW rs s)∧∀q:Nat,(q:Int)∈listW 0 (putsW rs s)↔(q:Int)∈rs∨(q:Int)∈listW 0 s
 |[],s,_,hl,h64=>⟨hl,h64,fun q=>by simp[putsW]⟩
 |r::rs,s,hr,hl,h64=>by
  obtain⟨h0,h1⟩:=hr r (by simp);obtain⟨m,rfl⟩:∃m:Nat,r=(m:Int):=⟨r.toNat,by omega⟩
  have hm:m/64<s.length:=by omega
  obtain⟨i1,i2,i3⟩:=putsW_good (rs:=rs) (s:=putW s m) (fun r h=>hr r (by simp[h])) (by rw[putW_len,hl]) (putW_64 h64 m);rw[show putsW ((m:Int)::rs) s=putsW rs (putW s m)from by simp[putsW]];refine⟨i1,i2,fun q=>(i3 q).trans ?_⟩;rw[putW_mem hm,List.mem_cons];constructor
  ·rintro(h|h|h)
   ·exact Or.inl (Or.inr h)
   ·exact Or.inl (Or.inl (by omega))
   ·exact Or.inr h
  ·rintro((h|h)|h)
   ·exact Or.inr (Or.inl (by omega))
   ·exact Or.inl h
   ·exact Or.inr (Or.inr h)
end
theorem listW_nat{ws:List Nat}{r:Int}(h:r∈listW 0 ws):∃q:Nat,r=(q:Int)∧q<ws.length*64:=by
 have:=listW_low h;exact⟨r.toNat,by omega,by omega⟩
theorem memR_map{wss:List (List Nat)}{k:Nat}{r:Int}:memR (wss.map (listW 0)) k r↔k<wss.length∧r∈listW 0 (wss.getD k []):=by
 unfold memR;rw[List.getElem?_map];by_cases hk:k<wss.length
 ·rw[List.getElem?_eq_getElem hk,List.getD_eq_getElem?_getD,List.getElem?_eq_getElem hk];simp[hk]
 ·rw[List.getElem?_eq_none (by omega)];simp[hk]
section
variable {l:List InsS} {nw R:Nat} {wss:List (List Nat)} {k:Nat} {x:InsS}
theorem aheadW_good(hs:Sets nw wss)(hlen:wss.length=l.length+1)(hR:R≤nw*64)(hx:RegsIn R x)(hk:l[k]? =some x)(hn:∀n,n∈nextL l k→n<wss.length):
  (aheadW l nw wss k x).length=nw∧In64W (aheadW l nw wss k x)∧∀r,r∈listW 0 (aheadW l nw wss k x)↔LiveF l (memR (wss.map (listW 0))) k r:=by
 obtain⟨a1,a2,a3⟩:=joinsW_good hs (ns:=nextL l k) (s:=List.replicate nw 0) hn (by simp) zero_64;obtain⟨b1,b2,b3⟩:=dropD_good (nw:=nw) (d:=defL x) (s:=joinsW wss (nextL l k) (List.replicate nw 0)) (by have:=hx.2;omega) a1 a2;obtain⟨c1,c2,c3⟩:=putsW_good (nw:=nw) (rs:=usesL x) (s:=dropD (defL x) (joinsW wss (nextL l k) (List.replicate nw 0))) (fun r hr=>by have:=hx.1 r (usesL_mem.1 hr);omega) b1 b2;refine⟨c1,c2,fun r=>?_⟩;have key:∀q:Nat,(q:Int)∈listW 0 (aheadW l nw wss k x)↔LiveF l (memR (wss.map (listW 0))) k (q:Int):=fun q=>by
  rw[show aheadW l nw wss k x=putsW (usesL x) (dropD (defL x) (joinsW wss (nextL l k) (List.replicate nw 0)))from rfl,c3,b3,a3,listW_zero,usesL_mem];simp only[List.not_mem_nil,false_or];constructor
  ·rintro(h|⟨h1,n,h2,h3⟩)
   ·exact⟨x,hk,Or.inl h⟩
   ·exact⟨x,hk,Or.inr ⟨h1,n,h2,memR_map.2 ⟨hn n h2,h3⟩⟩⟩
  ·rintro⟨y,hy,h⟩;rw[hk]at hy;injection hy with hy;subst hy;rcases h with h|⟨h1,n,h2,h3⟩
   ·exact Or.inl h
   ·exact Or.inr ⟨h1,n,h2,(memR_map.1 h3).2⟩
 constructor
 ·intro h;obtain⟨q,rfl,_⟩:=listW_nat h;exact(key q).1 h
 ·intro h;have h0:0≤r:=by
   obtain⟨y,hy,h⟩:=h;rw[hk]at hy;injection hy with hy;subst hy;rcases h with h|⟨_,n,_,h3⟩
   ·exact(hx.1 r h).1
   ·obtain⟨q,rfl,_⟩:=listW_nat (memR_map.1 h3).2;omega
  obtain⟨q,rfl⟩:∃q:Nat,r=(q:Int):=⟨r.toNat,by omega⟩
  exact(key q).2 h
end
end Go.Proofs.YtlenilbkifofjaaGreatDoor
namespace Go.Proofs.YtlenilbkifofjaaGreatDoor
open Go.RowKit
def WordsAt(w:World)(b:Nat)(ws:List Nat):Prop:=∃cs,Row w b cs 98∧cs.size=ws.length∧(∀(j x:Nat),ws[j]? =some x→cs[j]? =some (Value.int .u64 (x:Nat)))∧In64W ws
theorem WordsAt.wr{F:Nat→Prop}{w w':World}{b:Nat}{ws:List Nat}(h:WordsAt w b ws)(hw:Wr F w w')(hF:¬F b):WordsAt w' b ws:=by
 obtain⟨cs,h1,h2⟩:=h;exact⟨cs,h1.wr hw hF,h2⟩
theorem WordsAt.below{B:Nat}{w w':World}{b:Nat}{ws:List Nat}(h:WordsAt w b ws)(hw:Below B w w')(hb:b<B):WordsAt w' b ws:=by
 obtain⟨cs,h1,h2⟩:=h;exact⟨cs,h1.below hw hb,h2⟩
theorem WordsAt.lt{w:World}{b:Nat}{ws:List Nat}(h:WordsAt w b ws):b<w.heap.size:=by
 obtain⟨cs,h1,_⟩:=h;exact h1.lt
theorem WordsAt.free{w:World}{b:Nat}{ws:List Nat}(h:WordsAt w b ws)(j:Nat):w.frozen? ⟨b,j,none⟩=false:=by
 obtain⟨cs,h1,_⟩:=h;exact h1.free j
theorem WordsAt.cell{w:World}{b:Nat}{ws:List Nat}(h:WordsAt w b ws){j:Nat}(hj:j<ws.length):w.cell? ⟨b,j,none⟩=some (.int .u64 (ws.getD j 0:Nat)):=by
 obtain⟨cs,h1,_,h3,_⟩:=h;exact h1.cell (h3 j _ (by rw[getD_of hj];exact List.getElem?_eq_getElem hj))
theorem WordsAt.set{w:World}{b:Nat}{ws:List Nat}(h:WordsAt w b ws){j v:Nat}(hj:j<ws.length)(hv:v<2^64):WordsAt (w.setCell ⟨b,j,none⟩ (.int .u64 v)) b (ws.set j v):=by
 obtain⟨cs,h1,h2,h3,h4⟩:=h;refine⟨_,h1.set j _,by simp[h2],fun i x hi=>?_,set_64 h4 hv⟩;by_cases hij:j=i
 ·subst hij;rw[List.getElem?_set_self hj]at hi;rw[Array.getElem?_setIfInBounds_self_of_lt (by omega)];simp at hi;rw[hi]
 ·rw[List.getElem?_set_ne hij]at hi;rw[Array.getElem?_setIfInBounds_ne hij];exact h3 i x hi
def SetSays(b:Nat)(ws:List Nat)(w:World)(e:Ending)(w':World):Prop:=e= .returned (.tuple #[])∧WordsAt w' b ws∧Wr (fun k=>k=b) w w'
theorem bits_or_word{a n:Nat}(ha:a<2^64)(hn:n<64):bits .or .u64 (a:Int) (IntKind.u64.wrap (2^n))=((a|||2^n:Nat):Int):=by
 have h:=Nat.pow_lt_pow_right (a:=2) (by omega) hn;have e0:((2^n:Nat):Int)=(2:Int)^n:=by simp
 have e:IntKind.u64.wrap (2^n)=((2^n:Nat):Int):=by
  rw[IntKind.wrap_u64,←e0];have hh:2^n<18446744073709551616:=by simpa using h
  generalize (2:Nat)^n=p at hh ⊢;omega
 rw[e];exact bits_or_u64_nat _ _ (by omega) (by omega)
theorem bits_andNot_word{a n:Nat}(ha:a<2^64)(hn:n<64):bits .andNot .u64 (a:Int) (IntKind.u64.wrap (2^n))=((a &&& (2^64-1-2^n):Nat):Int):=by
 have h:=Nat.pow_lt_pow_right (a:=2) (by omega) hn;have e0:((2^n:Nat):Int)=(2:Int)^n:=by simp
 have e:IntKind.u64.wrap (2^n)=((2^n:Nat):Int):=by
  rw[IntKind.wrap_u64,←e0];have hh:2^n<18446744073709551616:=by simpa using h
  generalize (2:Nat)^n=p at hh ⊢;omega
 rw[e];have h1:(BitVec.ofInt 64 (a:Int)).toNat=a:=by
  rw[BitVec.ofInt_natCast,BitVec.toNat_ofNat];exact Nat.mod_eq_of_lt (by omega)
 have h2:(BitVec.ofInt 64 ((2^n:Nat):Int)).toNat=2^n:=by
  rw[BitVec.ofInt_natCast,BitVec.toNat_ofNat];exact Nat.mod_eq_of_lt (by omega)
 show IntKind.u64.wrap ((BitVec.ofInt 64 (a:Int)&&& ~~~ BitVec.ofInt 64 ((2^n:Nat):Int)).toNat:Int)=_;rw[BitVec.toNat_and,BitVec.toNat_not,h1,h2,IntKind.wrap_u64];have:=Nat.and_le_left (n:=a) (m:=2^64-1-2^n);omega
theorem lput_any(b:Nat)(ws:List Nat)(r:Nat)(cap:Nat)(w:World)(h:WordsAt w b ws)(hr:r/64<ws.length)(h64:r<2^62):
  Calls Tryz.prog 53 #[.slice (some ⟨b,0,none⟩) ws.length cap,.int .i64 (r:Nat)] w fun e w'=>SetSays b (putW ws r) w e w':=by
 have c0:=h.cell hr;have c1:=h.free (r/64);have cl:=h.lt;have hlt:ws[r/64]<2^64:=by obtain⟨_,_,_,_,h4⟩:=h;exact h4 _ (List.getElem_mem hr)
 have HS:=Lib.hid (h.set hr (v:=ws[r/64]|||2^(r%64)) (Nat.or_lt_two_pow hlt (Nat.pow_lt_pow_right (by omega) (by omega))));have HE:=Lib.hid (bits_or_word hlt (show r%64<64 by omega));have HP:=Lib.hid (show putW ws r=ws.set (r/64) (ws[r/64]|||2^(r%64))from by rw[putW,getD_of hr]);clear h;go_enter Tryz.func53,Tryz.ntmps53;refine wp_letter (fun Q hQ=>?_);have HQ:=Lib.hid hQ;clear hQ;go_wp2_with fail;go_region;refine HQ.out _ _ _ ?_;exact bodyPost_ret (v:= .tuple #[]) (by simp[results,Tryz.results53,go_sem]) rfl ⟨rfl,by rw[HE.out,HP.out];exact HS.out,(Wr.cell1 w b _ _).drewR⟩
theorem ldrop_any(b:Nat)(ws:List Nat)(r:Nat)(cap:Nat)(w:World)(h:WordsAt w b ws)(hr:r/64<ws.length)(h64:r<2^62):
  Calls Tryz.prog 51 #[.slice (some ⟨b,0,none⟩) ws.length cap,.int .i64 (r:Nat)] w fun e w'=>SetSays b (dropW ws r) w e w':=by
 have c0:=h.cell hr;have c1:=h.free (r/64);have cl:=h.lt;have hlt:ws[r/64]<2^64:=by obtain⟨_,_,_,_,h4⟩:=h;exact h4 _ (List.getElem_mem hr)
 have HS:=Lib.hid (h.set hr (v:=ws[r/64]&&& (2^64-1-2^(r%64))) (Nat.lt_of_le_of_lt Nat.and_le_left hlt));have HE:=Lib.hid (bits_andNot_word hlt (show r%64<64 by omega));have HP:=Lib.hid (show dropW ws r=ws.set (r/64) (ws[r/64]&&& (2^64-1-2^(r%64)))from by rw[dropW,getD_of hr]);clear h;go_enter Tryz.func51,Tryz.ntmps51;refine wp_letter (fun Q hQ=>?_);have HQ:=Lib.hid hQ;clear hQ;go_wp2_with fail;go_region;refine HQ.out _ _ _ ?_;exact bodyPost_ret (v:= .tuple #[]) (by simp[results,Tryz.results51,go_sem]) rfl ⟨rfl,by rw[HE.out,HP.out];exact HS.out,(Wr.cell1 w b _ _).drewR⟩
def mixW(k:Nat)(a c:List Nat):List Nat:=(joinW a c).take k++a.drop k
theorem mixW_len{k:Nat}{a c:List Nat}(hl:a.length=c.length):(mixW k a c).length=a.length:=by
 simp[mixW,joinW_len hl];omega
theorem mixW_zero{a c:List Nat}:mixW 0 a c=a:=by simp[mixW]
theorem mixW_all{a c:List Nat}(hl:a.length=c.length):mixW a.length a c=joinW a c:=by
 simp[mixW,←joinW_len hl]
theorem mixW_get{k:Nat}{a c:List Nat}(hl:a.length=c.length)(hk:k<a.length):(mixW k a c)[k]'(by rw[mixW_len hl];exact hk)=a[k]:=by
 unfold mixW;rw[List.getElem_append_right (by simp;omega)];simp[joinW_len hl,Nat.min_eq_left (Nat.le_of_lt hk)]
theorem mixW_next{k:Nat}{a c:List Nat}(hl:a.length=c.length)(hk:k<a.length)(hk':k<c.length):(mixW k a c).set k (a[k]|||c[k])=mixW (k+1) a c:=by
 have hj:=joinW_len hl;refine List.ext_getElem (by rw[List.length_set,mixW_len hl,mixW_len hl]) fun i h1 h2=>?_;rw[List.getElem_set];simp only[mixW,List.getElem_append,List.length_take,hj,List.getElem_take,List.getElem_drop];by_cases e:k=i
 ·subst e;rw[if_pos rfl,dif_pos (by omega)];simp[joinW]
 ·rw[if_neg e];by_cases h3:i<k
  ·rw[dif_pos (by omega),dif_pos (by omega)]
  ·rw[dif_neg (by omega),dif_neg (by omega)]
   congr 1
   omega
theorem ljoin_any(b tb:Nat)(a c:List Nat)(cap cap':Nat)(w:World)(h:WordsAt w b a)(h':WordsAt w tb c)(hl:a.length=c.length)(hne:tb≠b)(h62:a.length<2^62):
  Calls Tryz.prog 49 #[.slice (some ⟨b,0,none⟩) a.length cap,.slice (some ⟨tb,0,none⟩) c.length cap'] w fun e w'=>SetSays b (joinW a c) w e w':=by
 have HT:=Lib.hid h';have HS:=Lib.hid h;have H64a:In64W a:=by obtain⟨_,_,_,_,h4⟩:=h;exact h4
 have H64c:In64W c:=by obtain⟨_,_,_,_,h4⟩:=h';exact h4
 have HA:=Lib.hid H64a;have HC:=Lib.hid H64c;have hnm:(a.length:Int)=(c.length:Int):=by omega
 clear h h' H64a H64c;go_enter Tryz.func49,Tryz.ntmps49;refine wp_letter (fun Q hQ=>?_);have HQ:=Lib.hid hQ;clear hQ;go_wp2_with fail;go_loopw [7] (fun i wr=>∃k:Nat,i= .int .i64 (k:Nat)∧k≤a.length∧WordsAt wr b (mixW k a c)∧Wr (fun k=>k=b) w wr) (fun i _=>a.length-(intOf i).toNat)
 case atStart=>exact⟨0,rfl,Nat.zero_le _,by rw[mixW_zero];exact HS.out,Wr.refl _ _⟩
 case round=>
  obtain⟨k,rfl,hk,hm,hw⟩:=hrel;by_cases hlt:k<a.length
  ·have hlt':k<c.length:=by omega
   have hkm:k<(mixW k a c).length:=by rw[mixW_len hl];exact hlt
   have c0:=hm.cell hkm;have c1:=hm.free k;have cl:=hm.lt;have ht:=HT.out.wr hw (fun h=>hne h);have d0:=ht.cell hlt';have dl:=ht.lt;rw[getD_of hkm,mixW_get hl hlt]at c0;rw[getD_of hlt']at d0;have hk0:(k:Int)<(a.length:Int):=by omega
   have hk1:(k:Int)<(c.length:Int):=by omega
   have HE:=Lib.hid (bits_or_u64_nat a[k] c[k] (HA.out _ (List.getElem_mem hlt)) (HC.out _ (List.getElem_mem hlt')));have HM:=Lib.hid (hm.set hkm (v:=a[k]|||c[k]) (Nat.or_lt_two_pow (HA.out _ (List.getElem_mem hlt)) (HC.out _ (List.getElem_mem hlt'))));have HN:=Lib.hid (mixW_next hl hlt hlt');have HW:=Lib.hid (hw.trans (Wr.cell1 wr b k (.int .u64 ((a[k]|||c[k]:Nat):Int))) (fun _ h=>Or.inl h));clear hm hw ht hl;go_wp2_with fail;go_region;go_wp2_with fail;go_roundw
   case rel=>exact⟨k+1,by go_num,hlt,by rw[HE.out,←HN.out];exact HM.out,by rw[HE.out];exact HW.out.drewR⟩
   case measure=>simp[intOf];omega
  ·obtain rfl:k=a.length:=by omega
   have HM:=Lib.hid hm;have HW:=Lib.hid hw;have HN:=Lib.hid (mixW_all hl);clear hm hw;go_wp2_with fail;refine HQ.out _ _ _ ?_;exact bodyPost_ret (v:= .tuple #[]) (by simp[results,Tryz.results49,go_sem]) rfl ⟨rfl,by rw[←HN.out];exact HM.out,HW.out⟩
theorem lequal_any(b tb:Nat)(a c:List Nat)(cap cap':Nat)(w:World)(h:WordsAt w b a)(h':WordsAt w tb c)(hl:a.length=c.length)(h62:a.length<2^62):
  Calls Tryz.prog 34 #[.slice (some ⟨b,0,none⟩) a.length cap,.slice (some ⟨tb,0,none⟩) c.length cap'] w fun e w'=>e= .returned (.bool (decide (a=c)))∧Below w.heap.size w w':=by
 have HT:=Lib.hid h';have HS:=Lib.hid h;have HL:=Lib.hid hl;rw[←hl];clear h h' hl;go_enter Tryz.func34,Tryz.ntmps34;refine wp_letter (fun Q hQ=>?_);have HQ:=Lib.hid hQ;clear hQ;go_wp2_with fail;go_loopw [13] (fun i wr=>∃k:Nat,i= .int .i64 (k:Nat)∧k≤a.length∧a.take k=c.take k∧Below w.heap.size w wr) (fun i _=>a.length-(intOf i).toNat)
 case atStart=>exact⟨0,rfl,Nat.zero_le _,by simp,Below.refl _ _⟩
 case round=>
  obtain⟨k,rfl,hk,he,hb⟩:=hrel;by_cases hlt:k<a.length
  ·have hlt':k<c.length:=by have:=HL.out;omega
   have hm:=HS.out.below hb HS.out.lt;have ht:=HT.out.below hb HT.out.lt;have c0:=hm.cell hlt;have cl:=hm.lt;have d0:=ht.cell hlt';have dl:=ht.lt;rw[getD_of hlt]at c0;rw[getD_of hlt']at d0;have hk0:(k:Int)<(a.length:Int):=by omega
   have HE:=Lib.hid he;have HB:=Lib.hid hb;obtain⟨x,hx⟩:∃x,x=a[k]:=⟨_,rfl⟩
   obtain⟨y,hy⟩:∃y,y=c[k]:=⟨_,rfl⟩
   rw[←hx]at c0;rw[←hy]at d0;have HX:=Lib.hid hx;have HY:=Lib.hid hy;clear hm ht he hb hx hy;by_cases hxy:x=y
   ·subst hxy;go_wp2_with fail;go_region;go_wp2_with fail;go_roundw
    case rel=>
     refine⟨k+1,by go_num,hlt,?_,HB.out.drew⟩;rw[List.take_succ_eq_append_getElem hlt,List.take_succ_eq_append_getElem hlt',HE.out,←HX.out,HY.out]
    case measure=>simp[intOf];omega
   ·have d1:((x:Int)==(y:Int))=false:=beq_eq_false_iff_ne.2 (by omega);have d2:((x:Int) !=(y:Int))=true:=bne_iff_ne.2 (by omega);have HR:=Lib.hid (show decide (a=c)=false from by
     refine decide_eq_false fun e=>hxy ?_;rw[HX.out,HY.out];subst e;rfl)
    clear hxy;go_wp2_with fail;go_region;go_wp2_with fail;refine HQ.out _ _ _ ?_;exact bodyPost_ret (v:= .bool false) (by simp[results,Tryz.results34,go_sem]) rfl ⟨by rw[HR.out],HB.out.drew⟩
  ·obtain rfl:k=a.length:=by omega
   have HB:=Lib.hid hb;have HR:=Lib.hid (show decide (a=c)=true from by
    refine decide_eq_true ?_;have:=HL.out
    rwa [List.take_length,this,List.take_length]at he)
   clear hb he;go_wp2_with fail;refine HQ.out _ _ _ ?_;exact bodyPost_ret (v:= .bool true) (by simp[results,Tryz.results34,go_sem]) rfl ⟨by rw[HR.out],HB.out⟩
theorem tz_core(x k idx:Nat)(w:World)(hx0:((x:Int)==0)=false)
  (key:IntKind.u64.wrap (bits BinOp.and IntKind.u64 (x:Int) (IntKind.u64.wrap (-(x:Int)))*285870213051353865)/288230376151711744=(idx:Int))
  (hi:idx<64)(hk:k<64)(hcell:w.cell? ⟨0,idx,none⟩=some (.int .u8 k)):
  Calls Tryz.prog 54 #[.int .u64 x] w fun e w'=>e= .returned (.int .i64 k)∧w'=w:=by
 go_enter Tryz.func54,Tryz.ntmps54;go_wp2_with(simp only[key]);go_ret;exact⟨rfl,rfl⟩
theorem ltz_any(x:Nat)(h0:x≠0)(hx:x<18446744073709551616)(w:World)(hT:TabAt 0 Lib.deBruijn64tab w):
  Calls Tryz.prog 54 #[.int .u64 x] w fun e w'=>e= .returned (.int .i64 (Lib.ctz 64 x))∧w'=w:=by
 obtain⟨hlow,hk⟩:=Lib.lowest_bit 64 x h0 hx;obtain⟨hi,htab⟩:=Lib.deBruijn64_at _ hk;have hcell:=hT _ hi;rw[htab]at hcell;exact tz_core x _ _ w (beq_eq_false_iff_ne.2 (by omega)) (tz64_key x _ hx h0 hlow) hi hk hcell
theorem tab_below{g B:Nat}{t:List Nat}{w w':World}(h:TabAt g t w)(hb:Below B w w')(hg:g<B):TabAt g t w':=fun j hj=>cell_below (h j hj) hb hg
theorem bits_and_less{v:Nat}(h0:v≠0)(h:v<2^64):bits BinOp.and IntKind.u64 (v:Int) (IntKind.u64.wrap ((v:Int)-1))=((v &&& (v-1):Nat):Int):=by
 have e:IntKind.u64.wrap ((v:Int)-1)=((v-1:Nat):Int):=by
  rw[IntKind.wrap_u64];omega
 rw[e];exact bits_and_u64_nat _ _ (by omega) (by omega)
theorem listW_take{ws:List Nat}{k:Nat}(h:k<ws.length):listW 0 (ws.take (k+1))=listW 0 (ws.take k)++(bitsW ws[k]).map (fun j=>((k*64+j:Nat):Int)):=by
 have g:∀(l:List Nat)(i v:Nat),listW i (l++[v])=listW i l++(bitsW v).map (fun j=>(((i+l.length)*64+j:Nat):Int)):=by
  intro l
  induction l with
  |nil=>intro i v;simp[listW]
  |cons a l ih=>
   intro i v;rw[List.cons_append,listW,ih,listW,List.append_assoc]
   congr 3
   simp only[List.length_cons]
   funext j
   congr 3
   omega
 rw[List.take_succ_eq_append_getElem h,g];simp[Nat.min_eq_left (Nat.le_of_lt h)]
theorem listW_len{ws:List Nat}:(listW 0 ws).length≤ws.length*64:=by
 refine listW_rise.bound fun x hx=>?_;have:=listW_low hx;omega
theorem WordsAt.word{w:World}{b:Nat}{ws:List Nat}(h:WordsAt w b ws){j x:Nat}(hj:ws[j]? =some x):w.cell? ⟨b,j,none⟩=some (.int .u64 (x:Nat))∧x<2^64:=by
 obtain⟨cs,h1,_,h3,h4⟩:=h;exact⟨h1.cell (h3 j _ hj),h4 _ (List.mem_of_getElem? hj)⟩
theorem listW_word{ws:List Nat}{k v:Nat}(h:ws[k]? =some v):listW 0 (ws.take (k+1))=listW 0 (ws.take k)++(bitsW v).map (fun j=>((k*64+j:Nat):Int)):=by
 obtain⟨hk,hv⟩:=List.getElem?_eq_some_iff.1 h;rw[listW_take hk,hv]
def Mid(ws:List Nat)(k v:Nat)(l:List Int):Prop:=v<2^64∧l++(bitsW v).map (fun j=>((k*64+j:Nat):Int))=listW 0 (ws.take (k+1))
theorem llist_any(b:Nat)(ws:List Nat)(cap:Nat)(w:World)(h:WordsAt w b ws)(h62:ws.length≤1000)(hT:TabAt 0 Lib.deBruijn64tab w)(hg:0<w.heap.size):
  Calls Tryz.prog 35 #[.slice (some ⟨b,0,none⟩) ws.length cap] w (ListEnd LongE 1 (listW 0 ws) w):=by
 have HS:=Lib.hid h;have HT:=Lib.hid (fun W(hW:Below w.heap.size w W)=>tab_below hT hW hg);have H64:=Lib.hid (show In64W ws from by obtain⟨_,_,_,_,h4⟩:=h;exact h4);clear h hT hg;obtain⟨i0,hi,hz0,hz1,hz2⟩:=info_parts cint_info;go_enter Tryz.func35,Tryz.ntmps35;refine wp_letter (fun Q hQ=>?_);have HQ:=Lib.hid hQ;clear hQ;go_wp2_with fail;go_loopw [2,7] (fun r i wr=>∃(k:Nat)(LA:Option Addr)(ln lc:Nat)(xs:List Value),k≤ws.length∧i= .int .i64 k∧r= .slice LA ln lc∧RowE LongE 3 1 w.heap.size wr (.slice LA ln lc) (listW 0 (ws.take k)) xs∧Below w.heap.size w wr) (fun _ i _=>ws.length-(intOf i).toNat)
 case atStart=>exact⟨0,none,0,0,[],by omega,rfl,rfl,RowE.nil _ _ _ _ _,Below.refl _ _⟩
 case round=>
  obtain⟨k,LA,ln,lc,xs,hk,rfl,rfl,hR,hbw⟩:=hrel;by_cases hlt:k<ws.length
  ·have hm:=HS.out.below hbw HS.out.lt;obtain⟨v0,hv0⟩:∃v,ws[k]? =some v:=⟨_,List.getElem?_eq_getElem hlt⟩
   obtain⟨c0,hv64⟩:=hm.word hv0;have cl:=hm.lt;have hk0:(k:Int)<(ws.length:Int):=by omega
   have HR:=Lib.hid hR;have HBW:=Lib.hid hbw;have HLT:=Lib.hid hlt;have HM:=Lib.hid (show Mid ws k v0 (listW 0 (ws.take k))from⟨hv64,(listW_word hv0).symm⟩);obtain⟨l0,hl0⟩:∃l,l=listW 0 (ws.take k):=⟨_,rfl⟩
   rw[←hl0]at HM HR;clear hR hbw hm hv0 hv64 hl0;go_wp2_with fail;obtain⟨w1,hw1⟩:∃w1:World,w1=wr:=⟨_,rfl⟩
   have HW1:=Lib.hid hw1;clear hw1;go_loopw [2,4] (fun r v wr=>∃(n:Nat)(l:List Int)(LA:Option Addr)(ln lc:Nat)(xs:List Value),v= .int .u64 n∧r= .slice LA ln lc∧Mid ws k n l∧RowE LongE 3 1 w.heap.size wr (.slice LA ln lc) l xs∧Below w.heap.size w wr) (fun _ v _=>(intOf v).toNat)
   case atStart=>exact⟨v0,l0,LA,ln,lc,xs,rfl,rfl,HM.out,HR.out,HBW.out⟩
   case round=>
    obtain⟨n,l,LA,ln,lc,xs,rfl,rfl,hM,hR,hbw⟩:=hrel;have hzw:=hbw.size;by_cases h0:n=0
    ·subst h0;have HM2:=Lib.hid (show l=listW 0 (ws.take (k+1))from by have:=hM.2;rwa [bitsW_zero,List.map_nil,List.append_nil]at this);rw[HM2.out]at hR;have HR2:=Lib.hid hR;have HB2:=Lib.hid hbw;clear hM hR hbw;go_wp2_with fail;go_roundw
     case rel=>exact⟨k+1,_,_,_,_,HLT.out,by go_num,rfl,HR2.out,HB2.out⟩
     case measure=>have:=HLT.out;simp[intOf];omega
    ·have d1:((n:Int)==0)=false:=beq_eq_false_iff_ne.2 (by omega);have d2:((n:Int) !=0)=true:=bne_iff_ne.2 (by omega);obtain⟨e1,e2,e3⟩:=bitsW_next h0 hM.1;have hn64:=hM.1;have key:=bits_and_less h0 hn64;obtain⟨z,hz⟩:∃z,z=Lib.ctz 64 n:=⟨_,rfl⟩
     have HTZ:=Lib.hid (fun W(hW:Below w.heap.size w W)=>ltz_any n h0 hn64 W (HT.out W hW));rw[←hz]at e1 e2 HTZ;have hM2:Mid ws k (n &&& (n-1)) (l++[((k*64+z:Nat):Int)]):=⟨by omega,by rw[←hM.2,e1];simp⟩
     have hlen:(l++[((k*64+z:Nat):Int)]).length≤ws.length*64:=by
      have h1:=hM2.2;have h2:=listW_len (ws:=ws.take (k+1));rw[←h1]at h2;have h3:(ws.take (k+1)).length≤ws.length:=by simp;omega
      simp at h2 ⊢;omega
     have hzl:l.length<64000:=by simp at hlen;omega
     have hlt2:=HLT.out;have HX:=Lib.hid (show In64 ((k*64+z:Nat):Int)from by unfold In64;omega);have hcast:(k:Int)*64+(z:Int)=((k*64+z:Nat):Int):=by omega
     obtain⟨q,hq⟩:∃q,q=k*64+z:=⟨_,rfl⟩
     rw[←hq]at hM2 HX hcast;have HR:=Lib.hid hR;have HBW:=Lib.hid hbw;have HM2:=Lib.hid hM2;have HE3:=Lib.hid e3;have hqb:(q:Int)≤64000:=by omega
     have hkb:(k:Int)≤1000:=by omega
     have hzb:(z:Int)<64:=by omega
     clear hM hM2 hR hbw e1 e2 e3 h0 hz hlen hq;go_wp2_with(first|(go_at_call 54;refine(HTZ.out _ HBW.out).mono ?_;rintro e w' ⟨rfl,hw'⟩;rw[hw'];clear hw' w')|(at_builtin;refine wpList_append_lies _ rfl (.tmp 18) (.tmp 24) 41 rfl w.heap.size 3 i0 (.int .i64 0) 1 8 Tryz.underlying41 hi hz0 hz1 hz2 rfl (by decide) _ l.length xs rfl (by have h:=HR.out.own;exact(ownsRow_wr h ((Wr.refl (fun _=>False) _).allocR _) (fun _ _ h=>h))) ⟨wr.heap.size,0,none⟩ 1 1 [.int .i64 (q:Nat)] rfl rfl ?c1 ?c2 (by decide) ?c3 ?c4 ?c5 _ rfl ?_))
     case c1=>exact cells_new _ _ _
     case c2=>intro u hu;simp at hu;rcases hu with rfl;rfl
     case c3=>unfold maxLen;omega
     case c4=>omega
     case c5=>first|omega|(simp<;>omega)
     ·intro g cap' w3 hown3 hgrow hat hglt;have HN:=Lib.hid (show RowE LongE 3 1 w.heap.size w3 (.slice (some ⟨g,0,none⟩) (l.length+1) cap') (l++[(q:Int)]) (xs++[.int .i64 q])from
       RowE.next LongE.mono HR.out (by omega) (Below.refl _ _) (us:=[.int .i64 q]) (x:=(q:Int)) ⟨rfl,HX.out⟩ rfl (below1 wr _) hown3 hgrow (by simpa using hat))
      have HBN:=Lib.hid (show Below w.heap.size w w3 from HBW.out.trans (((Below.refl _ _).alloc (by omega) _).grown hgrow (by first|omega|(simp<;>omega)) (fun g hg=>by have:=(HR.out.lt hg);omega)));clear hown3 hgrow hat;go_wp2_with fail;go_roundw
      case rel=>exact⟨n &&& (n-1),_,_,_,_,_,by first|rfl|rw[key],rfl,HM2.out,HN.out,HBN.out⟩
      case measure=>
       have:=HE3.out
       try rw[key]
       simp[intOf];omega
  ·obtain rfl:k=ws.length:=by omega
   rw[List.take_length]at hR;have HR2:=Lib.hid hR;have HBW:=Lib.hid hbw;clear hR hbw;go_wp2_with fail;refine HQ.out _ _ _ ?_;exact bodyPost_ret (v:= .slice LA ln lc) (by simp[results,Tryz.results35,go_sem]) rfl (ListEnd.of_row LongE.mono HR2.out HBW.out)
def DefsSays(x:InsS)(w:World)(e:Ending)(w':World):Prop:=e= .returned (.int .i64 (defL x))∧Below w.heap.size w w'
theorem defL_cases(op:Int):(op=1∨op=2∨op=3∨op=4∨op=5∨op=6∨op=7∨op=8∨op=10∨op=12)∨((op==1)=false∧(op==2)=false∧(op==3)=false∧(op==4)=false∧(op==5)=false∧(op==6)=false∧(op==7)=false∧(op==8)=false∧(op==10)=false∧(op==12)=false):=by
 simp only[beq_eq_false_iff_ne];omega
theorem ldefs_any(x:InsS)(A:Option Addr)(c:Nat)(w:World):Calls Tryz.prog 50 #[insV x A c] w fun e w'=>DefsSays x w e w':=by
 obtain⟨op,dst,a,b,n,arg⟩:=x;unfold insV;simp only;rcases defL_cases op with h|⟨h1,h2,h3,h4,h5,h6,h7,h8,h10,h12⟩
 ·have HD:=Lib.hid (show defL ⟨op,dst,a,b,n,arg⟩=dst from by unfold defL;rw[if_pos h]);rcases h with rfl|rfl|rfl|rfl|rfl|rfl|rfl|rfl|rfl|rfl
  all_goals
   go_enter Tryz.func50,Tryz.ntmps50;refine wp_letter (fun Q hQ=>?_);have HQ:=Lib.hid hQ;clear hQ;go_wp2_with fail;refine HQ.out _ _ _ ?_;exact bodyPost_ret (v:= .int .i64 dst) (by simp[results,Tryz.results50,go_sem]) rfl ⟨by rw[HD.out],below1 _ _⟩
 ·have HD:=Lib.hid (show defL ⟨op,dst,a,b,n,arg⟩= -1 from by
   simp only[beq_eq_false_iff_ne]at h1 h2 h3 h4 h5 h6 h7 h8 h10 h12;unfold defL;rw[if_neg];simp only;omega)
  go_enter Tryz.func50,Tryz.ntmps50;refine wp_letter (fun Q hQ=>?_);have HQ:=Lib.hid hQ;clear hQ;go_wp2_with fail;refine HQ.out _ _ _ ?_;exact bodyPost_ret (v:= .int .i64 (-1)) (by simp[results,Tryz.results50,go_sem]) rfl ⟨by rw[HD.out],below1 _ _⟩
def encI'(l:List Int):List Value:=l.map (Value.int .i64)
def NewInts(l:List Int)(w:World)(e:Ending)(w':World):Prop:=∃A c,e= .returned (.slice A l.length c)∧LongsAt w' w'.heap.size l (.slice A l.length c)∧(l=[]→A=none∧c=0)∧l.length≤c∧Below w.heap.size w w'
theorem owns_longs{w:World}{base:Nat}{v:Value}{l:List Int}(h:w.ownsRow base 3 1 v l.length (encI' l))(h64:∀x,x∈l→In64 x):LongsAt w w.heap.size l v:=by
 obtain⟨hl,⟨hv,hn⟩|⟨g,c,cur,hv,hg,hh,hc1,hc2,hc3,hc4⟩⟩:=id h
 ·exact⟨none,0,by rw[hv,hn],by omega,fun hp=>by omega⟩
 ·have hglt:g<w.heap.size:=Row.lt (t:=3) hh;refine⟨some ⟨g,0,none⟩,c,hv,by unfold maxLen at hc2;omega,fun hp=>⟨g,0,rfl,hglt,fun i x hi=>⟨?_,h64 _ (List.mem_of_getElem? hi)⟩⟩⟩;have hil:=(List.getElem?_eq_some_iff.1 hi).1;subst hv;show w.cell? ⟨g,0+i*1+0,none⟩=_;rw[show 0+i*1+0=i from by omega,World.ownsRow.cellAt h i (by omega)];unfold encI';rw[List.getElem?_map,hi];rfl
theorem newInts_own{w w':World}{v:Value}{l:List Int}(h:w'.ownsRow w.heap.size 3 1 v l.length (encI' l))(h64:∀x,x∈l→In64 x)(hne:l≠[])(hb:Below w.heap.size w w'):NewInts l w (.returned v) w':=by
 have hl:=owns_longs h h64;have hp:=List.length_pos_iff.2 hne;obtain⟨_,⟨h1,h2⟩|⟨g,c,cur,rfl,hg,hh,hc1,hc2,hc3,hc4⟩⟩:=id h
 ·omega
 ·exact⟨_,c,rfl,hl,fun e=>absurd e hne,hc1,hb⟩
theorem longs_cell{w:World}{B b off cap:Nat}{l:List Int}(hv:LongsAt w B l (.slice (some ⟨b,off,none⟩) l.length cap)){k:Nat}{x:Int}(hk:l[k]? =some x):w.cell? ⟨b,off+k,none⟩=some (.int .i64 x)∧In64 x:=by
 obtain⟨hk1,hk2⟩:=List.getElem?_eq_some_iff.1 hk;obtain⟨b',off',x',e,hb',h1,h2,h3⟩:=SliceAt.get hv hk1;injection e with e;injection e with e1 e2;subst e1 e2;rw[hk]at h1;injection h1 with h1;subst h1;exact⟨by simpa using h2,h3⟩
theorem longs_take{w:World}{B b off cap:Nat}{l:List Int}(hb:b<B)(hv:LongsAt w B l (.slice (some ⟨b,off,none⟩) l.length cap)){k:Nat}(hk:k≤l.length):LongsAt w B (l.take k) (.slice (some ⟨b,off,none⟩) k cap):=by
 have hn:=(SliceAt.len hv).2;refine⟨some ⟨b,off,none⟩,cap,by rw[List.length_take,Nat.min_eq_left hk],by rw[List.length_take];omega,fun _=>⟨b,off,rfl,hb,fun i x hi=>?_⟩⟩;rw[List.getElem?_take]at hi;split at hi
 ·obtain⟨h1,h2⟩:=longs_cell hv hi;exact⟨by simpa using h1,h2⟩
 ·simp at hi
theorem putL_ne{l:List Int}{n:Int}:putL l n≠[]:=by
 intro h;have:n∈putL l n:=putL_mem.2 (Or.inl rfl);rw[h]at this;simp at this
theorem putL_split:∀{l:List Int}{k:Nat}{n:Int},(∀x,x∈l.take k→x<n)→(∀y,l[k]? =some y→n<y)→putL l n=l.take k++n::l.drop k
 |[],k,n,_,_=>by simp[putL]
 |x::r,0,n,_,h=>by
  have:=h x rfl;rw[putL,if_neg (by omega),if_neg (by omega)];rfl
 |x::r,k+1,n,h1,h2=>by
  have:=h1 x (by simp);rw[putL,if_pos this,putL_split (k:=k) (fun y hy=>h1 y (by simp[hy])) (fun y hy=>h2 y (by simpa using hy))];simp
theorem putL_same:∀{l:List Int}{k:Nat}{n:Int},(∀x,x∈l.take k→x<n)→l[k]? =some n→putL l n=l
 |[],k,n,_,h=>by simp at h
 |x::r,0,n,_,h=>by
  simp at h;rw[putL,if_neg (by omega),if_pos h]
 |x::r,k+1,n,h1,h2=>by
  have:=h1 x (by simp);rw[putL,if_pos this,putL_same (k:=k) (fun y hy=>h1 y (by simp[hy])) (by simpa using h2)]
theorem encI_len{l:List Int}:(encI' l).length=l.length:=by simp[encI']
theorem encI_get{l:List Int}{j:Nat}{u:Value}(h:(encI' l)[j]? =some u):∃x,l[j]? =some x∧u= .int .i64 x:=by
 unfold encI' at h;rw[List.getElem?_map]at h;cases hx:l[j]? with
 |none=>rw[hx]at h;simp at h
 |some x=>rw[hx]at h;simp at h;exact⟨x,rfl,h.symm⟩
theorem encI_one{l:List Int}:∀u,u∈encI' l→u.oneCell'=true:=by
 intro u hu;unfold encI' at hu;obtain⟨x,_,rfl⟩:=List.mem_map.1 hu;rfl
theorem encI_app{l m:List Int}:encI' (l++m)=encI' l++encI' m:=by simp[encI']
theorem copyNumbers_own(l:List Int)(A:Option Addr)(cap:Nat)(B:Nat)(w:World)(hB:B≤w.heap.size)(hv:LongsAt w B l (.slice A l.length cap))(hln:l.length*8≤140737488351232):
  Calls Tryz.prog 79 #[.slice A l.length cap] w fun e w'=>∃v,e= .returned v∧w'.ownsRow w.heap.size 3 1 v l.length (encI' l)∧Below w.heap.size w w':=by
 have hn:=(SliceAt.len hv).2;have HV:=Lib.hid hv;clear hv;obtain⟨i0,hi,hz0,hz1,hz2⟩:=info_parts cint_info;go_enter Tryz.func79,Tryz.ntmps79;refine wp_letter (fun Q hQ=>?_);have HQ:=Lib.hid hQ;clear hQ;go_wp2_with fail;go_loopw [3,4] (fun r i wr=>∃(k:Nat)(v:Value),k≤l.length∧i= .int .i64 k∧r=v∧wr.ownsRow w.heap.size 3 1 v k (encI' (l.take k))∧Below w.heap.size w wr) (fun _ i _=>l.length-(intOf i).toNat)
 case atStart=>exact⟨0,_,by omega,rfl,rfl,World.ownsRow_nil _ _ _ _,Below.refl _ _⟩
 case round=>
  obtain⟨k,v,hk,rfl,rfl,hR,hbw⟩:=hrel;have HR:=Lib.hid hR;have HBW:=Lib.hid hbw;have hzw:=hbw.size;by_cases hlt:k<l.length
  ·obtain⟨b,off,x,rfl,hb,hk1,hx,hx64⟩:=SliceAt.get (LongsAt.below HV.out (hbw.mono hB) (Nat.le_refl _)) hlt;have HK1:=Lib.hid hk1;have hklt:(k:Int)<(l.length:Int):=by omega
   have hbl:b<wr.heap.size:=by omega
   simp only[Nat.add_zero,Nat.mul_one]at hx;clear hR hbw hk1 hx64;go_wp2_with(at_builtin;refine wpList_append_lies _ rfl (.tmp 11) (.tmp 16) 41 rfl w.heap.size 3 i0 (.int .i64 0) 1 8 Tryz.underlying41 hi hz0 hz1 hz2 rfl (by decide) _ k (encI' (l.take k)) rfl (ownsRow_wr HR.out ((Wr.refl (fun _=>False) _).allocR _) (fun _ _ h=>h)) ⟨wr.heap.size,0,none⟩ 1 1 [.int .i64 x] rfl rfl ?c1 ?c2 (by decide) ?c3 ?c4 ?c5 _ rfl ?_)
   case c1=>exact cells_new _ _ _
   case c2=>intro u hu;simp at hu;rcases hu with rfl;rfl
   case c3=>unfold maxLen;omega
   case c4=>omega
   case c5=>first|omega|(simp<;>omega)
   ·intro g cap' w3 hown3 hgrow hat hglt;have HN:=Lib.hid (show w3.ownsRow w.heap.size 3 1 (.slice (some ⟨g,0,none⟩) (k+1) cap') (k+1) (encI' (l.take (k+1)))from by
     rw[take_succ_of HK1.out,encI_app];exact hown3)
    have HBN:=Lib.hid (show Below w.heap.size w w3 from HBW.out.trans (((Below.refl _ _).alloc (by omega) _).grown hgrow (by first|omega|(simp<;>omega)) (fun g hg=>(HR.out.lt g hg).1)));clear hown3 hgrow hat;go_wp2_with fail;go_roundw
    case rel=>exact⟨k+1,_,by omega,by go_num,rfl,HN.out,HBN.out⟩
    case measure=>simp[intOf];omega
  ·obtain rfl:k=l.length:=by omega
   rw[List.take_length]at hR;have HR2:=Lib.hid hR;clear hR hbw;go_wp2_with fail;refine HQ.out _ _ _ ?_;exact bodyPost_ret (v:=u3) (by simp[results,Tryz.results79,go_sem]) rfl ⟨_,rfl,HR2.out,HBW.out⟩
def nextI(l:List InsS)(k:Nat):List Int:=(nextL l k).map fun(j:Nat)=>(j:Int)
def Named(l:List InsS):Prop:=∀x,x∈l→(x.op=15∨x.op=16)→labI l x.n=true
theorem longs_new1(w:World)(b:Nat)(hb:w.heap.size=b)(a:Int)(h:In64 a):LongsAt (w.alloc (.cells #[.int .i64 a] 3)) (w.alloc (.cells #[.int .i64 a] 3)).heap.size [a] (.slice (some ⟨b,0,none⟩) 1 1):=by
 subst hb;refine⟨some ⟨w.heap.size,0,none⟩,1,rfl,by simp,fun _=>⟨w.heap.size,0,rfl,by simp,fun i x hi=>?_⟩⟩;cases i with
 |zero=>simp at hi;subst hi;exact⟨(Row.new w #[.int .i64 a] 3).cell (j:=0) rfl,h⟩
 |succ i=>simp at hi
theorem longs_new2(w:World)(g:Nat)(hg:w.heap.size=g)(a b:Int)(h:In64 a)(h':In64 b):LongsAt (w.alloc (.cells #[.int .i64 a,.int .i64 b] 3)) (w.alloc (.cells #[.int .i64 a,.int .i64 b] 3)).heap.size [a,b] (.slice (some ⟨g,0,none⟩) 2 2):=by
 subst hg;refine⟨some ⟨w.heap.size,0,none⟩,2,rfl,by simp,fun _=>⟨w.heap.size,0,rfl,by simp,fun i x hi=>?_⟩⟩
 match i,hi with
 |0,hi=>simp at hi;subst hi;exact⟨(Row.new w #[.int .i64 a,.int .i64 b] 3).cell (j:=0) rfl,h⟩
 |1,hi=>simp at hi;subst hi;exact⟨(Row.new w #[.int .i64 a,.int .i64 b] 3).cell (j:=1) rfl,h'⟩
 |i+2,hi=>simp at hi
theorem newInts_nil(w w':World)(hb:Below w.heap.size w w'):NewInts [] w (.returned (.slice none 0 0)) w':=⟨none,0,rfl,⟨none,0,rfl,by simp,fun h=>by simp at h⟩,fun _=>⟨rfl,rfl⟩,Nat.le_refl _,hb⟩
theorem nextL_cases{l:List InsS}{k:Nat}{x:InsS}(h:l[k]? =some x):nextL l k=if x.op=17∨x.op=13 then []else if x.op=15 then [labN l x.n]else if x.op=16 then [k+1,labN l x.n]else [k+1]:=by
 unfold nextL;rw[h]
theorem labO_getD{l:List InsS}{n:Int}(h:labI l n=true):(labO l n).getD 0=labN l n:=by
 unfold labO;rw[if_pos h];rfl
theorem lnext_any(c:CodeS)(LA:Option Addr)(lc:Nat)(BA:Option Addr)(bc mb n k B:Nat)(w:World)(hB:B≤w.heap.size)(hK:SliceAt w B 6 (InsE w B) c.ins (.slice BA c.ins.length bc))(hM:LabM w mb n (labO c.ins))(hN:Named c.ins)(hk:k<c.ins.length)(hlen:c.ins.length≤8000):
  Calls Tryz.prog 48 #[.agg #[.int .i64 c.params,.int .i64 c.regs,.slice LA c.locs.length lc,.slice BA c.ins.length bc],.map (some mb),.int .i64 (k:Nat)] w fun e w'=>NewInts (nextI c.ins k) w e w':=by
 obtain⟨bb,boff,x,rfl,hbb,hbk,b0,b1,b2,b3,b4,⟨sv,b5,hst⟩,hx0,hx1,hx2,hx3,hx4⟩:=SliceAt.get hK hk;simp only[Nat.add_zero]at b0 b1 b2 b3 b4 b5;obtain⟨SA,scap,hsv⟩:∃SA scap,sv= .slice SA x.arg.length scap:=(by obtain⟨A',c',h,_⟩:=hst;exact⟨_,_,h⟩)
 subst hsv;have hkb:(k:Int)<(c.ins.length:Int):=by omega
 have hbbl:bb<w.heap.size:=by omega
 have HMW:=Lib.hid (fun W(hW:Below w.heap.size w W)=>(hM.below hW).look hx4);have HX:=Lib.hid (nextL_cases hbk);have HNM:=Lib.hid (fun h=>hN x (List.mem_of_getElem? hbk) h);have H64:=Lib.hid (show∀j:Nat,j≤8000→In64 (j:Int)from fun j hj=>by unfold In64;omega);have hB2:=below2 w (.cells #[.int .i64 c.params,.int .i64 c.regs,.slice LA c.locs.length lc,.slice (some ⟨bb,boff,none⟩) c.ins.length bc] 39) (.cells #[.int .i64 x.op,.int .i64 x.dst,.int .i64 x.a,.int .i64 x.b,.int .i64 x.n,.slice SA x.arg.length scap] 43);have HB2:=Lib.hid hB2;have hlook:=HMW.out _ hB2;clear hK hM hN hbk hst hB2;obtain⟨op,dst,a,b,nn,arg⟩:=x;simp only at b0 b1 b2 b3 b4 b5 HX HNM hlook HB2;have hcase:(op=17∨op=13)∨op=15∨op=16∨((op==17)=false∧(op==13)=false∧(op==15)=false∧(op==16)=false):=by
  simp only[beq_eq_false_iff_ne];omega
 rcases hcase with(rfl|rfl)|rfl|rfl|⟨d1,d2,d3,d4⟩
 ·have HY:=Lib.hid (show nextI c.ins k=[]from by unfold nextI;rw[HX.out];simp);clear hlook;go_enter Tryz.func48,Tryz.ntmps48;refine wp_letter (fun Q hQ=>?_);have HQ:=Lib.hid hQ;clear hQ;go_wp2_with fail;refine HQ.out _ _ _ ?_;rw[HY.out];exact bodyPost_ret (v:= .slice none 0 0) (by simp[results,Tryz.results48,go_sem]) rfl (newInts_nil _ _ HB2.out)
 ·have HY:=Lib.hid (show nextI c.ins k=[]from by unfold nextI;rw[HX.out];simp);clear hlook;go_enter Tryz.func48,Tryz.ntmps48;refine wp_letter (fun Q hQ=>?_);have HQ:=Lib.hid hQ;clear hQ;go_wp2_with fail;refine HQ.out _ _ _ ?_;rw[HY.out];exact bodyPost_ret (v:= .slice none 0 0) (by simp[results,Tryz.results48,go_sem]) rfl (newInts_nil _ _ HB2.out)
 ·have hl:=HNM.out (by simp);have h3:=labN_lt hl;rw[labO_getD hl]at hlook;have HY:=Lib.hid (show nextI c.ins k=[((labN c.ins nn:Nat):Int)]from by unfold nextI;rw[HX.out];simp);have HI:=Lib.hid (H64.out (labN c.ins nn) (by omega));clear hl h3;go_enter Tryz.func48,Tryz.ntmps48;refine wp_letter (fun Q hQ=>?_);have HQ:=Lib.hid hQ;clear hQ;go_wp2_with fail;refine HQ.out _ _ _ ?_;rw[HY.out];exact bodyPost_ret (v:= .slice (some ⟨w.heap.size+2,0,none⟩) 1 1) (by simp[results,Tryz.results48,go_sem]) rfl ⟨_,_,rfl,longs_new1 _ _ (by simp) _ HI.out,fun h=>by simp at h,Nat.le_refl _,HB2.out.trans ((below1 _ _).mono (HB2.out.size))⟩
 ·have hl:=HNM.out (by simp);have h3:=labN_lt hl;rw[labO_getD hl]at hlook;have HY:=Lib.hid (show nextI c.ins k=[(k:Int)+1,((labN c.ins nn:Nat):Int)]from by unfold nextI;rw[HX.out];simp);have HI:=Lib.hid (H64.out (labN c.ins nn) (by omega));have HJ:=Lib.hid (show In64 ((k:Int)+1)from by unfold In64;omega);clear hl h3;go_enter Tryz.func48,Tryz.ntmps48;refine wp_letter (fun Q hQ=>?_);have HQ:=Lib.hid hQ;clear hQ;go_wp2_with fail;refine HQ.out _ _ _ ?_;rw[HY.out];exact bodyPost_ret (v:= .slice (some ⟨w.heap.size+2,0,none⟩) 2 2) (by simp[results,Tryz.results48,go_sem]) rfl ⟨_,_,rfl,longs_new2 _ _ (by simp) _ _ HJ.out HI.out,fun h=>by simp at h,Nat.le_refl _,HB2.out.trans ((below1 _ _).mono (HB2.out.size))⟩
 ·have HY:=Lib.hid (show nextI c.ins k=[(k:Int)+1]from by
   simp only[beq_eq_false_iff_ne]at d1 d2 d3 d4;unfold nextI;rw[HX.out];simp[d1,d2,d3,d4])
  have HJ:=Lib.hid (show In64 ((k:Int)+1)from by unfold In64;omega);clear hlook;go_enter Tryz.func48,Tryz.ntmps48;refine wp_letter (fun Q hQ=>?_);have HQ:=Lib.hid hQ;clear hQ;go_wp2_with fail;refine HQ.out _ _ _ ?_;rw[HY.out];exact bodyPost_ret (v:= .slice (some ⟨w.heap.size+2,0,none⟩) 1 1) (by simp[results,Tryz.results48,go_sem]) rfl ⟨_,_,rfl,longs_new1 _ _ (by simp) _ HJ.out,fun h=>by simp at h,Nat.le_refl _,HB2.out.trans ((below1 _ _).mono (HB2.out.size))⟩
theorem regI_in{r none nr:Int}{b:Bool}(h:regI r b none nr=true)(hb:b=true):0≤r∧r<nr:=by
 subst hb;simpa [regI]using h
theorem regI_no{r none nr:Int}{b:Bool}(h:regI r b none nr=true)(hb:b=false):r=none:=by
 subst hb;simpa [regI]using h
theorem insB_regs{c:CodeS}{ng nf:Int}{x:InsS}(h:insB c ng nf yesPar x=true):RegsIn c.regs.toNat x:=by
 rw[insB_eq]at h;simp only[Bool.and_eq_true]at h;obtain⟨hn,h1,h2,h3,_,_,h6⟩:=h;obtain⟨op,dst,a,b,n,arg⟩:=x;have hop:op=1∨op=2∨op=3∨op=4∨op=5∨op=6∨op=7∨op=8∨op=9∨op=10∨op=11∨op=12∨op=13∨op=14∨op=15∨op=16∨op=17∨namedI ⟨op,dst,a,b,n,arg⟩=none:=by
  unfold namedI;by_cases h:1≤op∧op≤17
  ·omega
  ·have:(if op=1∨op=3∨op=4 then some (true,false,false,true,false)
 else if op=2 then some (true,true,false,false,false)
 else if op=5 then some (true,true,true,true,false)
 else if op=6 then some (true,true,false,true,true)
 else if op=7∨op=8∨op=9 then some (true,true,false,true,false)
 else if op=10 then some (decide (dst≠ -1),false,false,true,true)
 else if op=11∨op=13∨op=17 then some (false,true,false,false,false)
 else if op=12 then some (true,false,false,false,false)
 else if op=14∨op=15 then some (false,false,false,true,false)
 else if op=16 then some (false,true,false,true,false)
 else none)=none:=by
    repeat rw[if_neg (by omega)]
   simp only[this,or_true]
 rcases hop with rfl|rfl|rfl|rfl|rfl|rfl|rfl|rfl|rfl|rfl|rfl|rfl|rfl|rfl|rfl|rfl|rfl|hn'
 all_goals try(rw[hn']at hn;cases hn;done)
 all_goals clear hn
 all_goals simp only[fieldsI,namedI,regI,freeI,numberI,regsB]at h1 h2 h3 h6
 all_goals simp at h1 h2 h3 h6
 all_goals unfold RegsIn regsL defL
 all_goals simp only
 all_goals simp
 all_goals try omega
 ·refine⟨fun r hr=>?_,by by_cases hd:dst= -1<;>simp[hd]at h1 ⊢ <;>omega⟩;have:=h6.2.1 r hr;omega
theorem insB_named{c:CodeS}{ng nf:Int}{x:InsS}(h:insB c ng nf yesPar x=true)(hj:x.op=15∨x.op=16):labI c.ins x.n=true:=by
 rw[insB_eq]at h;simp only[Bool.and_eq_true]at h;have:=h.2.2.2.2.2.2;unfold numberI at this;rw[if_neg (by omega),if_neg (by omega),if_neg (by omega),if_neg (by omega),if_neg (by omega),if_neg (by omega),if_neg (by omega),if_neg (by omega),if_pos hj]at this;exact this
theorem alone_all{c:CodeS}(h:aloneB c=true):headV c∧∀x,x∈c.ins→insB c 16 8 yesPar x=true:=by
 obtain⟨h1,⟨h2,_⟩,_⟩:=(codeF_alone c 16 8 noneK).1 h;exact⟨h1,fun x hx=>List.all_eq_true.1 h2 x hx⟩
theorem alone_named{c:CodeS}(h:aloneB c=true):Named c.ins:=fun x hx hj=>insB_named ((alone_all h).2 x hx) hj
theorem alone_regs{c:CodeS}(h:aloneB c=true){x:InsS}(hx:x∈c.ins):RegsIn c.regs.toNat x:=insB_regs ((alone_all h).2 x hx)
theorem eqLongs_at(l:List Int)(A A':Option Addr)(c c':Nat)(B:Nat)(w:World)(hB:B≤w.heap.size)(hv:LongsAt w B l (.slice A l.length c))(hu:LongsAt w B l (.slice A' l.length c')):
  Calls Tryz.prog 10 #[.slice A l.length c,.slice A' l.length c'] w fun e w'=>e= .returned (.bool true)∧Below w.heap.size w w':=by
 have hlm:=(SliceAt.len hv).2;have hb0:((l.length:Int) !=(l.length:Int))=false:=by simp
 have HA:=Lib.hid hv;have HA':=Lib.hid hu;clear hv hu;go_enter Tryz.func10,Tryz.ntmps10;go_wp2_with fail;go_loopw [5] (fun i wr=>∃k:Nat,k≤l.length∧i= .int .i64 k∧Below w.heap.size w wr) (fun i _=>l.length-(intOf i).toNat)
 case atStart=>exact⟨0,by omega,rfl,Below.refl _ _⟩
 case round=>
  obtain⟨k,hk2,rfl,hbw⟩:=hrel;by_cases hlt:k<l.length
  ·obtain⟨b,off,x,rfl,hb,hx,e1,_⟩:=SliceAt.get (LongsAt.below HA.out (hbw.mono hB) (Nat.le_refl _)) hlt;obtain⟨b',off',x',rfl,hb',hx',e2,_⟩:=SliceAt.get (LongsAt.below HA'.out (hbw.mono hB) (Nat.le_refl _)) hlt;obtain rfl:x=x':=Option.some.inj (hx.symm.trans hx');simp only[Nat.add_zero,Nat.mul_one]at e1 e2;have hklt:(k:Int)<(l.length:Int):=by omega
   have hxx:(x !=x)=false:=by simp
   clear hx hx';go_wp2_with fail;go_quiet (fail);go_wp2_with fail;go_roundw
   case rel=>exact⟨k+1,by omega,by go_num,below_drewN hbw _⟩
   case measure=>simp[intOf];omega
  ·obtain rfl:k=l.length:=by omega
   go_wp2_with fail;go_ret;exact⟨rfl,hbw⟩
theorem eqNumbers_at(l:List Int)(A A':Option Addr)(c c':Nat)(B:Nat)(w:World)(hB:B≤w.heap.size)(hv:LongsAt w B l (.slice A l.length c))(hu:LongsAt w B l (.slice A' l.length c')):
  Calls Tryz.prog 25 #[.slice A l.length c,.slice A' l.length c'] w fun e w'=>e= .returned (.bool true)∧Below w.heap.size w w':=by
 have hlm:=(SliceAt.len hv).2;have hb0:((l.length:Int) !=(l.length:Int))=false:=by simp
 have HA:=Lib.hid hv;have HA':=Lib.hid hu;clear hv hu;go_enter Tryz.func25,Tryz.ntmps25;go_wp2_with fail;go_loopw [5] (fun i wr=>∃k:Nat,k≤l.length∧i= .int .i64 k∧Below w.heap.size w wr) (fun i _=>l.length-(intOf i).toNat)
 case atStart=>exact⟨0,by omega,rfl,Below.refl _ _⟩
 case round=>
  obtain⟨k,hk2,rfl,hbw⟩:=hrel;by_cases hlt:k<l.length
  ·obtain⟨b,off,x,rfl,hb,hx,e1,_⟩:=SliceAt.get (LongsAt.below HA.out (hbw.mono hB) (Nat.le_refl _)) hlt;obtain⟨b',off',x',rfl,hb',hx',e2,_⟩:=SliceAt.get (LongsAt.below HA'.out (hbw.mono hB) (Nat.le_refl _)) hlt;obtain rfl:x=x':=Option.some.inj (hx.symm.trans hx');simp only[Nat.add_zero,Nat.mul_one]at e1 e2;have hklt:(k:Int)<(l.length:Int):=by omega
   have hxx:(x !=x)=false:=by simp
   clear hx hx';go_wp2_with fail;go_quiet (fail);go_wp2_with fail;go_roundw
   case rel=>exact⟨k+1,by omega,by go_num,below_drewN hbw _⟩
   case measure=>simp[intOf];omega
  ·obtain rfl:k=l.length:=by omega
   go_wp2_with fail;go_ret;exact⟨rfl,hbw⟩
theorem eqIns_any(x:InsS)(B:Nat)(w:World)(c c':Nat→Option Value)(v0 v1 v2 v3 v4 v5 u0 u1 u2 u3 u4 u5:Value)(hB:B≤w.heap.size)(hx:InsE w B c x)(hy:InsE w B c' x)(k0:c 0=some v0)(m0:c' 0=some u0)(k1:c 1=some v1)(m1:c' 1=some u1)(k2:c 2=some v2)(m2:c' 2=some u2)(k3:c 3=some v3)(m3:c' 3=some u3)(k4:c 4=some v4)(m4:c' 4=some u4)(k5:c 5=some v5)(m5:c' 5=some u5):
  Calls Tryz.prog 41 #[.agg #[v0,v1,v2,v3,v4,v5],.agg #[u0,u1,u2,u3,u4,u5]] w fun e w'=>e= .returned (.bool true)∧Below w.heap.size w w':=by
 obtain⟨A5,c5,h0,h1,h2,h3,h4,h5,r5,i0,i1,i2,i3,i4⟩:=hx.shape;obtain⟨A5s,c5s,g0,g1,g2,g3,g4,g5,r5s,i0s,i1s,i2s,i3s,i4s⟩:=hy.shape;rw[h0]at k0;injection k0 with k0;subst k0;rw[g0]at m0;injection m0 with m0;subst m0;rw[h1]at k1;injection k1 with k1;subst k1;rw[g1]at m1;injection m1 with m1;subst m1;rw[h2]at k2;injection k2 with k2;subst k2;rw[g2]at m2;injection m2 with m2;subst m2;rw[h3]at k3;injection k3 with k3;subst k3;rw[g3]at m3;injection m3 with m3;subst m3;rw[h4]at k4;injection k4 with k4;subst k4;rw[g4]at m4;injection m4 with m4;subst m4;rw[h5]at k5;injection k5 with k5;subst k5;rw[g5]at m5;injection m5 with m5;subst m5;have e0:(x.op==x.op)=true:=by simp
 have e1:(x.dst==x.dst)=true:=by simp
 have e2:(x.a==x.a)=true:=by simp
 have e3:(x.b==x.b)=true:=by simp
 have e4:(x.n==x.n)=true:=by simp
 have HC5:=Lib.hid (fun W(hb:Below w.heap.size w W)=>eqNumbers_at x.arg A5 A5s c5 c5s B W (by have:=hb.size;omega) (r5.below (hb.mono hB) (Nat.le_refl _)) (r5s.below (hb.mono hB) (Nat.le_refl _)));have HB:=Lib.hid (below2 w (.cells #[.int .i64 x.op,.int .i64 x.dst,.int .i64 x.a,.int .i64 x.b,.int .i64 x.n,.slice A5 x.arg.length c5] 43) (.cells #[.int .i64 x.op,.int .i64 x.dst,.int .i64 x.a,.int .i64 x.b,.int .i64 x.n,.slice A5s x.arg.length c5s] 43));clear hx hy h0 g0 h1 g1 h2 g2 h3 g3 h4 g4 h5 g5 r5 r5s i0 i0s i1 i1s i2 i2s i3 i3s i4 i4s;go_enter Tryz.func41,Tryz.ntmps41;refine wp_letter (fun Q hQ=>?_);have HQ:=Lib.hid hQ;clear hQ;go_wp2_with fail;refine(HC5.out _ (by exact HB.out)).mono ?_;rintro e w1 ⟨rfl,hb0⟩;have hz0:w.heap.size+1+1≤w1.heap.size:=by have:=hb0.size;first|omega|(simp at this;omega)
 have HB0:=Lib.hid (HB.out.trans (hb0.mono (by first|omega|(simp<;>omega))));clear hb0;go_wp2_with fail;refine HQ.out _ _ _ ?_;exact bodyPost_ret (v:= .bool true) (by simp[results,Tryz.results41,go_sem]) rfl ⟨rfl,HB0.out⟩
end Go.Proofs.YtlenilbkifofjaaGreatDoor
