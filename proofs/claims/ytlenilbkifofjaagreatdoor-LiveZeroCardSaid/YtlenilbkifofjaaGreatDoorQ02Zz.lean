/- The page's machine: its state, how it lies in memory; stop, step. Conditions: as stated. The page's trees' values (chapters 6, 7), as plain functions. No program in sight. No condition. What the page's ops come to may be again. No program in sight. No condition. The page's machine (chapter 7), as plain functions: programs, objects made, stores, steps, calls, runs. No program in sight. No condition. An empty memory and one of the object that is none are one to the page's machine: plain. No program in sight. No condition. The page's machine: step. Conditions: as stated. The page's machine: a call's frame; what a tree's walk is asked. No condition. How a program lies in memory. No program in sight but its name. No condition. The page's machine: a tree one of whose kids comes to nothing. Conditions: as stated. The page's machine: a leaf's value. Conditions: as stated. The page's machine: an op of values that comes to a value. Conditions: as stated. The page's machine: an op of values that is stuck. Conditions: as stated. The page's machine: what a tree comes to. Conditions: as stated. The page's machine: what a step's walk is asked; a frame's temporaries written. No condition. The page's memory: an object more; what a made row of values holds. No program in sight but its name. No condition. What is always true of the page's machine while it runs. No program in sight. No condition. Kids, Size, Between, Num, IsLoad: small asks. No condition. count, Tree: how many nodes a tree has, and whether it may be. Conditions: as stated. How long a program's lists may be: what memory may hold. No program in sight. No condition. How a program of virtual code lies in memory. No program in sight but its name. No condition. How long a program's lists may be: what memory may hold. No program in sight. No condition. Whether objects may be (plain). No condition. The page's machine, of two fuels: plain laws. No program in sight. Conditions: as stated. The graph's checks: Size, within. No condition. A region that draws its order: a head whose operations only read and whose callees at most make new memory, then a tail in one forced order. No program in sight. No condition. The graph's checks: Objects. Conditions: as stated. A region that draws its order, by what holds after each set of its operations. No program in sight. No condition. A region that draws its order and whose operations at most make new memory, by what each operation's result is. No program in sight. No condition. A region that draws its order, makes one box and writes it whole; its other operations at most make new memory. No program in sight. No condition. -/
import Derived.Test.YtlenilbkifofjaaGreatDoorQ01Zz
import Derived.Test.YtlenilbkifofjaaGreatDoorMemApplyZz
import Derived.Test.YtlenilbkifofjaaGreatDoorRefNumZz
import Derived.Laws.MakeOwn
import Derived.StillTail
import Derived.Deep.Quiet
set_option linter.unusedVariables false
set_option linter.unusedSimpArgs false
set_option maxHeartbeats 8000000
set_option maxRecDepth 100000
namespace Go.Proofs.YtlenilbkifofjaaGreatDoor
open Go.RowKit
structure St where
 inp:List Int
 kind:Int
 code:Int
 out:List Int
 steps:Int
 deep:Int
 calls:Int
 mem:List MO
def stopF(k:Int)(s:St):St:=if s.kind=0 then {s with kind:=k}else s
def stepF(fuel n:Int)(s:St):Bool×St:=
 if s.kind=0 then if n>fuel-s.steps then(false,{s with steps:=fuel,kind:=2})else(true,{s with steps:=s.steps+n})else(false,s)
def ValsIn(cs:Array Value)(l:List V):Prop:=cs.size=l.length*2∧∀j v,l[j]? =some v→cs[j*2]? =some (.int .i64 v.obj)∧cs[j*2+1]? =some (.int .i64 v.n)
def VRow(w:World)(b:Nat)(l:List V):Prop:=∃cs,Row w b cs 70∧ValsIn cs l
def InW(w:World)(base:Nat)(v:Value)(l:List Int):Prop:=
 ∃A cap,v= .slice A l.length cap∧l.length≤cap∧cap≤9223372036854775807∧(0<l.length→∃b off,A=some ⟨b,off,none⟩∧b<base∧∀j x,l[j]? =some x→w.cell? ⟨b,off+j,none⟩=some (.int .i64 x)∧In64 x)
def ObjIn(xs:List Value)(rb:Nat→Nat)(k:Nat)(o:MO):Prop:=
 xs[k*3]? =some (.int .i64 o.size)∧xs[k*3+1]? =some (if k=0 then .slice none 0 0 else .slice (some ⟨rb k,0,none⟩) o.l.length o.l.length)∧xs[k*3+2]? =some (.bool o.live)
structure MemOk (M:List MO):Prop where
 many:M.length≤4294967296
 zero:∀o,M[0]? =some o→o=⟨0,[],false⟩
 size:∀k o,1≤k→M[k]? =some o→(o.size=1∨o.size=2∨o.size=4∨o.size=8)∧o.l.length≤64
 vals:∀o,o∈M→∀v,v∈o.l→VOk M.length v
structure MemW (w:World) (base:Nat) (own:Nat→Prop) (memv:Value) (rb:Nat→Nat) (M:List MO):Prop where
 row:∃xs,w.ownsRow base 103 3 memv M.length xs∧∀k o,M[k]? =some o→ObjIn xs rb k o
 mine:∀k o,1≤k→M[k]? =some o→own (rb k)∧VRow w (rb k) o.l
 inj:∀i j,1≤i→i<M.length→1≤j→j<M.length→rb i=rb j→i=j
 ok:MemOk M
structure Rest (w:World) (base:Nat) (own:Nat→Prop) (inv outv memv:Value) (rb:Nat→Nat) (s:St):Prop where
 inp:InW w base inv s.inp
 out:w.ownsRow base 2 1 outv s.out.length (s.out.map (Value.int .i64))
 outo:∀g,outv.ownBlock=some g→own g
 mem:MemW w base own memv rb s.mem
 memo:∀g,memv.ownBlock=some g→own g
 own:∀k,own k→base≤k∧k<w.heap.size
def mcells(P:Value×Value×Value)(fuel:Int)(s:St)(inv outv memv:Value):Array Value:=
 #[P.1,P.2.1,P.2.2,inv,.int .i64 fuel,.int .i64 s.kind,.int .i64 s.code,outv,.int .i64 s.steps,.int .i64 s.deep,memv,.int .i64 s.calls]
theorem InW.below{w w':World}{base:Nat}{v:Value}{l:List Int}(h:InW w base v l)(hw:∀b o,b<base→w'.cell? ⟨b,o,none⟩=w.cell? ⟨b,o,none⟩):InW w' base v l:=by
 obtain⟨A,cap,hv,h1,h2,h3⟩:=h;refine⟨A,cap,hv,h1,h2,fun hp=>?_⟩;obtain⟨b,off,hA,hb,hc⟩:=h3 hp;exact⟨b,off,hA,hb,fun j x hj=>⟨(hw b _ hb).trans (hc j x hj).1,(hc j x hj).2⟩⟩
theorem Rest.same{w:World}{base:Nat}{own:Nat→Prop}{inv outv memv:Value}{rb:Nat→Nat}{s s':St}(h:Rest w base own inv outv memv rb s)(h1:s'.inp=s.inp)(h2:s'.out=s.out)(h3:s'.mem=s.mem):Rest w base own inv outv memv rb s':=
 ⟨h1▸h.inp,h2▸h.out,h.outo,h3▸h.mem,h.memo,h.own⟩
end Go.Proofs.YtlenilbkifofjaaGreatDoor
namespace Go.Proofs.YtlenilbkifofjaaGreatDoor
open Go.RowKit
def opF(M:List MO)(tp:List V)(lo:List Nat)(op n:Int)(l:List V):Option V:=
 if op=1 then some ⟨0,n⟩else if op=2 then some (tp.getD n.toNat ⟨0,0⟩)else if op=3 then some ⟨lo.getD n.toNat 0,0⟩else if op=4 then some ⟨n.toNat+1,0⟩else applyF M op l
mutual
def evalT(M:List MO)(tp:List V)(lo:List Nat):T→Option V
 | .node op n ks=>(evalTs M tp lo ks).bind (opF M tp lo op n)
def evalTs(M:List MO)(tp:List V)(lo:List Nat):List T→Option (List V)
 |[]=>some []
 |k::ks=>(evalT M tp lo k).bind fun v=>(evalTs M tp lo ks).map (v::·)
end
def kidsN(op:Int):Nat:=if op≤4 then 0 else if 12≤op∧op≤30 then 2 else 1
mutual
def TOk(nt nl ng:Nat):T→Prop
 | .node op n ks=>1≤op∧op≤36∧ks.length=kidsN op∧(op=2→0≤n∧n<nt)∧(op=3→0≤n∧n<nl)∧(op=4→0≤n∧n<ng)∧TsOk nt nl ng ks
def TsOk(nt nl ng:Nat):List T→Prop
 |[]=>True
 |k::ks=>TOk nt nl ng k∧TsOk nt nl ng ks
end
mutual
def TIn:T→Prop
 | .node _ n ks=>In64 n∧TsIn ks
def TsIn:List T→Prop
 |[]=>True
 |k::ks=>TIn k∧TsIn ks
end
theorem TsIn.get{ks:List T}{k:Nat}{t:T}(h:TsIn ks)(hk:ks[k]? =some t):TIn t:=by
 induction ks generalizing k with
 |nil=>simp at hk
 |cons a r ih=>
  simp only[TsIn]at h;cases k with
  |zero=>simp at hk;subst hk;exact h.1
  |succ k=>simp at hk;exact ih h.2 hk
theorem TsOk.get{nt nl ng:Nat}{ks:List T}{k:Nat}{t:T}(h:TsOk nt nl ng ks)(hk:ks[k]? =some t):TOk nt nl ng t:=by
 induction ks generalizing k with
 |nil=>simp at hk
 |cons a r ih=>
  simp only[TsOk]at h;cases k with
  |zero=>simp at hk;subst hk;exact h.1
  |succ k=>simp at hk;exact ih h.2 hk
section
variable {M:List MO} {tp:List V} {lo:List Nat}
theorem evalTs_append(a b:List T):evalTs M tp lo (a++b)=(evalTs M tp lo a).bind fun x=>(evalTs M tp lo b).map (x++·):=by
 induction a with
 |nil=>simp[evalTs]
 |cons t r ih=>
  simp only[List.cons_append,evalTs,ih];cases evalT M tp lo t<;>cases evalTs M tp lo r<;>cases evalTs M tp lo b<;>simp
theorem take_succ_of{α:Type}{l:List α}{k:Nat}{t:α}(h:l[k]? =some t):l.take (k+1)=l.take k++[t]:=by
 rw[List.take_add_one,h];rfl
theorem evalTs_next{ks:List T}{k:Nat}{l:List V}{t:T}{v:V}(h:evalTs M tp lo (ks.take k)=some l)(ht:ks[k]? =some t)(hv:evalT M tp lo t=some v):evalTs M tp lo (ks.take (k+1))=some (l++[v]):=by
 rw[take_succ_of ht,evalTs_append,h];simp[evalTs,hv]
theorem evalTs_fail{ks:List T}{k:Nat}{t:T}(ht:ks[k]? =some t)(hv:evalT M tp lo t=none):evalTs M tp lo ks=none:=by
 have hlt:k<ks.length:=by
  rcases Nat.lt_or_ge k ks.length with h|h
  ·exact h
  ·rw[List.getElem?_eq_none h]at ht;cases ht
 have e:ks=ks.take (k+1)++ks.drop (k+1):=(List.take_append_drop _ _).symm;rw[e,evalTs_append,take_succ_of ht,evalTs_append];cases evalTs M tp lo (ks.take k)<;>simp[evalTs,hv]
theorem evalTs_length{ks:List T}{l:List V}(h:evalTs M tp lo ks=some l):l.length=ks.length:=by
 induction ks generalizing l with
 |nil=>simp[evalTs]at h;subst h;rfl
 |cons t r ih=>
  simp only[evalTs]at h;cases hv:evalT M tp lo t with
  |none=>rw[hv]at h;simp at h
  |some v=>
   rw[hv]at h;cases hr:evalTs M tp lo r with
   |none=>rw[hr]at h;simp at h
   |some x=>rw[hr]at h;simp at h;subst h;simp[ih hr]
end
def flatV:List V→List Value
 |[]=>[]
 |v::l=> .int .i64 v.obj:: .int .i64 v.n::flatV l
theorem flatV_length(l:List V):(flatV l).length=l.length*2:=by
 induction l with
 |nil=>rfl
 |cons v l ih=>simp[flatV,ih];omega
theorem flatV_append(a b:List V):flatV (a++b)=flatV a++flatV b:=by
 induction a with
 |nil=>rfl
 |cons v l ih=>simp[flatV,ih]
theorem flatV_get{l:List V}{j:Nat}{v:V}(h:l[j]? =some v):(flatV l)[j*2]? =some (.int .i64 v.obj)∧(flatV l)[j*2+1]? =some (.int .i64 v.n):=by
 induction l generalizing j with
 |nil=>simp at h
 |cons a l ih=>
  cases j with
  |zero=>simp at h;subst h;simp[flatV]
  |succ j=>
   simp at h;have:=ih h;rw[show(j+1)*2=j*2+1+1 by omega];simpa [flatV]using this
theorem ownsRow_vals{w:World}{base:Nat}{v:Value}{l:List V}{e:TypeId}(h:w.ownsRow base e 2 v l.length (flatV l))(hp:0<l.length):∃g cap,v= .slice (some ⟨g,0,none⟩) l.length cap∧base≤g∧g<w.heap.size∧∀j x,l[j]? =some x→ValCells w g (0+j*2) x:=by
 have hlt:=h.lt;obtain⟨h1,h2⟩:=h;rcases h2 with⟨_,h2⟩|⟨g,cap,cur,hv,hb,hh,h3,h4,h5,h6⟩
 ·omega
 ·subst hv;refine⟨g,cap,rfl,hb,Row.lt hh,fun j x hj=>?_⟩;have hg:=flatV_get hj;have hjl:j<l.length:=by
   rcases Nat.lt_or_ge j l.length with h|h
   ·exact h
   ·rw[List.getElem?_eq_none h]at hj;cases hj
  rw[←h6]at hg;have e0:=hg.1;have e1:=hg.2;rw[List.getElem?_take,if_pos (by omega),Array.getElem?_toList]at e0 e1;exact⟨Row.cell hh (by simpa using e0),Row.cell hh (by simpa using e1)⟩
end Go.Proofs.YtlenilbkifofjaaGreatDoor
namespace Go.Proofs.YtlenilbkifofjaaGreatDoor
open Go.RowKit
theorem wrap_in(n:Int):In64 (wrap64 n):=by unfold wrap64 In64;omega
theorem bitsI_in(op:BinOp)(x y:Int):In64 (bits op .i64 x y):=by
 unfold bits In64;simp only[IntKind.wrap_i64];omega
theorem tru_in64(t:Bool):In64 (tru t):=by unfold In64;exact tru_in t
theorem tmod_in{a b:Int}(ha:In64 a):In64 (a.tmod b):=by
 unfold In64 at*;have h:((a.tmod b).natAbs:Int)≤a.natAbs:=by
  rw[Int.natAbs_tmod]
  exact_mod_cast Nat.mod_le _ _
 by_cases hz:0≤a
 ·have:=Int.tmod_nonneg b hz;omega
 ·have hs:a.tmod b≤0:=by
   have h1:=Int.tmod_nonneg b (show 0≤ -a by omega);rw[Int.neg_tmod]at h1;omega
  omega
theorem divR_in{op a b:Int}(ha:In64 a):In64 (divR op a b):=by
 unfold divR partsQ partsR wholeQ wholeR
 (repeat' split)<;>first|exact wrap_in _|exact ha|exact tmod_in ha|(unfold In64;omega)
theorem pow_div_in{a:Int}(ha:In64 a)(k:Nat):In64 (a/2^k):=by
 have hp:(0:Int)<2^k:=Int.pow_pos (by decide);unfold In64 at*;constructor
 ·exact(Int.le_ediv_iff_mul_le hp).2 (by
   have:(-9223372036854775808:Int)*2^k≤ -9223372036854775808*1:=Int.mul_le_mul_of_nonpos_left (by decide) (by omega);omega)
 ·have:=Int.ediv_le_ediv hp ha.2;refine Int.le_trans this ?_;exact Int.ediv_le_self _ (by decide)
theorem two_in64{op a b:Int}(ha:In64 a):In64 (twoR op a b):=by
 unfold twoR
 (repeat' split)<;>first|exact wrap_in _|exact bitsI_in _ _ _|exact pow_div_in ha _|exact divR_in ha|exact tru_in64 _
theorem un_in64{op n:Int}(h:In64 n):In64 (unR op n):=unR_lo op n h.1 h.2
theorem loaded_in64{op n:Int}(h:In64 n):In64 (loadedF op n):=by
 unfold loadedF;split
 ·exact h
 ·exact cutN_lo _ _ _ h.1 h.2
theorem stored_in64{s:Nat}{n:Int}(h:In64 n):In64 (storedF s n):=by
 unfold storedF;split
 ·exact h
 ·exact cutN_lo _ _ _ h.1 h.2
theorem VOk.num{n:Nat}{x:Int}(hn:0<n)(h:In64 x):VOk n ⟨0,x⟩:=⟨hn,fun h=>absurd rfl h,h⟩
section
variable {M:List MO}
theorem MemOk.obj(h:MemOk M){k:Nat}(hk:k<M.length):0≤(mget M k).size∧(mget M k).size≤8∧(mget M k).l.length≤64:=by
 have hg:=mget_of hk;by_cases h0:k=0
 ·subst h0;rw[h.zero _ hg];simp
 ·have:=h.size k _ (by omega) hg;omega
theorem moved_ok(h:MemOk M){a:V}(ha:VOk M.length a)(hp:a.obj≠0){n:Int}{r:V}(hr:movedF M a n=some r):VOk M.length r:=by
 unfold movedF at hr;split at hr
 ·rename_i hc;obtain⟨_,h1,h2⟩:=hc;simp only[Option.some.injEq]at hr;subst hr;have hb:=h.obj ha.1;have:=MO.bytes_bd hb.1 hb.2.1 hb.2.2;have:=ha.2.1 hp;exact⟨ha.1,fun _=>by simp only;omega,by unfold In64;simp only;omega⟩
 ·cases hr
theorem bin_ok(h:MemOk M){op:Int}{a b r:V}(ha:VOk M.length a)(hb:VOk M.length b)(hr:binF twoR M op a b=some r):VOk M.length r:=by
 have hn:0<M.length:=Nat.lt_of_le_of_lt (Nat.zero_le _) ha.1;unfold binF at hr;by_cases h0:a.obj=0∧b.obj=0
 ·rw[if_pos h0]at hr;simp only[Option.some.injEq]at hr;subst hr;exact VOk.num hn (two_in64 ha.2.2)
 ·rw[if_neg h0]at hr;by_cases h1:op=12∧a.obj=0
  ·rw[if_pos h1]at hr;exact moved_ok h hb (by omega) hr
  ·rw[if_neg h1]at hr;by_cases h2:op=12∧b.obj=0
   ·rw[if_pos h2]at hr;exact moved_ok h ha (by omega) hr
   ·rw[if_neg h2]at hr;by_cases h3:op=13∧b.obj=0
    ·rw[if_pos h3]at hr;split at hr
     ·cases hr
     ·exact moved_ok h ha (by omega) hr
    ·rw[if_neg h3]at hr
     (repeat' split at hr)<;>first|(cases hr;done)|(simp only[Option.some.injEq]at hr;subst hr;exact VOk.num hn (two_in64 (by first|exact ha.2.2|(unfold In64;omega))))|(simp only[Option.some.injEq]at hr;subst hr;exact VOk.num hn (two_in64 (by split<;>(unfold In64;omega))))
theorem load_ok(h:MemOk M){op:Int}{a r:V}(ha:VOk M.length a)(hr:loadF M op a=some r):VOk M.length r:=by
 have hn:0<M.length:=Nat.lt_of_le_of_lt (Nat.zero_le _) ha.1;unfold loadF at hr;cases hF:atF M a (sizeL op)with
 |none=>rw[hF]at hr;cases hr
 |some j=>
  rw[hF]at hr;have hj:=(atF_lt hF (ha.2.1 (atF_pos hF)).1).2.2.2;have hv:VOk M.length ((mget M a.obj).l.getD j ⟨0,0⟩):=by
   refine h.vals (mget M a.obj) (List.mem_of_getElem? (mget_of ha.1)) _ ?_;rw[List.getD_eq_getElem?_getD,List.getElem?_eq_getElem hj];exact List.getElem_mem hj
  simp only at hr;generalize (mget M a.obj).l.getD j ⟨0,0⟩=v at hv hr
  (repeat' split at hr)
  ·simp only[Option.some.injEq]at hr;subst hr;exact hv
  ·cases hr
  ·simp only[Option.some.injEq]at hr;subst hr;exact VOk.num hn (loaded_in64 hv.2.2)
theorem getD_ok{l:List V}{n:Nat}(hn:0<n)(hl:∀v,v∈l→VOk n v)(j:Nat):VOk n (l.getD j ⟨0,0⟩):=by
 rw[List.getD_eq_getElem?_getD];cases hj:l[j]? with
 |none=>exact VOk.num hn (by unfold In64;omega)
 |some v=>exact hl v (List.mem_of_getElem? hj)
theorem apply_ok(h:MemOk M)(hn:0<M.length){op:Int}{l:List V}{r:V}(hl:∀v,v∈l→VOk M.length v)(hr:applyF M op l=some r):VOk M.length r:=by
 unfold applyF at hr;have h0:=getD_ok hn hl 0;have h1:=getD_ok hn hl 1;split at hr
 ·exact load_ok h h0 hr
 ·split at hr
  ·split at hr
   ·simp only[Option.some.injEq]at hr;subst hr;exact VOk.num hn (un_in64 h0.2.2)
   ·cases hr
  ·exact bin_ok h h0 h1 hr
structure FrOk (M:List MO) (tp:List V) (lo:List Nat) (ng:Nat):Prop where
 temps:∀v,v∈tp→VOk M.length v
 locs:∀x,x∈lo→x<M.length
 globs:ng<M.length
mutual
theorem eval_ok{tp:List V}{lo:List Nat}{ng:Nat}(h:MemOk M)(hf:FrOk M tp lo ng):∀(t:T){r:V},TIn t→TOk tp.length lo.length ng t→evalT M tp lo t=some r→VOk M.length r
 | .node op n ks,r,hi,ht,hr=>by
  have hn:0<M.length:=Nat.lt_of_le_of_lt (Nat.zero_le _) hf.globs;simp only[TIn]at hi;simp only[TOk]at ht;obtain⟨t1,t2,t3,t4,t5,t6,t7⟩:=ht;simp only[evalT]at hr;cases hks:evalTs M tp lo ks with
  |none=>rw[hks]at hr;cases hr
  |some l=>
   rw[hks]at hr;have hl:=evals_ok h hf ks hi.2 t7 hks;simp only[Option.bind_some,opF]at hr
   (repeat' split at hr)
   ·simp only[Option.some.injEq]at hr;subst hr;exact VOk.num hn hi.1
   ·simp only[Option.some.injEq]at hr;subst hr;exact getD_ok hn hf.temps _
   ·simp only[Option.some.injEq]at hr;subst hr;have:=t5 (by assumption);refine⟨hf.locs _ ?_,fun _=>by simp,by unfold In64;simp⟩;rw[List.getD_eq_getElem?_getD,List.getElem?_eq_getElem (by omega)];exact List.getElem_mem _
   ·simp only[Option.some.injEq]at hr;subst hr;have:=t6 (by assumption);have:=hf.globs;exact⟨by simp only;omega,fun _=>by simp,by unfold In64;simp⟩
   ·exact apply_ok h hn hl hr
theorem evals_ok{tp:List V}{lo:List Nat}{ng:Nat}(h:MemOk M)(hf:FrOk M tp lo ng):∀(ks:List T){l:List V},TsIn ks→TsOk tp.length lo.length ng ks→evalTs M tp lo ks=some l→∀v,v∈l→VOk M.length v
 |[],l,_,_,hr=>by simp[evalTs]at hr;subst hr;intro v hv;cases hv
 |k::ks,l,hi,ht,hr=>by
  simp only[TsIn]at hi;simp only[TsOk]at ht;simp only[evalTs]at hr;cases hk:evalT M tp lo k with
  |none=>rw[hk]at hr;cases hr
  |some v=>
   rw[hk]at hr;cases hks:evalTs M tp lo ks with
   |none=>rw[hks]at hr;simp at hr
   |some x=>
    rw[hks]at hr;simp at hr;subst hr;have h1:=eval_ok h hf k hi.1 ht.1 hk;have h2:=evals_ok h hf ks hi.2 ht.2 hks;intro u hu;cases hu with
    |head=>exact h1
    |tail _ hu=>exact h2 u hu
end
end
end Go.Proofs.YtlenilbkifofjaaGreatDoor
namespace Go.Proofs.YtlenilbkifofjaaGreatDoor
open Go.RowKit
structure ObS where
 size:Int
 count:Int
 init:List Int
structure StepS where
 op:Int
 to:Int
 size:Int
 fn:Int
 args:List T
structure BlockS where
 steps:List StepS
 fin:Int
 cond:T
 next:Int
 els:Int
structure GraphS where
 params:Int
 temps:Int
 locs:List ObS
 blocks:List BlockS
structure ProgS where
 globs:List ObS
 funcs:List GraphS
 main:Int
def fillF(o:ObS):List V:=(List.range o.count.toNat).map fun i=>⟨0,match o.init[i]? with|some n=>storedF o.size.toNat n|none=>0⟩
def makeF(M:List MO)(o:ObS):List MO:=(if M=[]then [⟨0,[],false⟩]else M)++[⟨o.size,fillF o,true⟩]
def makesF(M:List MO):List ObS→List MO
 |[]=>M
 |o::l=>makesF (makeF M o) l
def storeF(M:List MO)(size:Int)(a x:V):Option (List MO):=
 match atF M a size.toNat with
 |none=>none
 |some j=>if x.obj>0∧size≠8 then none else
   some (M.modify a.obj fun o=>{o with l:=o.l.set j (if x.obj=0 then⟨0,storedF size.toNat x.n⟩else x)})
def setT(tp:List V)(to:Int)(v:V):List V:=if 0≤to then tp.set to.toNat v else tp
def killF(M:List MO):List Nat→List MO
 |[]=>M
 |k::l=>killF (M.modify k fun o=>{o with live:=false}) l
abbrev CallR:=Int→List V→St→Option V×St
def actF(R:CallR)(s:St)(tp:List V)(x:StepS)(l:List V):Bool×St×List V:=
 if x.op=1 then(true,s,setT tp x.to (l.getD 0 ⟨0,0⟩))
 else if x.op=2 then match storeF s.mem x.size (l.getD 0 ⟨0,0⟩) (l.getD 1 ⟨0,0⟩)with
  |some M=>(true,{s with mem:=M},tp)
  |none=>(false,{s with kind:=3},tp)
 else if x.op=3 then match R x.fn l s with
  |(some v,s')=>(true,s',setT tp x.to v)
  |(none,s')=>(false,s',tp)
 else if x.op=5 then match s.inp with
  |[]=>(true,s,setT tp x.to ⟨0,0⟩)
  |n::r=>(true,{s with inp:=r},setT tp x.to ⟨0,n⟩)
 else if(l.getD 0 ⟨0,0⟩).obj>0 then(false,{s with kind:=3},tp)
 else if x.op=6 then(false,{s with code:=(l.getD 0 ⟨0,0⟩).n,kind:=1},tp)
 else(true,{s with out:=s.out++[(l.getD 0 ⟨0,0⟩).n]},tp)
def doesF(R:CallR)(fuel:Int)(lo:List Nat)(s:St)(tp:List V)(x:StepS):Bool×St×List V:=
 if(stepF fuel 1 s).1=false then(false,(stepF fuel 1 s).2,tp)
 else match evalTs (stepF fuel 1 s).2.mem tp lo x.args with
  |none=>(false,{(stepF fuel 1 s).2 with kind:=3},tp)
  |some l=>actF R (stepF fuel 1 s).2 tp x l
def stepsF(R:CallR)(fuel:Int)(lo:List Nat)(s:St)(tp:List V):List StepS→Bool×St×List V
 |[]=>(true,s,tp)
 |x::r=>match doesF R fuel lo s tp x with
  |(true,s',tp')=>stepsF R fuel lo s' tp' r
  |(false,s',tp')=>(false,s',tp')
inductive Goes where
 |over
 |next (k:Int)
 |ret (v:V)
def blockF(R:CallR)(fuel:Int)(lo:List Nat)(s:St)(tp:List V)(b:BlockS):Goes×St×List V:=
 match stepsF R fuel lo s tp b.steps with
 |(false,s',tp')=>(.over,s',tp')
 |(true,s1,tp1)=>
  if(stepF fuel 1 s1).1=false then(.over,(stepF fuel 1 s1).2,tp1)
  else if b.fin=1 then(.next b.next,(stepF fuel 1 s1).2,tp1)
  else match evalT (stepF fuel 1 s1).2.mem tp1 lo b.cond with
   |none=>(.over,{(stepF fuel 1 s1).2 with kind:=3},tp1)
   |some v=>if b.fin=3 then(.ret v,(stepF fuel 1 s1).2,tp1)
    else(.next (if v=⟨0,0⟩then b.els else b.next),(stepF fuel 1 s1).2,tp1)
def noBlock:BlockS:=⟨[],0,.node 0 0 [],0,0⟩
def noGraph:GraphS:=⟨0,0,[],[]⟩
def blocksF(R:CallR)(fuel:Int)(lo:List Nat)(bs:List BlockS):Nat→Int→St→List V→Option V×St
 |0,_,s,_=>(none,s)
 |g+1,k,s,tp=>match blockF R fuel lo s tp (bs.getD k.toNat noBlock)with
  |(.over,s',_)=>(none,s')
  |(.next k',s',tp')=>blocksF R fuel lo bs g k' s' tp'
  |(.ret v,s',_)=>(some v,{s' with mem:=killF s'.mem lo,calls:=s'.calls-1})
def countsF:List ObS→Int
 |[]=>0
 |o::l=>o.count+countsF l
def numsF(M:List MO)(n:Nat):List Nat:=(List.range n).map fun i=>(if M=[]then 1 else M.length)+i
def startF(n:Nat)(args:List V):List V:=args++List.replicate (n-args.length) ⟨0,0⟩
def callF(p:ProgS)(fuel:Int):Nat→CallR
 |0,_,_,s=>(none,stopF 4 s)
 |d+1,fn,args,s=>
  let g:=p.funcs.getD fn.toNat noGraph
  let s1:={s with calls:=s.calls+1,deep:=max s.deep (s.calls+1)}
  if(stepF fuel (countsF g.locs) s1).1=false then(none,(stepF fuel (countsF g.locs) s1).2)
  else
   let s2:=(stepF fuel (countsF g.locs) s1).2
   blocksF (callF p fuel d) fuel (numsF s2.mem g.locs.length) g.blocks (fuel-s2.steps+1).toNat 0 {s2 with mem:=makesF s2.mem g.locs} (startF g.temps.toNat args)
structure OutS where
 kind:Int
 code:Int
 out:List Int
 steps:Int
 deep:Int
def endF(r:Option V×St):OutS:=
 let s:=match r.1 with
  |some v=>{r.2 with kind:=if v.obj>0 then 3 else 1,code:=v.n}
  |none=>r.2
 if s.kind=3 then⟨3,0,[],0,0⟩else⟨s.kind,s.code,s.out,s.steps,s.deep⟩
def runF(p:ProgS)(inp:List Int)(fuel:Int):OutS:=
 endF (callF p fuel 64 p.main [] ⟨inp,0,0,[],0,0,0,makesF [] p.globs⟩)
def memBase(M:List MO):List MO:=if M=[]then [⟨0,[],false⟩]else M
theorem makeF_eq(M:List MO)(o:ObS):makeF M o=memBase M++[⟨o.size,fillF o,true⟩]:=rfl
theorem memBase_pos(M:List MO):0<(memBase M).length:=by
 unfold memBase;split
 ·simp
 ·rename_i h;cases M with|nil=>exact absurd rfl h|cons a l=>simp
theorem memBase_ok{M:List MO}(h:MemOk M):MemOk (memBase M):=by
 unfold memBase;split
 ·refine⟨by simp,fun o ho=>by simpa using ho.symm,fun k o hk ho=>?_,fun o ho v hv=>?_⟩
  ·rw[List.getElem?_eq_none (by simp;omega)]at ho;cases ho
  ·simp at ho;subst ho;simp at hv
 ·exact h
theorem mget_base(M:List MO)(k:Nat):mget (memBase M) k=mget M k:=by
 unfold memBase;split
 ·rename_i h;subst h;unfold mget;cases k<;>rfl
 ·rfl
theorem memBase_twice(M:List MO):memBase (memBase M)=memBase M:=by
 have h:=memBase_pos M;generalize memBase M=N at h;unfold memBase;rw[if_neg (by rintro rfl;simp at h)]
theorem atF_base(M:List MO)(a:V)(s:Nat):atF (memBase M) a s=atF M a s:=by unfold atF;simp only[mget_base]
theorem loadF_base(M:List MO)(op:Int)(a:V):loadF (memBase M) op a=loadF M op a:=by unfold loadF;simp only[mget_base,atF_base]
theorem movedF_base(M:List MO)(a:V)(n:Int):movedF (memBase M) a n=movedF M a n:=by unfold movedF;simp only[mget_base]
theorem cmpF_base(M:List MO)(a b:V):cmpF (memBase M) a b=cmpF M a b:=by unfold cmpF;simp only[mget_base]
theorem binF_base(two:Int→Int→Int→Int)(M:List MO)(op:Int)(a b:V):binF two (memBase M) op a b=binF two M op a b:=by unfold binF;simp only[mget_base,movedF_base,cmpF_base]
theorem opF_base(M:List MO)(tp:List V)(lo:List Nat)(op n:Int)(l:List V):opF (memBase M) tp lo op n l=opF M tp lo op n l:=by
 unfold opF applyF;simp only[loadF_base,binF_base]
mutual
theorem evalT_base(M:List MO)(tp:List V)(lo:List Nat):∀t,evalT (memBase M) tp lo t=evalT M tp lo t
 | .node op n ks=>by
  rw[evalT,evalT,evalTs_base M tp lo ks]
  congr 1
  funext l
  exact opF_base M tp lo op n l
theorem evalTs_base(M:List MO)(tp:List V)(lo:List Nat):∀ks,evalTs (memBase M) tp lo ks=evalTs M tp lo ks
 |[]=>rfl
 |k::ks=>by rw[evalTs,evalTs,evalT_base M tp lo k,evalTs_base M tp lo ks]
end
theorem memBase_of{M:List MO}(h:0<M.length):memBase M=M:=by
 unfold memBase;rw[if_neg (by rintro rfl;simp at h)]
theorem VOk.based{M:List MO}{v:V}(h:VOk (memBase M).length v):VOkW M.length v:=by
 refine⟨fun h0=>?_,h.2⟩;have h1:=h.1;unfold memBase at h1;split at h1
 ·simp at h1;omega
 ·exact h1
theorem memBase_le(M:List MO):(memBase M).length≤M.length+1:=by
 unfold memBase;split
 ·simp
 ·omega
theorem memBase_ge(M:List MO):M.length≤(memBase M).length:=by
 unfold memBase;split
 ·rename_i h;subst h;simp
 ·exact Nat.le_refl _
theorem MemOk.unbase{M:List MO}(h:MemOk (memBase M)):MemOk M:=by
 unfold memBase at h;split at h
 ·rename_i hM;subst hM;exact⟨by simp,fun o h=>by simp at h,fun k o _ h=>by simp at h,fun o h=>by simp at h⟩
 ·exact h
theorem wr_drewN(F:Nat→Prop)(w:World)(n:Nat):Wr F w (w.drewN n):=Wr.of_below (below_drewN (Below.refl _ _) n)
theorem Wr.cell1(w:World)(b j:Nat)(v:Value):Wr (fun k=>k=b) w (w.setCell ⟨b,j,none⟩ v):=Wr.setCell w ⟨b,j,none⟩ v rfl
theorem val_info:(Tryz.prog.info? 70).map (fun i=>(i.zero,i.size,i.bytes))=some (some (.agg #[.int .i64 0,.int .i64 0]),2,16):=by kernel_rfl
theorem addr0(g j:Nat):(⟨g,0,none⟩:Addr).add j=⟨g,j,none⟩:=by simp[Addr.add];exact fun h=>h.symm
theorem pair_cells(w:World)(a b:Value)(t:TypeId)(r:Nat)(hr:r=w.heap.size):∀(j:Nat)(u:Value),[a,b][j]? =some u→(w.alloc (.cells #[a,b] t)).cell? ((⟨r,0,none⟩:Addr).add j)=some u:=by
 subst hr;intro j u hj;have hj2:j<2:=by
  rcases Nat.lt_or_ge j 2 with h|h
  ·exact h
  ·rw[List.getElem?_eq_none (by simpa using h)]at hj;cases hj
 rw[addr0];exact(Row.new w #[a,b] t).cell (by simpa using hj)
theorem pair_one(a b:Int):∀u:Value,u∈[Value.int .i64 a,Value.int .i64 b]→u.oneCell'=true:=by
 intro u hu;simp at hu;rcases hu with rfl|rfl<;>rfl
theorem wr_two(w1:World)(r:Nat)(u v:Value):Wr (fun k=>k=r) w1 ((w1.setCell ⟨r,0,none⟩ u).setCell ⟨r,1,none⟩ v):=
 (Wr.cell1 w1 r 0 u).trans (Wr.cell1 _ r 1 v) (fun _ h=>Or.inl h)
theorem wr_two_alloc(w1:World)(r:Nat)(u v:Value)(o:Obj):Wr (fun k=>k=r) w1 (((w1.setCell ⟨r,0,none⟩ u).setCell ⟨r,1,none⟩ v).alloc o):=
 (wr_two w1 r u v).trans (Wr.of_below (F:=fun k=>k=r) (below1 _ o)) (fun _ h=>Or.inl h)
mutual
theorem TreeAt.tin{w:World}{C:Nat→Nat→Prop}:∀(t:T){v0 v1 v2:Value},TreeAt w C t v0 v1 v2→TIn t
 | .node op n ks,v0,v1,v2,h=>by
  simp only[TreeAt]at h;obtain⟨_,_,_,h3,_,A,cap,_,h6⟩:=h;refine⟨h3,?_⟩
  match ks,h6 with
  |[],_=>trivial
  |k::ks,h6=>
   obtain⟨b,off,_,_,hk⟩:=h6 (by simp);exact KidsAt.tin (k::ks) hk
theorem KidsAt.tin{w:World}{C:Nat→Nat→Prop}:∀(ks:List T){b off:Nat},KidsAt w C ks b off→TsIn ks
 |[],_,_,_=>trivial
 |k::ks,b,off,h=>by
  simp only[KidsAt]at h;obtain⟨⟨v0,v1,v2,_,_,_,ht⟩,hr⟩:=h;exact⟨TreeAt.tin k ht,KidsAt.tin ks hr⟩
end
theorem KidsV.tin{w:World}{B n:Nat}{ks:List T}{A:Option Addr}(h:KidsV w B ks A n):TsIn ks:=by
 obtain⟨hl,_,h2⟩:=h;by_cases hn:0<n
 ·obtain⟨b,off,_,_,hk⟩:=h2 hn;exact KidsAt.tin ks hk
 ·have:ks=[]:=List.length_eq_zero_iff.1 (by omega);subst this;simp[TsIn]
end Go.Proofs.YtlenilbkifofjaaGreatDoor
namespace Go.Proofs.YtlenilbkifofjaaGreatDoor
open Go.RowKit
def SliceAt{α:Type}(w:World)(B sz:Nat)(E:(Nat→Option Value)→α→Prop)(l:List α)(v:Value):Prop:=
 ∃A cap,v= .slice A l.length cap∧l.length≤9223372036854775807∧(0<l.length→∃b off,A=some ⟨b,off,none⟩∧b<B∧∀i x,l[i]? =some x→E (fun j=>w.cell? ⟨b,off+i*sz+j,none⟩) x)
theorem SliceAt.below{α:Type}{w w':World}{B B' sz:Nat}{E E':(Nat→Option Value)→α→Prop}{l:List α}{v:Value}(h:SliceAt w B sz E l v)(hb:Below B w w')(hB:B≤B')(hE:∀c x,E c x→E' c x):SliceAt w' B' sz E' l v:=by
 obtain⟨A,cap,h0,h1,h2⟩:=h;refine⟨A,cap,h0,h1,fun hp=>?_⟩;obtain⟨b,off,hA,hlt,hx⟩:=h2 hp;refine⟨b,off,hA,by omega,fun i x hi=>?_⟩;have e:(fun j=>w'.cell? ⟨b,off+i*sz+j,none⟩)=fun j=>w.cell? ⟨b,off+i*sz+j,none⟩:=by funext j;exact hb.cell (p:=⟨b,_,none⟩) hlt
 rw[e];exact hE _ _ (hx i x hi)
theorem SliceAt.get{α:Type}{w:World}{B sz:Nat}{E:(Nat→Option Value)→α→Prop}{l:List α}{A:Option Addr}{n cap k:Nat}(h:SliceAt w B sz E l (.slice A n cap))(hk:k<n):
  ∃b off x,A=some ⟨b,off,none⟩∧b<B∧l[k]? =some x∧E (fun j=>w.cell? ⟨b,off+k*sz+j,none⟩) x:=by
 obtain⟨A',cap',h0,h1,h2⟩:=h;injection h0 with e1 e2 e3;subst e1 e2;obtain⟨b,off,hA,hlt,hx⟩:=h2 (by omega);exact⟨b,off,_,hA,hlt,List.getElem?_eq_getElem hk,hx k _ (List.getElem?_eq_getElem hk)⟩
theorem SliceAt.len{α:Type}{w:World}{B sz:Nat}{E:(Nat→Option Value)→α→Prop}{l:List α}{A:Option Addr}{n cap:Nat}(h:SliceAt w B sz E l (.slice A n cap)):l.length=n∧n≤9223372036854775807:=by
 obtain⟨A',cap',h0,h1,_⟩:=h;injection h0 with e1 e2 e3;subst e2;exact⟨rfl,h1⟩
def LongsAt(w:World)(B:Nat)(l:List Int)(v:Value):Prop:=SliceAt w B 1 (fun c x=>c 0=some (.int .i64 x)∧In64 x) l v
def ObE(w:World)(B:Nat)(c:Nat→Option Value)(o:ObS):Prop:=
 c 0=some (.int .i64 o.size)∧c 1=some (.int .i64 o.count)∧(∃v,c 2=some v∧LongsAt w B o.init v)∧In64 o.size∧In64 o.count
def TreeE(w:World)(B:Nat)(c:Nat→Option Value)(t:T):Prop:=∃v0 v1 v2,c 0=some v0∧c 1=some v1∧c 2=some v2∧TreeAt w (Under B) t v0 v1 v2
def TreesAt(w:World)(B:Nat)(l:List T)(v:Value):Prop:=∃A n cap,v= .slice A n cap∧KidsV w B l A n
def StepE(w:World)(B:Nat)(c:Nat→Option Value)(x:StepS):Prop:=
 c 0=some (.int .i64 x.op)∧c 1=some (.int .i64 x.to)∧c 2=some (.int .i64 x.size)∧c 3=some (.int .i64 x.fn)∧(∃v,c 4=some v∧TreesAt w B x.args v)∧In64 x.op∧In64 x.to∧In64 x.size∧In64 x.fn
def BlockE(w:World)(B:Nat)(c:Nat→Option Value)(b:BlockS):Prop:=
 (∃v,c 0=some v∧SliceAt w B 5 (StepE w B) b.steps v)∧c 1=some (.int .i64 b.fin)∧(∃v0 v1 v2,c 2=some v0∧c 3=some v1∧c 4=some v2∧TreeAt w (Under B) b.cond v0 v1 v2)∧c 5=some (.int .i64 b.next)∧c 6=some (.int .i64 b.els)∧In64 b.fin∧In64 b.next∧In64 b.els
def GraphE(w:World)(B:Nat)(c:Nat→Option Value)(g:GraphS):Prop:=
 c 0=some (.int .i64 g.params)∧c 1=some (.int .i64 g.temps)∧(∃v,c 2=some v∧SliceAt w B 3 (ObE w B) g.locs v)∧(∃v,c 3=some v∧SliceAt w B 7 (BlockE w B) g.blocks v)∧In64 g.params∧In64 g.temps
def ProgE(w:World)(B:Nat)(c:Nat→Option Value)(p:ProgS):Prop:=
 (∃v,c 0=some v∧SliceAt w B 3 (ObE w B) p.globs v)∧(∃v,c 1=some v∧SliceAt w B 4 (GraphE w B) p.funcs v)∧c 2=some (.int .i64 p.main)∧In64 p.main
section
variable {w w':World} {B B':Nat}
theorem LongsAt.below{l:List Int}{v:Value}(h:LongsAt w B l v)(hb:Below B w w')(hB:B≤B'):LongsAt w' B' l v:=SliceAt.below h hb hB fun _ _ h=>h
theorem TreesAt.below{l:List T}{v:Value}(h:TreesAt w B l v)(hb:Below B w w')(hB:B≤B'):TreesAt w' B' l v:=by
 obtain⟨A,n,cap,h0,h1⟩:=h;exact⟨A,n,cap,h0,h1.below hb hB⟩
theorem ObE.below{c:Nat→Option Value}{o:ObS}(h:ObE w B c o)(hb:Below B w w')(hB:B≤B'):ObE w' B' c o:=by
 obtain⟨h0,h1,⟨v,h2,h3⟩,h4⟩:=h;exact⟨h0,h1,⟨v,h2,h3.below hb hB⟩,h4⟩
theorem StepE.below{c:Nat→Option Value}{x:StepS}(h:StepE w B c x)(hb:Below B w w')(hB:B≤B'):StepE w' B' c x:=by
 obtain⟨h0,h1,h2,h3,⟨v,h4,h5⟩,h6⟩:=h;exact⟨h0,h1,h2,h3,⟨v,h4,h5.below hb hB⟩,h6⟩
theorem BlockE.below{c:Nat→Option Value}{b:BlockS}(h:BlockE w B c b)(hb:Below B w w')(hB:B≤B'):BlockE w' B' c b:=by
 obtain⟨⟨v,h0,h1⟩,h2,⟨v0,v1,v2,h3,h4,h5,h6⟩,h7⟩:=h;exact⟨⟨v,h0,h1.below hb hB fun _ _ h=>h.below hb hB⟩,h2,⟨v0,v1,v2,h3,h4,h5,h6.below hb hB⟩,h7⟩
theorem GraphE.below{c:Nat→Option Value}{g:GraphS}(h:GraphE w B c g)(hb:Below B w w')(hB:B≤B'):GraphE w' B' c g:=by
 obtain⟨h0,h1,⟨v,h2,h3⟩,⟨u,h4,h5⟩,h6⟩:=h;exact⟨h0,h1,⟨v,h2,h3.below hb hB fun _ _ h=>h.below hb hB⟩,⟨u,h4,h5.below hb hB fun _ _ h=>h.below hb hB⟩,h6⟩
theorem ProgE.below{c:Nat→Option Value}{p:ProgS}(h:ProgE w B c p)(hb:Below B w w')(hB:B≤B'):ProgE w' B' c p:=by
 obtain⟨⟨v,h0,h1⟩,⟨u,h2,h3⟩,h4⟩:=h;exact⟨⟨v,h0,h1.below hb hB fun _ _ h=>h.below hb hB⟩,⟨u,h2,h3.below hb hB fun _ _ h=>h.below hb hB⟩,h4⟩
end
end Go.Proofs.YtlenilbkifofjaaGreatDoor
namespace Go.Proofs.YtlenilbkifofjaaGreatDoor
open Go.RowKit
structure OffAt (base:Nat) (own:Nat→Prop) (fb tb:Nat) (lv:Value):Prop where
 fb:¬own fb∧base≤fb
 tb:¬own tb∧base≤tb
 lv:∀g,lv.ownBlock=some g→¬own g∧base≤g
theorem ValsIn.set{cs:Array Value}{l:List V}(h:ValsIn cs l)(k:Nat)(v:V):ValsIn ((cs.setIfInBounds (k*2) (.int .i64 v.obj)).setIfInBounds (k*2+1) (.int .i64 v.n)) (l.set k v):=by
 obtain⟨h0,h1⟩:=h;refine⟨by simp[h0],fun j u hj=>?_⟩;by_cases e:k=j
 ·subst e;have hk:k<l.length:=by
   rcases Nat.lt_or_ge k l.length with h|h
   ·exact h
   ·rw[List.getElem?_eq_none (by simpa using h)]at hj;cases hj
  rw[List.getElem?_set_self hk]at hj;injection hj with hj;subst hj;refine⟨?_,?_⟩
  ·rw[Array.getElem?_setIfInBounds_ne (by omega),Array.getElem?_setIfInBounds_self_of_lt (by omega)]
  ·rw[Array.getElem?_setIfInBounds_self_of_lt (by simp;omega)]
 ·rw[List.getElem?_set_ne e]at hj;obtain⟨a,b⟩:=h1 j u hj;refine⟨?_,?_⟩
  ·rw[Array.getElem?_setIfInBounds_ne (by omega),Array.getElem?_setIfInBounds_ne (by omega)];exact a
  ·rw[Array.getElem?_setIfInBounds_ne (by omega),Array.getElem?_setIfInBounds_ne (by omega)];exact b
theorem VRow.set{w:World}{b:Nat}{l:List V}(h:VRow w b l)(k:Nat)(v:V):VRow ((w.setCell ⟨b,k*2,none⟩ (.int .i64 v.obj)).setCell ⟨b,k*2+1,none⟩ (.int .i64 v.n)) b (l.set k v):=by
 obtain⟨cs,hr,hv⟩:=h;exact⟨_,(hr.set _ _).set _ _,hv.set k v⟩
theorem wr_pair(w1:World)(r j k:Nat)(u v:Value):Wr (fun b=>b=r) w1 ((w1.setCell ⟨r,j,none⟩ u).setCell ⟨r,k,none⟩ v):=
 (Wr.cell1 w1 r j u).trans (Wr.cell1 _ r k v) (fun _ h=>Or.inl h)
theorem two_vals{w:World}{base:Nat}{v:Value}{l:List V}(h:w.ownsRow base 70 2 v l.length (flatV l)):∀g,v.ownBlock=some g→base≤g∧g<w.heap.size:=fun g hg=>by
 obtain⟨h1,cs,h2⟩:=ownsRow_row h hg;exact⟨h1,h2.lt⟩
theorem stepF_yes{fuel n:Int}{s:St}(h:(stepF fuel n s).1=true):s.kind=0∧¬n>fuel-s.steps∧(stepF fuel n s).2={s with steps:=s.steps+n}:=by
 unfold stepF at h ⊢;by_cases h0:s.kind=0
 ·rw[if_pos h0]at h ⊢;by_cases h1:n>fuel-s.steps
  ·rw[if_pos h1]at h;cases h
  ·rw[if_neg h1];exact⟨h0,h1,rfl⟩
 ·rw[if_neg h0]at h;cases h
theorem stepF_mem(fuel n:Int)(s:St):(stepF fuel n s).2.mem=s.mem:=by
 unfold stepF
 (repeat' split)<;>rfl
theorem ownsRow_vals'{w:World}{base:Nat}{v:Value}{l:List V}{k:Nat}(h:w.ownsRow base 70 2 v k (flatV l))(hk:l.length=k)(hp:0<k):∃g cap,v= .slice (some ⟨g,0,none⟩) k cap∧base≤g∧g<w.heap.size∧∀j x,l[j]? =some x→ValCells w g (j*2) x:=by
 subst hk;obtain⟨g,cap,h0,h1,h2,h3⟩:=ownsRow_vals h hp;exact⟨g,cap,h0,h1,h2,fun j x hj=>by simpa using h3 j x hj⟩
theorem one_of{α:Type}{l:List α}(h:l.length=1):∃a,l=[a]:=by
 match l,h with
 |[a],_=>exact⟨a,rfl⟩
theorem two_of{α:Type}{l:List α}(h:l.length=2):∃a b,l=[a,b]:=by
 match l,h with
 |[a,b],_=>exact⟨a,b,rfl⟩
theorem doesF_yes{R:CallR}{fuel:Int}{lo:List Nat}{s s':St}{tp:List V}{x:StepS}{l:List V}(h:(stepF fuel 1 s).1=true)(h2:(stepF fuel 1 s).2=s')(he:evalTs s.mem tp lo x.args=some l):doesF R fuel lo s tp x=actF R s' tp x l:=by
 have hm:=stepF_mem fuel 1 s;unfold doesF;rw[if_neg (by rw[h];simp),hm,he,h2]
theorem InW.tail{w:World}{base:Nat}{b off cap q:Nat}{x:Int}{l:List Int}(h:∀j y,(x::l)[j]? =some y→w.cell? ⟨b,off+j,none⟩=some (.int .i64 y)∧In64 y)(hb:b<base)(hq:q=l.length)(h1:q+1≤cap)(h2:cap≤9223372036854775807):
  InW w base (.slice (some ⟨b,off+1,none⟩) q (cap-1)) l:=by
 subst hq;exact⟨_,_,rfl,by omega,by omega,fun _=>⟨b,off+1,rfl,hb,fun j y hj=>by have:=h (j+1) y (by simpa using hj);rw[show off+1+j=off+(j+1) by omega];exact this⟩⟩
theorem InW.empty{w:World}{base:Nat}{A:Option Addr}:InW w base (.slice A 0 0) []:=⟨A,0,rfl,by simp,by omega,fun h=>by simp at h⟩
theorem made_get(c i:Nat)(h:i<c*2):(madeCells (Value.agg #[.int .i64 0,.int .i64 0]).cells (c*2))[i]? =some (.int .i64 0):=by
 have e:(Value.agg #[Value.int .i64 0,Value.int .i64 0]).cells=#[.int .i64 0,.int .i64 0]:=by kernel_rfl
 rw[e];unfold madeCells;rw[Array.getElem?_map,Array.getElem?_range,if_pos h];rcases Nat.mod_two_eq_zero_or_one i with h|h<;>simp[h]
theorem made_vals(c:Nat):ValsIn (madeCells (Value.agg #[.int .i64 0,.int .i64 0]).cells (c*2)) (List.replicate c ⟨0,0⟩):=by
 refine⟨by rw[size_madeCells];simp,fun j v hj=>?_⟩;have hlt:j<c:=by
  rcases Nat.lt_or_ge j c with h|h
  ·exact h
  ·rw[List.getElem?_eq_none (by simpa using h)]at hj;cases hj
 rw[List.getElem?_replicate,if_pos hlt]at hj;injection hj with hj;subst hj;exact⟨made_get c _ (by omega),made_get c _ (by omega)⟩
theorem make_vals(ct:Nat)(h:ct≤1000000):∃Z:Array Value,ValsIn Z (List.replicate ct ⟨0,0⟩)∧∀W:World,(Instr.makeSlice 101 (.int .i64 ct) (.int .i64 ct)).run Tryz.prog W= .ok (.slice (some ⟨W.heap.size,0,none⟩) ct ct) (W.alloc (.cells Z 70)):=by
 obtain⟨i0,hi,hz0,hz1,hz2⟩:=info_parts val_info;refine⟨_,made_vals ct,fun W=>?_⟩;have:=run_make (P:=Tryz.prog) W 101 70 i0 _ Tryz.underlying101 hi hz0 .i64 .i64 ct ct (by omega) (by omega) (by rw[hz2];omega) (by omega);rw[hz1]at this;simpa using this
def fillK(o:ObS)(k:Nat):List V:=(List.range o.count.toNat).map fun i=>⟨0,if i<k then storedF o.size.toNat (o.init.getD i 0)else 0⟩
theorem fillK_zero(o:ObS):fillK o 0=List.replicate o.count.toNat ⟨0,0⟩:=by
 apply List.ext_getElem?;intro i;unfold fillK;by_cases h:i<o.count.toNat
 ·simp[h]
 ·simp[h]
theorem fillK_all(o:ObS):fillK o o.init.length=fillF o:=by
 unfold fillK fillF;apply List.map_congr_left;intro i _;by_cases h:i<o.init.length
 ·rw[if_pos h,List.getD_eq_getElem?_getD,List.getElem?_eq_getElem h];rfl
 ·rw[if_neg h,List.getElem?_eq_none (by omega)]
theorem fillK_succ(o:ObS)(k:Nat)(hk:k<o.count.toNat):(fillK o k).set k ⟨0,storedF o.size.toNat (o.init.getD k 0)⟩=fillK o (k+1):=by
 apply List.ext_getElem?;intro i;unfold fillK;by_cases e:k=i
 ·subst e;rw[List.getElem?_set_self (by simpa using hk)];simp[hk]
 ·rw[List.getElem?_set_ne e];by_cases h:i<o.count.toNat
  ·simp[h];have:(i<k)↔(i<k+1):=by omega
   simp[this]
  ·simp[h]
theorem fillK_length(o:ObS)(k:Nat):(fillK o k).length=o.count.toNat:=by simp[fillK]
theorem fillK_get(o:ObS)(k:Nat)(hk:k<o.count.toNat):(fillK o k)[k]? =some ⟨0,0⟩:=by simp[fillK,hk]
theorem VRow.setN{w:World}{b:Nat}{l:List V}(h:VRow w b l)(k:Nat)(v:V)(n:Int)(hv:l[k]? =some v):VRow (w.setCell ⟨b,k*2+1,none⟩ (.int .i64 n)) b (l.set k ⟨v.obj,n⟩):=by
 obtain⟨cs,hr,h0,h1⟩:=h;refine⟨_,hr.set _ _,by simp[h0],fun j u hj=>?_⟩;have hk:k<l.length:=by
  rcases Nat.lt_or_ge k l.length with h|h
  ·exact h
  ·rw[List.getElem?_eq_none h]at hv;cases hv
 by_cases e:k=j
 ·subst e;rw[List.getElem?_set_self hk]at hj;injection hj with hj;subst hj;exact⟨by rw[Array.getElem?_setIfInBounds_ne (by omega)];exact(h1 k v hv).1,by rw[Array.getElem?_setIfInBounds_self_of_lt (by omega)]⟩
 ·rw[List.getElem?_set_ne e]at hj;obtain⟨a,b⟩:=h1 j u hj;exact⟨by rw[Array.getElem?_setIfInBounds_ne (by omega)];exact a,by rw[Array.getElem?_setIfInBounds_ne (by omega)];exact b⟩
theorem MemW.wr{w w':World}{base:Nat}{own F:Nat→Prop}{memv:Value}{rb:Nat→Nat}{M:List MO}(h:MemW w base own memv rb M)(ho:∀g,memv.ownBlock=some g→own g)(hw:Wr F w w')(hF:∀k,F k→¬own k):MemW w' base own memv rb M:=by
 obtain⟨⟨xs,hx,hox⟩,hm,hi,hk⟩:=h;refine⟨⟨xs,ownsRow_wr hx hw (fun g hg hf=>hF g hf (ho g hg)),hox⟩,fun k o h1 ho'=>?_,hi,hk⟩;obtain⟨h2,cs,hr,hv⟩:=hm k o h1 ho';exact⟨h2,cs,hr.wr hw (fun hf=>hF _ hf h2),hv⟩
theorem VOk.mono{n m:Nat}{v:V}(h:VOk n v)(hm:n≤m):VOk m v:=⟨by have:=h.1;omega,h.2⟩
theorem fill_in64(o:ObS)(hi:∀x,x∈o.init→In64 x)(v:V)(hv:v∈fillF o):v.obj=0∧In64 v.n:=by
 unfold fillF at hv;simp only[List.mem_map,List.mem_range]at hv;obtain⟨i,_,rfl⟩:=hv;refine⟨rfl,?_⟩;simp only;split
 ·rename_i n hn;exact stored_in64 (hi n (List.mem_of_getElem? hn))
 ·unfold In64;omega
theorem makeF_ok{M:List MO}(h:MemOk M)(o:ObS)(hs:o.size=1∨o.size=2∨o.size=4∨o.size=8)(hc:o.count.toNat≤64)(hi:∀x,x∈o.init→In64 x)(hm:(memBase M).length+1≤4294967296):MemOk (makeF M o):=by
 rw[makeF_eq];have hb:=memBase_ok h;have hp:=memBase_pos M;refine⟨by simpa using hm,fun x hx=>?_,fun k x hk hx=>?_,fun x hx v hv=>?_⟩
 ·rw[List.getElem?_append_left hp]at hx;exact hb.zero x hx
 ·rcases Nat.lt_or_ge k (memBase M).length with h|h
  ·rw[List.getElem?_append_left h]at hx;exact hb.size k x hk hx
  ·rw[List.getElem?_append_right h]at hx;rcases Nat.lt_or_ge (k-(memBase M).length) 1 with h'|h'
   ·rw[show k-(memBase M).length=0 by omega]at hx;simp at hx;subst hx;exact⟨hs,by simp[fillF];omega⟩
   ·rw[List.getElem?_eq_none (by simpa using h')]at hx;cases hx
 ·rw[List.length_append];simp only[List.mem_append,List.mem_singleton]at hx;rcases hx with hx|rfl
  ·exact(hb.vals x hx v hv).mono (by omega)
  ·obtain⟨h0,h1⟩:=fill_in64 o hi v hv;exact⟨by omega,fun h=>absurd h0 h,h1⟩
theorem MemW.push{w w':World}{base:Nat}{own own':Nat→Prop}{memv memv':Value}{rb:Nat→Nat}{M:List MO}{o:MO}{ob:Nat}{xs:List Value}(h:MemW w base own memv rb M)(hpos:0<M.length)
  (hxs:∀k x,M[k]? =some x→ObjIn xs rb k x)(hlen:xs.length=M.length*3)
  (hown:w'.ownsRow base 103 3 memv' (M.length+1) (xs++[.int .i64 o.size,.slice (some ⟨ob,0,none⟩) o.l.length o.l.length,.bool o.live]))
  (hkeep:∀k x,1≤k→M[k]? =some x→VRow w' (rb k) x.l)(hob:VRow w' ob o.l)(hnew:¬own ob)(h1:∀k,own k→own' k)(h2:own' ob)(hok:MemOk (M++[o])):
  MemW w' base own' memv' (fun k=>if k=M.length then ob else rb k) (M++[o]):=by
 have hget:∀k x,(M++[o])[k]? =some x→(k<M.length∧M[k]? =some x)∨(k=M.length∧x=o):=by
  intro k x hx;rcases Nat.lt_or_ge k M.length with h|h
  ·rw[List.getElem?_append_left h]at hx;exact Or.inl ⟨h,hx⟩
  ·rw[List.getElem?_append_right h]at hx;rcases Nat.lt_or_ge (k-M.length) 1 with h'|h'
   ·rw[show k-M.length=0 by omega]at hx;simp at hx;exact Or.inr ⟨by omega,hx.symm⟩
   ·rw[List.getElem?_eq_none (by simpa using h')]at hx;cases hx
 refine⟨⟨_,by rw[List.length_append];exact hown,fun k x hx=>?_⟩,fun k x hk hx=>?_,fun i j hi1 hi2 hj1 hj2 he=>?_,hok⟩
 ·rcases hget k x hx with⟨hlt,hx⟩|⟨rfl,rfl⟩
  ·obtain⟨a,b,c⟩:=hxs k x hx;unfold ObjIn;rw[List.getElem?_append_left (by omega),List.getElem?_append_left (by omega),List.getElem?_append_left (by omega)];simp only[if_neg (show¬k=M.length by omega)];exact⟨a,b,c⟩
  ·unfold ObjIn;rw[List.getElem?_append_right (by omega),List.getElem?_append_right (by omega),List.getElem?_append_right (by omega),hlen];simp only[if_neg (show¬M.length=0 by omega),if_true];rw[show M.length*3-M.length*3=0 by omega,show M.length*3+1-M.length*3=1 by omega,show M.length*3+2-M.length*3=2 by omega];exact⟨rfl,rfl,rfl⟩
 ·rcases hget k x hx with⟨hlt,hx⟩|⟨rfl,rfl⟩
  ·rw[if_neg (by omega:¬k=M.length)];exact⟨h1 _ (h.mine k x hk hx).1,hkeep k x hk hx⟩
  ·rw[if_pos rfl];exact⟨h2,hob⟩
 ·simp only[List.length_append,List.length_singleton]at hi2 hj2;have hmine:∀k,1≤k→k<M.length→own (rb k):=fun k h1 h2=>(h.mine k _ h1 (List.getElem?_eq_getElem h2)).1;by_cases ei:i=M.length<;>by_cases ej:j=M.length
  ·omega
  ·rw[if_pos ei,if_neg ej]at he;exact absurd (he▸hmine j hj1 (by omega)) hnew
  ·rw[if_neg ei,if_pos ej]at he;exact absurd (he▸hmine i hi1 (by omega)) hnew
  ·rw[if_neg ei,if_neg ej]at he;exact h.inj i j hi1 (by omega) hj1 (by omega) he
theorem MemW.first{w w':World}{base:Nat}{own own':Nat→Prop}{memv memv':Value}{rb:Nat→Nat}(h:MemW w base own memv rb [])
  (hown:w'.ownsRow base 103 3 memv' 1 [.int .i64 0,.slice none 0 0,.bool false]):MemW w' base own' memv' rb (memBase []):=by
 unfold memBase;rw[if_pos rfl];refine⟨⟨_,hown,fun k x hx=>?_⟩,fun k x hk hx=>?_,fun i j hi1 hi2 hj1 hj2 he=>?_,?_⟩
 ·cases k with
  |zero=>simp at hx;subst hx;exact⟨rfl,rfl,rfl⟩
  |succ k=>rw[List.getElem?_eq_none (by simp)]at hx;cases hx
 ·rw[List.getElem?_eq_none (by simp;omega)]at hx;cases hx
 ·simp at hi2 hj2;omega
 ·have:=memBase_ok h.ok;unfold memBase at this;rw[if_pos rfl]at this;exact this
def NumOk(M:List MO):Prop:=∀o,o∈M→o.size≠8→∀v,v∈o.l→v.obj=0
structure GInv (fuel:Int) (s:St):Prop where
 kind:s.kind=0
 lo:0≤s.steps
 hi:s.steps≤fuel
 many:(memBase s.mem).length≤20+s.steps.toNat
 outs:s.out.length≤s.steps.toNat
 calls:0≤s.calls
 deep:0≤s.deep
 inp:∀x,x∈s.inp→In64 x
 mem:MemOk (memBase s.mem)
 num:NumOk (memBase s.mem)
structure GKept (fuel:Int) (s s':St):Prop where
 inv:GInv fuel s'
 calls:s'.calls=s.calls
 grow:(memBase s.mem).length≤(memBase s'.mem).length
 steps:s.steps≤s'.steps
theorem GKept.refl{fuel:Int}{s:St}(h:GInv fuel s):GKept fuel s s:=⟨h,rfl,Nat.le_refl _,Int.le_refl _⟩
theorem GKept.trans{fuel:Int}{a b c:St}(h:GKept fuel a b)(k:GKept fuel b c):GKept fuel a c:=⟨k.inv,k.calls.trans h.calls,Nat.le_trans h.grow k.grow,Int.le_trans h.steps k.steps⟩
theorem GInv.tick{fuel n:Int}{s:St}(h:GInv fuel s)(hn:0≤n)(hy:(stepF fuel n s).1=true):(stepF fuel n s).2={s with steps:=s.steps+n}∧GInv fuel {s with steps:=s.steps+n}:=by
 obtain⟨_,h1,h2⟩:=stepF_yes hy;have:=h.lo;have:=h.many;have:=h.outs;exact⟨h2,h.kind,by show 0≤s.steps+n;omega,by show s.steps+n≤fuel;omega,by show(memBase s.mem).length≤20+(s.steps+n).toNat;omega,by show s.out.length≤(s.steps+n).toNat;omega,h.calls,h.deep,h.inp,h.mem,h.num⟩
theorem GInv.step1{fuel:Int}{s:St}(h:GInv fuel s)(hle:s.steps+1≤fuel):GInv fuel {s with steps:=s.steps+1}:=by
 have:=h.lo;have:=h.many;have:=h.outs;exact⟨h.kind,by show 0≤s.steps+1;omega,hle,by show(memBase s.mem).length≤20+(s.steps+1).toNat;omega,by show s.out.length≤(s.steps+1).toNat;omega,h.calls,h.deep,h.inp,h.mem,h.num⟩
def kidsI(op:Int):Int:=if op<1∨op>36 then-1 else if op≤4 then 0 else if 12≤op∧op≤30 then 2 else 1
def sizeB(n:Int):Bool:=decide (n=1∨n=2∨n=4∨n=8)
def betwB(n a b:Int):Bool:=decide (a≤n∧n≤b)
def numB(n b:Int):Bool:=decide (0≤n∧n≤b)
def loadB(op:Int):Bool:=decide (5≤op∧op≤11)
theorem size_any(n:Int)(w:World):
  Calls Tryz.prog 26 #[.int .i64 n] w fun e w'=>e= .returned (.bool (sizeB n))∧w=w':=by
 unfold sizeB;by_cases h1:n=1
 ·subst h1;go_enter Tryz.func26,Tryz.ntmps26;go_wp2;go_ret;exact⟨rfl,rfl⟩
 by_cases h2:n=2
 ·subst h2;go_enter Tryz.func26,Tryz.ntmps26;go_wp2;go_ret;exact⟨rfl,rfl⟩
 by_cases h3:n=4
 ·subst h3;go_enter Tryz.func26,Tryz.ntmps26;go_wp2;go_ret;exact⟨rfl,rfl⟩
 have e1:(n==1)=false:=by simpa using h1
 have e2:(n==2)=false:=by simpa using h2
 have e3:(n==4)=false:=by simpa using h3
 have HE:=Lib.hid (show decide (n=1∨n=2∨n=4∨n=8)=(n==8) by rw[Bool.eq_iff_iff];simp[h1,h2,h3]);clear h1 h2 h3;go_enter Tryz.func26,Tryz.ntmps26;go_wp2;go_ret;exact⟨ret_b HE.out.symm,rfl⟩
theorem between_any(n a b:Int)(w:World):
  Calls Tryz.prog 15 #[.int .i64 n,.int .i64 a,.int .i64 b] w fun e w'=>e= .returned (.bool (betwB n a b))∧w=w':=by
 unfold betwB;by_cases h1:a≤n
 ·have HE:=Lib.hid (show decide (a≤n∧n≤b)=decide (n≤b) by rw[Bool.eq_iff_iff];simp[h1]);go_enter Tryz.func15,Tryz.ntmps15;go_wp2;go_ret;exact⟨ret_b HE.out.symm,rfl⟩
 ·have hd:decide (a≤n)=false:=by simpa using h1
  have HE:=Lib.hid (show decide (a≤n∧n≤b)=false by simp;omega);rw[HE.out];go_enter Tryz.func15,Tryz.ntmps15;go_wp2;go_ret;exact⟨rfl,rfl⟩
theorem num_any(n b:Int)(w:World):
  Calls Tryz.prog 16 #[.int .i64 n,.int .i64 b] w fun e w'=>e= .returned (.bool (numB n b))∧w=w':=by
 unfold numB;by_cases h1:0≤n
 ·have HE:=Lib.hid (show decide (0≤n∧n≤b)=decide (n≤b) by rw[Bool.eq_iff_iff];simp[h1]);go_enter Tryz.func16,Tryz.ntmps16;go_wp2;go_ret;exact⟨ret_b HE.out.symm,rfl⟩
 ·have hd:decide (0≤n)=false:=by simpa using h1
  have HE:=Lib.hid (show decide (0≤n∧n≤b)=false by simp;omega);rw[HE.out];go_enter Tryz.func16,Tryz.ntmps16;go_wp2;go_ret;exact⟨rfl,rfl⟩
def badN(op x:Int)(ks:Nat):Bool:=decide ((ks:Int)≠kidsI op∨(op>4∧x≠0)∨(op≠1∧x<0))
mutual
def cnt:T→Int→Int×Bool
 | .node op x ks,n=>if n+1>200∨badN op x ks.length=true then(n+1,false)else cnts ks (n+1)
def cnts:List T→Int→Int×Bool
 |[],n=>(n,true)
 |k::ks,n=>if(cnt k n).2=false then((cnt k n).1,false)else cnts ks (cnt k n).1
end
mutual
theorem cnt_bd:∀(t:T)(n:Int),0≤n→n≤200→n≤(cnt t n).1∧(cnt t n).1≤201∧((cnt t n).2=true→(cnt t n).1≤200)
 | .node op x ks,n,h0,h1=>by
  unfold cnt;split
  ·exact⟨by simp only;omega,by simp only;omega,fun h=>by cases h⟩
  ·rename_i h;have h2:¬n+1>200:=fun h'=>h (Or.inl h');have:=cnts_bd ks (n+1) (by omega) (by omega);exact⟨by omega,this.2⟩
theorem cnts_bd:∀(ks:List T)(n:Int),0≤n→n≤200→n≤(cnts ks n).1∧(cnts ks n).1≤201∧((cnts ks n).2=true→(cnts ks n).1≤200)
 |[],n,h0,h1=>by unfold cnts;exact⟨by simp only;omega,by simp only;omega,fun _=>by simp only;omega⟩
 |k::ks,n,h0,h1=>by
  unfold cnts;have hk:=cnt_bd k n h0 h1;split
  ·exact⟨hk.1,hk.2.1,fun h=>by cases h⟩
  ·rename_i h;have h2:(cnt k n).2=true:=by simpa using h
   have:=cnts_bd ks (cnt k n).1 (by omega) (hk.2.2 h2);exact⟨by omega,this.2⟩
end
theorem drop_of{α:Type}{l:List α}{j:Nat}{x:α}(h:l[j]? =some x):l.drop j=x::l.drop (j+1):=by
 have hlt:j<l.length:=by
  rcases Nat.lt_or_ge j l.length with h'|h'
  ·exact h'
  ·rw[List.getElem?_eq_none h']at h;cases h
 rw[List.drop_eq_getElem_cons hlt];rw[List.getElem?_eq_getElem hlt]at h;injection h with h;rw[h]
theorem TreeAt.shape0{w:World}{C:Nat→Nat→Prop}{t:T}{v0 v1 v2:Value}(h:TreeAt w C t v0 v1 v2):∃a b A n c,v0= .int .i64 a∧v1= .int .i64 b∧v2= .slice A n c:=by
 obtain⟨op,n,ks⟩:=t;simp only[TreeAt]at h;obtain⟨h0,h1,_,_,_,A,cap,h5,_⟩:=h;exact⟨_,_,_,_,_,h0,h1,h5⟩
theorem drop_nil_of{α:Type}{l:List α}{n:Nat}(h:l.length≤n):l.drop n=[]:=List.drop_eq_nil_of_le h
def treeC(t:T):Int×Bool:=cnt t 0
mutual
def T.few:T→Prop
 | .node _ _ ks=>ks.length*40≤140737488351232∧T.fews ks
def T.fews:List T→Prop
 |[]=>True
 |k::ks=>T.few k∧T.fews ks
end
theorem T.fews_get:∀{ks:List T}{i:Nat}{k:T},T.fews ks→ks[i]? =some k→T.few k
 |[],i,k,_,h=>by simp at h
 |a::r,0,k,hf,h=>by simp at h;subst h;rw[T.fews]at hf;exact hf.1
 |a::r,i+1,k,hf,h=>by rw[T.fews]at hf;exact T.fews_get hf.2 (by simpa using h)
theorem T.fews_of:∀{ks:List T},(∀(i:Nat)(k:T),ks[i]? =some k→T.few k)→T.fews ks
 |[],_=>by rw[T.fews];trivial
 |a::r,h=>by rw[T.fews];exact⟨h 0 a rfl,T.fews_of (fun i k hk=>h (i+1) k (by simpa using hk))⟩
def ObjF(x:ObS):Prop:=x.init.length*8≤140737488351232
def StepF(x:StepS):Prop:=x.args.length*40≤140737488351232∧T.fews x.args
def BlockF(x:BlockS):Prop:=x.steps.length*56≤140737488351232∧(∀y,y∈x.steps→StepF y)∧T.few x.cond
def GraphF(x:GraphS):Prop:=x.locs.length*40≤140737488351232∧(∀y,y∈x.locs→ObjF y)∧x.blocks.length*88≤140737488351232∧(∀y,y∈x.blocks→BlockF y)
def ProgF(x:ProgS):Prop:=x.globs.length*40≤140737488351232∧(∀y,y∈x.globs→ObjF y)∧x.funcs.length*64≤140737488351232∧(∀y,y∈x.funcs→GraphF y)
end Go.Proofs.YtlenilbkifofjaaGreatDoor
namespace Go.Proofs.YtlenilbkifofjaaGreatDoor
open Go.RowKit
structure InsS where
 op:Int
 dst:Int
 a:Int
 b:Int
 n:Int
 arg:List Int
structure CodeS where
 params:Int
 regs:Int
 locs:List ObS
 ins:List InsS
structure VirtS where
 globs:List ObS
 funcs:List CodeS
 main:Int
def InsE(w:World)(B:Nat)(c:Nat→Option Value)(x:InsS):Prop:=
 c 0=some (.int .i64 x.op)∧c 1=some (.int .i64 x.dst)∧c 2=some (.int .i64 x.a)∧c 3=some (.int .i64 x.b)∧c 4=some (.int .i64 x.n)∧(∃v,c 5=some v∧LongsAt w B x.arg v)∧In64 x.op∧In64 x.dst∧In64 x.a∧In64 x.b∧In64 x.n
def CodeE(w:World)(B:Nat)(c:Nat→Option Value)(g:CodeS):Prop:=
 c 0=some (.int .i64 g.params)∧c 1=some (.int .i64 g.regs)∧(∃v,c 2=some v∧SliceAt w B 3 (ObE w B) g.locs v)∧(∃v,c 3=some v∧SliceAt w B 6 (InsE w B) g.ins v)∧In64 g.params∧In64 g.regs
def VirtE(w:World)(B:Nat)(c:Nat→Option Value)(p:VirtS):Prop:=
 (∃v,c 0=some v∧SliceAt w B 3 (ObE w B) p.globs v)∧(∃v,c 1=some v∧SliceAt w B 4 (CodeE w B) p.funcs v)∧c 2=some (.int .i64 p.main)∧In64 p.main
section
variable {w w':World} {B B':Nat}
theorem InsE.below{c:Nat→Option Value}{x:InsS}(h:InsE w B c x)(hb:Below B w w')(hB:B≤B'):InsE w' B' c x:=by
 obtain⟨h0,h1,h2,h3,h4,⟨v,h5,h6⟩,h7⟩:=h;exact⟨h0,h1,h2,h3,h4,⟨v,h5,h6.below hb hB⟩,h7⟩
theorem CodeE.below{c:Nat→Option Value}{g:CodeS}(h:CodeE w B c g)(hb:Below B w w')(hB:B≤B'):CodeE w' B' c g:=by
 obtain⟨h0,h1,⟨v,h2,h3⟩,⟨u,h4,h5⟩,h6⟩:=h;exact⟨h0,h1,⟨v,h2,h3.below hb hB fun _ _ h=>h.below hb hB⟩,⟨u,h4,h5.below hb hB fun _ _ h=>h.below hb hB⟩,h6⟩
theorem VirtE.below{c:Nat→Option Value}{p:VirtS}(h:VirtE w B c p)(hb:Below B w w')(hB:B≤B'):VirtE w' B' c p:=by
 obtain⟨⟨v,h0,h1⟩,⟨u,h2,h3⟩,h4⟩:=h;exact⟨⟨v,h0,h1.below hb hB fun _ _ h=>h.below hb hB⟩,⟨u,h2,h3.below hb hB fun _ _ h=>h.below hb hB⟩,h4⟩
end
def VirtAt(w:World)(B:Nat)(P:Value×Value×Value)(p:VirtS):Prop:=
 SliceAt w B 3 (ObE w B) p.globs P.1∧SliceAt w B 4 (CodeE w B) p.funcs P.2.1∧P.2.2= .int .i64 p.main∧In64 p.main
theorem VirtAt.below{w w':World}{B:Nat}{P:Value×Value×Value}{p:VirtS}(h:VirtAt w B P p)(hb:Below B w w'):VirtAt w' B P p:=
 ⟨h.1.below hb (Nat.le_refl _) fun _ _ h=>h.below hb (Nat.le_refl _),h.2.1.below hb (Nat.le_refl _) fun _ _ h=>h.below hb (Nat.le_refl _),h.2.2⟩
theorem VirtAt.shape{w:World}{B:Nat}{P:Value×Value×Value}{p:VirtS}(h:VirtAt w B P p):∃GA gc FA fc,P=(.slice GA p.globs.length gc,.slice FA p.funcs.length fc,.int .i64 p.main):=by
 obtain⟨P0,P1,P2⟩:=P;obtain⟨⟨A,c,h0,_⟩,⟨A',c',h1,_⟩,h2,_⟩:=h;simp only at h0 h1 h2;exact⟨_,_,_,_,by rw[h0,h1,h2]⟩
theorem VirtE.at{w:World}{B:Nat}{c:Nat→Option Value}{p:VirtS}(h:VirtE w B c p):∃P:Value×Value×Value,c 0=some P.1∧c 1=some P.2.1∧c 2=some P.2.2∧VirtAt w B P p:=by
 obtain⟨⟨v,h0,h1⟩,⟨u,h2,h3⟩,h4,h5⟩:=h;exact⟨(v,u,.int .i64 p.main),h0,h2,h4,h1,h3,rfl,h5⟩
end Go.Proofs.YtlenilbkifofjaaGreatDoor
namespace Go.Proofs.YtlenilbkifofjaaGreatDoor
open Go.RowKit
def InsF(x:InsS):Prop:=x.arg.length*8≤140737488351232
def CodeF(x:CodeS):Prop:=x.locs.length*40≤140737488351232∧(∀y,y∈x.locs→ObjF y)∧x.ins.length*64≤140737488351232∧(∀y,y∈x.ins→InsF y)
def VirtF(x:VirtS):Prop:=x.globs.length*40≤140737488351232∧(∀y,y∈x.globs→ObjF y)∧x.funcs.length*64≤140737488351232∧(∀y,y∈x.funcs→CodeF y)
def obB(o:ObS):Bool:=sizeB o.size && betwB o.count 1 64 && !decide ((o.init.length:Int)>o.count)
def obsB:List ObS→Bool
 |[]=>true
 |o::l=>obB o && obsB l
def objsB(l:List ObS)(most:Int):Bool:=obsB l && decide ((l.length:Int)≤most)
end Go.Proofs.YtlenilbkifofjaaGreatDoor
namespace Go.Proofs.YtlenilbkifofjaaGreatDoor
open Go.RowKit
def StMono(f:Int)(s s':St):Prop:=s.out<+:s'.out∧s.steps≤s'.steps∧s'.steps≤f
theorem StMono.refl{f:Int}{s:St}(h:s.steps≤f):StMono f s s:=⟨List.prefix_refl _,Int.le_refl _,h⟩
theorem StMono.trans{f:Int}{a b c:St}(h:StMono f a b)(k:StMono f b c):StMono f a c:=⟨h.1.trans k.1,Int.le_trans h.2.1 k.2.1,k.2.2⟩
theorem StMono.same{f:Int}{s s' t:St}(h:StMono f s s')(h1:t.out=s'.out)(h2:t.steps=s'.steps):StMono f s t:=⟨h1▸h.1,h2▸h.2.1,h2▸h.2.2⟩
theorem stepF_mono{f n:Int}{s:St}(hn:0≤n)(h:s.steps≤f):StMono f s (stepF f n s).2:=by
 unfold stepF;split
 ·split
  ·exact⟨List.prefix_refl _,h,Int.le_refl _⟩
  ·exact⟨List.prefix_refl _,by show s.steps≤s.steps+n;omega,by show s.steps+n≤f;omega⟩
 ·exact StMono.refl h
def MonoR(f:Int)(R:CallR):Prop:=∀fn args s,s.steps≤f→StMono f s (R fn args s).2
section
variable {f:Int} {R:CallR}
theorem actF_mono(hR:MonoR f R){s:St}(h:s.steps≤f)(tp:List V)(x:StepS)(l:List V):StMono f s (actF R s tp x l).2.1:=by
 have hr:=StMono.refl h;unfold actF;split
 ·exact hr
 ·split
  ·split<;>exact hr.same rfl rfl
  ·split
   ·have:=hR x.fn l s h;split<;>(rename_i e;rw[e]at this;exact this)
   ·split
    ·split
     ·exact hr
     ·exact hr.same rfl rfl
    ·split
     ·exact hr.same rfl rfl
     ·split
      ·exact hr.same rfl rfl
      ·exact⟨List.prefix_append _ _,Int.le_refl _,h⟩
theorem doesF_mono(hR:MonoR f R)(lo:List Nat){s:St}(h:s.steps≤f)(tp:List V)(x:StepS):StMono f s (doesF R f lo s tp x).2.1:=by
 have h1:=stepF_mono (n:=1) (by omega) h;unfold doesF;split
 ·exact h1
 ·split
  ·exact h1.same rfl rfl
  ·exact h1.trans (actF_mono hR h1.2.2 _ _ _)
theorem stepsF_mono(hR:MonoR f R)(lo:List Nat):∀(xs:List StepS){s:St}(tp:List V),s.steps≤f→StMono f s (stepsF R f lo s tp xs).2.1
 |[],s,tp,h=>StMono.refl h
 |x::r,s,tp,h=>by
  have h1:=doesF_mono hR lo h tp x;rw[stepsF];split
  ·rename_i s' tp' e;rw[e]at h1;exact h1.trans (stepsF_mono hR lo r tp' h1.2.2)
  ·rename_i s' tp' e;rw[e]at h1;exact h1
theorem blockF_mono(hR:MonoR f R)(lo:List Nat){s:St}(h:s.steps≤f)(tp:List V)(b:BlockS):StMono f s (blockF R f lo s tp b).2.1:=by
 have h1:=stepsF_mono hR lo b.steps tp h;unfold blockF;split
 ·rename_i s' tp' e;rw[e]at h1;exact h1
 ·rename_i s' tp' e;rw[e]at h1;have h2:=h1.trans (stepF_mono (n:=1) (by omega) h1.2.2);split
  ·exact h2
  ·split
   ·exact h2
   ·split
    ·exact h2.same rfl rfl
    ·split<;>exact h2
theorem blocksF_mono(hR:MonoR f R)(lo:List Nat)(bs:List BlockS):∀(g:Nat)(k:Int){s:St}(tp:List V),s.steps≤f→StMono f s (blocksF R f lo bs g k s tp).2
 |0,_,s,_,h=>StMono.refl h
 |g+1,k,s,tp,h=>by
  have h1:=blockF_mono hR lo h tp (bs.getD k.toNat noBlock);rw[blocksF];split
  ·rename_i s' tp' e;rw[e]at h1;exact h1
  ·rename_i k' s' tp' e;rw[e]at h1;exact h1.trans (blocksF_mono hR lo bs g k' tp' h1.2.2)
  ·rename_i v s' tp' e;rw[e]at h1;exact h1.same rfl rfl
end
def Counts(p:ProgS):Prop:=∀fn:Int,0≤countsF (p.funcs.getD fn.toNat noGraph).locs
theorem callF_mono{p:ProgS}(hp:Counts p)(f:Int):∀d,MonoR f (callF p f d)
 |0,fn,args,s,h=>by
  show StMono f s (stopF 4 s);unfold stopF;split<;>exact(StMono.refl h).same rfl rfl
 |d+1,fn,args,s,h=>by
  rw[callF];have h0:StMono f s {s with calls:=s.calls+1,deep:=max s.deep (s.calls+1)}:=(StMono.refl h).same rfl rfl;have h1:=h0.trans (stepF_mono (hp fn) h)
  dsimp only
  split
  ·exact h1
  ·exact(h1.trans ((StMono.refl h1.2.2).same (t:={(stepF f (countsF (p.funcs.getD fn.toNat noGraph).locs) {s with calls:=s.calls+1,deep:=max s.deep (s.calls+1)}).2 with mem:=makesF (stepF f (countsF (p.funcs.getD fn.toNat noGraph).locs) {s with calls:=s.calls+1,deep:=max s.deep (s.calls+1)}).2.mem (p.funcs.getD fn.toNat noGraph).locs}) rfl rfl)).trans (blocksF_mono (callF_mono hp f d) _ _ _ _ _ h1.2.2)
def Dry(f:Int)(s1 s2:St):Prop:=s1.kind=2∧s1.out<+:s2.out∧f<s2.steps
theorem Dry.on{f f2:Int}{s1 s2 t:St}(h:Dry f s1 s2)(k:StMono f2 s2 t):Dry f s1 t:=⟨h.1,h.2.1.trans k.1,by have:=h.2.2;have:=k.2.1;omega⟩
def SimR(f1:Int)(R1 R2:CallR):Prop:=∀fn args s,s.kind=0→s.steps≤f1→
 (R1 fn args s=R2 fn args s∧(R1 fn args s).2.steps≤f1∧(R1 fn args s).2.kind≠2∧((R1 fn args s).1≠none→(R1 fn args s).2.kind=0))∨((R1 fn args s).1=none∧Dry f1 (R1 fn args s).2 (R2 fn args s).2)
theorem stepF_sim{f1 f2 n:Int}{s:St}(hf:f1<f2)(hn:0≤n)(hk:s.kind=0)(hs:s.steps≤f1):
  (stepF f1 n s=(true,{s with steps:=s.steps+n})∧stepF f2 n s=(true,{s with steps:=s.steps+n})∧s.steps+n≤f1)∨((stepF f1 n s).1=false∧Dry f1 (stepF f1 n s).2 (stepF f2 n s).2):=by
 unfold stepF;rw[if_pos hk,if_pos hk];by_cases h1:n>f1-s.steps
 ·right;rw[if_pos h1];refine⟨rfl,rfl,?_,?_⟩
  ·split<;>exact List.prefix_refl _
  ·split
   ·exact hf
   ·show f1<s.steps+n;omega
 ·left;rw[if_neg h1,if_neg (by omega)];exact⟨rfl,rfl,by omega⟩
section
variable {f1 f2:Int} {R1 R2:CallR}
theorem actF_sim(hf:f1<f2)(h1:SimR f1 R1 R2){s:St}(hk:s.kind=0)(hs:s.steps≤f1)(tp:List V)(x:StepS)(l:List V):
  (actF R1 s tp x l=actF R2 s tp x l∧(actF R1 s tp x l).2.1.steps≤f1∧(actF R1 s tp x l).2.1.kind≠2∧((actF R1 s tp x l).1=true→(actF R1 s tp x l).2.1.kind=0))∨((actF R1 s tp x l).1=false∧Dry f1 (actF R1 s tp x l).2.1 (actF R2 s tp x l).2.1):=by
 by_cases h3:x.op=3
 ·have hx:∀R:CallR,actF R s tp x l=match R x.fn l s with|(some v,s')=>(true,s',setT tp x.to v)|(none,s')=>(false,s',tp):=fun R=>by
   unfold actF;rw[if_neg (by omega),if_neg (by omega),if_pos h3]
   all_goals(rcases R x.fn l s with⟨v,s'⟩;cases v<;>rfl)
  rw[hx,hx];rcases h1 x.fn l s hk hs with⟨e,a,b,c⟩|⟨a,b⟩
  ·left;rw[←e];refine⟨rfl,?_⟩;cases hr:R1 x.fn l s with
   |mk v s'=>
    rw[hr]at a b c;cases v with
    |none=>exact⟨a,b,fun h=>by cases h⟩
    |some v=>exact⟨a,b,fun _=>c (by simp)⟩
  ·right;cases hr:R1 x.fn l s with
   |mk v s'=>
    rw[hr]at a b;simp only at a;subst a;refine⟨rfl,?_⟩;cases hr2:R2 x.fn l s with
    |mk v2 s2=>rw[hr2]at b;cases v2<;>exact b
 ·left;have hx:actF R1 s tp x l=actF R2 s tp x l:=by
   unfold actF
   repeat(first|rfl|(split;·rfl)|(rw[if_neg h3,if_neg h3]))
  refine⟨hx,?_⟩;unfold actF;by_cases g1:x.op=1
  ·rw[if_pos g1];exact⟨hs,by rw[hk];omega,fun _=>hk⟩
  ·rw[if_neg g1];by_cases g2:x.op=2
   ·rw[if_pos g2];split
    ·exact⟨hs,by show s.kind≠2;rw[hk];omega,fun _=>hk⟩
    ·exact⟨hs,by show(3:Int)≠2;omega,fun h=>by cases h⟩
   ·rw[if_neg g2,if_neg h3];by_cases g5:x.op=5
    ·rw[if_pos g5];split
     ·exact⟨hs,by show s.kind≠2;rw[hk];omega,fun _=>hk⟩
     ·exact⟨hs,by show s.kind≠2;rw[hk];omega,fun _=>hk⟩
    ·rw[if_neg g5];split
     ·exact⟨hs,by show(3:Int)≠2;omega,fun h=>by cases h⟩
     ·split
      ·exact⟨hs,by show(1:Int)≠2;omega,fun h=>by cases h⟩
      ·exact⟨hs,by show s.kind≠2;rw[hk];omega,fun _=>hk⟩
def SimB(f1:Int)(r1 r2:Bool×St×List V):Prop:=
 (r1=r2∧r1.2.1.steps≤f1∧r1.2.1.kind≠2∧(r1.1=true→r1.2.1.kind=0))∨(r1.1=false∧Dry f1 r1.2.1 r2.2.1)
theorem doesF_sim(hf:f1<f2)(h1:SimR f1 R1 R2)(h2:MonoR f2 R2)(lo:List Nat){s:St}(hk:s.kind=0)(hs:s.steps≤f1)(tp:List V)(x:StepS):SimB f1 (doesF R1 f1 lo s tp x) (doesF R2 f2 lo s tp x):=by
 rcases stepF_sim (n:=1) hf (by omega) hk hs with⟨e1,e2,hle⟩|⟨e1,hd⟩
 ·unfold doesF;rw[e1,e2];simp only[Bool.true_eq_false,if_false];split
  ·left;exact⟨rfl,hle,by show(3:Int)≠2;omega,fun h=>by cases h⟩
  ·exact actF_sim (s:={s with steps:=s.steps+1}) hf h1 hk hle tp x _
 ·have hm:=stepF_mono (f:=f2) (n:=1) (by omega) (show s.steps≤f2 by omega);right;have e:doesF R1 f1 lo s tp x=(false,(stepF f1 1 s).2,tp):=by unfold doesF;rw[if_pos e1]
  rw[e];refine⟨rfl,?_⟩;unfold doesF;split
  ·exact hd
  ·split
   ·exact⟨hd.1,hd.2.1,hd.2.2⟩
   ·exact hd.on (actF_mono h2 hm.2.2 _ _ _)
theorem stepsF_sim(hf:f1<f2)(h1:SimR f1 R1 R2)(h2:MonoR f2 R2)(lo:List Nat):∀(xs:List StepS){s:St}(tp:List V),s.kind=0→s.steps≤f1→SimB f1 (stepsF R1 f1 lo s tp xs) (stepsF R2 f2 lo s tp xs)
 |[],s,tp,hk,hs=>Or.inl ⟨rfl,hs,by show s.kind≠2;omega,fun _=>hk⟩
 |x::r,s,tp,hk,hs=>by
  have hm:=doesF_mono h2 lo (show s.steps≤f2 by omega) tp x;rw[stepsF,stepsF];rcases doesF_sim hf h1 h2 lo hk hs tp x with⟨e,a,b,c⟩|⟨a,b⟩
  ·rw[←e];cases hr:doesF R1 f1 lo s tp x with
   |mk ok q=>
    obtain⟨s',tp'⟩:=q;rw[hr]at a b c;cases ok with
    |true=>exact stepsF_sim hf h1 h2 lo r tp' (c rfl) a
    |false=>exact Or.inl ⟨rfl,a,b,fun h=>by cases h⟩
  ·right;cases hr:doesF R1 f1 lo s tp x with
   |mk ok q=>
    obtain⟨s',tp'⟩:=q;rw[hr]at a b;simp only at a;subst a;refine⟨rfl,?_⟩;cases hr2:doesF R2 f2 lo s tp x with
    |mk ok2 q2=>
     obtain⟨s2,tp2⟩:=q2;rw[hr2]at b hm;cases ok2 with
     |true=>exact b.on (stepsF_mono h2 lo r tp2 hm.2.2)
     |false=>exact b
def SimG(f1:Int)(s:St)(r1 r2:Goes×St×List V):Prop:=
 (r1=r2∧r1.2.1.steps≤f1∧r1.2.1.kind≠2∧(r1.1≠.over→r1.2.1.kind=0∧s.steps+1≤r1.2.1.steps))∨(r1.1= .over∧Dry f1 r1.2.1 r2.2.1)
theorem blockF_sim(hf:f1<f2)(h1:SimR f1 R1 R2)(h2:MonoR f2 R2)(lo:List Nat){s:St}(hk:s.kind=0)(hs:s.steps≤f1)(hm1:MonoR f1 R1)(tp:List V)(b:BlockS):SimG f1 s (blockF R1 f1 lo s tp b) (blockF R2 f2 lo s tp b):=by
 have hm:=stepsF_mono h2 lo b.steps tp (show s.steps≤f2 by omega);have hmm:=stepsF_mono hm1 lo b.steps tp hs;unfold blockF;rcases stepsF_sim hf h1 h2 lo b.steps tp hk hs with⟨e,a,c,d⟩|⟨a,c⟩
 ·rw[←e];cases hr:stepsF R1 f1 lo s tp b.steps with
  |mk ok q=>
   obtain⟨s',tp'⟩:=q;rw[hr]at a c d hmm;rw[←e,hr]at hm;cases ok with
   |false=>exact Or.inl ⟨rfl,a,c,fun h=>absurd rfl h⟩
   |true=>
    have hk':=d rfl;simp only at hk' a
    dsimp only
    rcases stepF_sim (n:=1) hf (by omega) hk' a with⟨e1,e2,hle⟩|⟨e1,hd⟩
    ·rw[e1,e2];simp only[Bool.true_eq_false,if_false];have hst:s.steps+1≤s'.steps+1:=by have:=hmm.2.1;simp only at this;omega
     split
     ·exact Or.inl ⟨rfl,hle,by show s'.kind≠2;omega,fun _=>⟨hk',hst⟩⟩
     ·split
      ·exact Or.inl ⟨rfl,hle,by show(3:Int)≠2;omega,fun h=>absurd rfl h⟩
      ·split
       ·exact Or.inl ⟨rfl,hle,by show s'.kind≠2;omega,fun _=>⟨hk',hst⟩⟩
       ·exact Or.inl ⟨rfl,hle,by show s'.kind≠2;omega,fun _=>⟨hk',hst⟩⟩
    ·right;rw[if_pos e1];refine⟨rfl,?_⟩;split
     ·exact hd
     ·split
      ·exact hd
      ·split
       ·exact⟨hd.1,hd.2.1,hd.2.2⟩
       ·split<;>exact hd
 ·right;cases hr:stepsF R1 f1 lo s tp b.steps with
  |mk ok q=>
   obtain⟨s',tp'⟩:=q;rw[hr]at a c;simp only at a;subst a;refine⟨rfl,?_⟩;cases hr2:stepsF R2 f2 lo s tp b.steps with
   |mk ok2 q2=>
    obtain⟨s2,tp2⟩:=q2;rw[hr2]at c hm;cases ok2 with
    |false=>exact c
    |true=>
     have h3:=c.on (stepF_mono (n:=1) (by omega) hm.2.2)
     dsimp only
     split
     ·exact h3
     ·split
      ·exact h3
      ·split
       ·exact⟨h3.1,h3.2.1,h3.2.2⟩
       ·split<;>exact h3
def SimO(f1:Int)(r1 r2:Option V×St):Prop:=
 (r1=r2∧r1.2.steps≤f1∧r1.2.kind≠2∧(r1.1≠none→r1.2.kind=0))∨(r1.1=none∧Dry f1 r1.2 r2.2)
theorem blocksF_sim(hf:f1<f2)(h1:SimR f1 R1 R2)(h2:MonoR f2 R2)(hm1:MonoR f1 R1)(lo:List Nat)(bs:List BlockS):∀(g1 g2:Nat)(k:Int){s:St}(tp:List V),s.kind=0→s.steps≤f1→f1-s.steps<g1→f2-s.steps<g2→
  SimO f1 (blocksF R1 f1 lo bs g1 k s tp) (blocksF R2 f2 lo bs g2 k s tp)
 |0,_,_,s,_,_,hs,hg,_=>by omega
 |_+1,0,_,s,_,_,hs,_,hg=>by omega
 |g1+1,g2+1,k,s,tp,hk,hs,hg1,hg2=>by
  have hm:=blockF_mono h2 lo (show s.steps≤f2 by omega) tp (bs.getD k.toNat noBlock);rw[blocksF,blocksF];rcases blockF_sim hf h1 h2 lo hk hs hm1 tp (bs.getD k.toNat noBlock)with⟨e,a,c,d⟩|⟨a,c⟩
  ·rw[←e];cases hr:blockF R1 f1 lo s tp (bs.getD k.toNat noBlock)with
   |mk gg q=>
    obtain⟨s',tp'⟩:=q;rw[hr]at a c d;simp only at a c d;cases gg with
    |over=>exact Or.inl ⟨rfl,a,c,fun h=>absurd rfl h⟩
    |next k'=>
     obtain⟨hk',hst⟩:=d (by simp);exact blocksF_sim hf h1 h2 hm1 lo bs g1 g2 k' tp' hk' a (by omega) (by omega)
    |ret v=>exact Or.inl ⟨rfl,a,c,fun _=>(d (by simp)).1⟩
  ·right;cases hr:blockF R1 f1 lo s tp (bs.getD k.toNat noBlock)with
   |mk gg q=>
    obtain⟨s',tp'⟩:=q;rw[hr]at a c;simp only at a;subst a;refine⟨rfl,?_⟩;cases hr2:blockF R2 f2 lo s tp (bs.getD k.toNat noBlock)with
    |mk gg2 q2=>
     obtain⟨s2,tp2⟩:=q2;rw[hr2]at c hm;cases gg2 with
     |over=>exact c
     |next k'=>exact c.on (blocksF_mono h2 lo bs g2 k' tp2 hm.2.2)
     |ret v=>exact⟨c.1,c.2.1,c.2.2⟩
end
theorem callF_sim{p:ProgS}(hp:Counts p){f1 f2:Int}(hf:f1<f2):∀d,SimR f1 (callF p f1 d) (callF p f2 d)
 |0,fn,args,s,hk,hs=>by
  left;have e:∀f,callF p f 0 fn args s=(none,{s with kind:=4}):=fun f=>by show(none,stopF 4 s)=_;unfold stopF;rw[if_pos hk]
  rw[e,e];exact⟨rfl,hs,by show(4:Int)≠2;omega,fun h=>absurd rfl h⟩
 |d+1,fn,args,s,hk,hs=>by
  have e:∀f,callF p f (d+1) fn args s=(if(stepF f (countsF (p.funcs.getD fn.toNat noGraph).locs) {s with calls:=s.calls+1,deep:=max s.deep (s.calls+1)}).1=false then(none,(stepF f (countsF (p.funcs.getD fn.toNat noGraph).locs) {s with calls:=s.calls+1,deep:=max s.deep (s.calls+1)}).2)
    else blocksF (callF p f d) f (numsF (stepF f (countsF (p.funcs.getD fn.toNat noGraph).locs) {s with calls:=s.calls+1,deep:=max s.deep (s.calls+1)}).2.mem (p.funcs.getD fn.toNat noGraph).locs.length) (p.funcs.getD fn.toNat noGraph).blocks (f-(stepF f (countsF (p.funcs.getD fn.toNat noGraph).locs) {s with calls:=s.calls+1,deep:=max s.deep (s.calls+1)}).2.steps+1).toNat 0
     {(stepF f (countsF (p.funcs.getD fn.toNat noGraph).locs) {s with calls:=s.calls+1,deep:=max s.deep (s.calls+1)}).2 with mem:=makesF (stepF f (countsF (p.funcs.getD fn.toNat noGraph).locs) {s with calls:=s.calls+1,deep:=max s.deep (s.calls+1)}).2.mem (p.funcs.getD fn.toNat noGraph).locs} (startF (p.funcs.getD fn.toNat noGraph).temps.toNat args)):=fun f=>by rw[callF]
  rw[e,e];have hg:0≤countsF (p.funcs.getD fn.toNat noGraph).locs:=hp fn;generalize p.funcs.getD fn.toNat noGraph=g at hg ⊢;have hm2:=stepF_mono (f:=f2) (s:={s with calls:=s.calls+1,deep:=max s.deep (s.calls+1)}) hg (show s.steps≤f2 by omega);rcases stepF_sim (s:={s with calls:=s.calls+1,deep:=max s.deep (s.calls+1)}) hf hg hk hs with⟨e1,e2,hle⟩|⟨e1,hd⟩
  ·rw[e1,e2];simp only[Bool.true_eq_false,if_false];have hle':s.steps+countsF g.locs≤f1:=hle;exact blocksF_sim hf (callF_sim hp hf d) (callF_mono hp f2 d) (callF_mono hp f1 d) _ _ _ _ _ _ hk hle (by show f1-(s.steps+countsF g.locs)<_;omega) (by show f2-(s.steps+countsF g.locs)<_;omega)
  ·right;rw[if_pos e1];refine⟨rfl,?_⟩;split
   ·exact hd
   ·have h3:Dry f1 (stepF f1 (countsF g.locs) {s with calls:=s.calls+1,deep:=max s.deep (s.calls+1)}).2 {(stepF f2 (countsF g.locs) {s with calls:=s.calls+1,deep:=max s.deep (s.calls+1)}).2 with mem:=makesF (stepF f2 (countsF g.locs) {s with calls:=s.calls+1,deep:=max s.deep (s.calls+1)}).2.mem g.locs}:=⟨hd.1,hd.2.1,hd.2.2⟩
    exact h3.on (blocksF_mono (callF_mono hp f2 d) _ _ _ _ _ hm2.2.2)
def startS(p:ProgS)(inp:List Int):St:=⟨inp,0,0,[],0,0,0,makesF [] p.globs⟩
theorem runF_eq(p:ProgS)(inp:List Int)(f:Int):runF p inp f=endF (callF p f 64 p.main [] (startS p inp)):=rfl
theorem endF_none(s:St):endF (none,s)=if s.kind=3 then⟨3,0,[],0,0⟩else⟨s.kind,s.code,s.out,s.steps,s.deep⟩:=rfl
theorem endF_some(v:V)(s:St):endF (some v,s)=if v.obj>0 then⟨3,0,[],0,0⟩else⟨1,v.n,s.out,s.steps,s.deep⟩:=by
 unfold endF;by_cases h:v.obj>0
 ·simp[h]
 ·simp[h]
theorem endF_out(r:Option V×St)(h:(endF r).kind≠3):(endF r).out=r.2.out∧(endF r).steps=r.2.steps:=by
 obtain⟨v,s⟩:=r;cases v with
 |none=>
  rw[endF_none]at h ⊢;by_cases hk:s.kind=3
  ·rw[if_pos hk]at h;exact absurd rfl h
  ·rw[if_neg hk];exact⟨rfl,rfl⟩
 |some v=>
  rw[endF_some]at h ⊢;by_cases hk:v.obj>0
  ·rw[if_pos hk]at h;exact absurd rfl h
  ·rw[if_neg hk];exact⟨rfl,rfl⟩
theorem endF_some_kind(v:V)(s:St):(endF (some v,s)).kind=1∨(endF (some v,s)).kind=3:=by
 rw[endF_some];by_cases h:v.obj>0
 ·rw[if_pos h];right;rfl
 ·rw[if_neg h];left;rfl
theorem runF_two{p:ProgS}(hp:Counts p)(inp:List Int){f1 f2:Int}(hf:f1<f2)(h0:0≤f1):
  (runF p inp f1=runF p inp f2∧(runF p inp f1).kind≠2∧((runF p inp f1).kind≠3→(runF p inp f1).steps≤f1))∨
  ((runF p inp f1).kind=2∧((runF p inp f2).kind≠3→(runF p inp f1).out<+:(runF p inp f2).out∧f1<(runF p inp f2).steps)):=by
 rw[runF_eq,runF_eq];rcases callF_sim hp hf 64 p.main [] (startS p inp) rfl h0 with⟨e,a,b,c⟩|⟨a,b⟩
 ·left;rw[←e];refine⟨rfl,?_,fun h=>by rw[(endF_out _ h).2];exact a⟩;cases hr:callF p f1 64 p.main [] (startS p inp)with
  |mk v s=>
   rw[hr]at b;cases v with
   |none=>rw[endF_none];split<;>simp_all
   |some v=>rcases endF_some_kind v s with h|h<;>rw[h]<;>omega
 ·right;cases hr:callF p f1 64 p.main [] (startS p inp)with
  |mk v s=>
   rw[hr]at a b;simp only at a;subst a;have hk2:s.kind=2:=b.1;have e1:endF (none,s)=⟨s.kind,s.code,s.out,s.steps,s.deep⟩:=by rw[endF_none,if_neg (by omega)]
   rw[e1];refine⟨hk2,fun h=>?_⟩;obtain⟨h1,h2⟩:=endF_out _ h;rw[h1,h2];exact⟨b.2.1,b.2.2⟩
theorem stepF_dryN{s:St}{n:Int}(hk:s.kind=0)(hs:s.steps=0)(hn:0<n):stepF 0 n s=(false,{s with steps:=0,kind:=2}):=by
 unfold stepF;rw[if_pos hk,if_pos (by omega)]
theorem stepF_dry{s:St}(hk:s.kind=0)(hs:s.steps=0):stepF 0 1 s=(false,{s with steps:=0,kind:=2}):=stepF_dryN hk hs (by omega)
theorem stepF_none{s:St}(hk:s.kind=0)(hs:s.steps=0):stepF 0 0 s=(true,s):=by
 unfold stepF;rw[if_pos hk,if_neg (by omega)];cases s;simp
theorem blockF_dry(R:CallR)(lo:List Nat){s:St}(tp:List V)(b:BlockS)(hk:s.kind=0)(hs:s.steps=0):∃tp',blockF R 0 lo s tp b=(.over,{s with steps:=0,kind:=2},tp'):=by
 unfold blockF;cases hb:b.steps with
 |nil=>
  refine⟨tp,?_⟩;rw[stepsF]
  dsimp only
  rw[stepF_dry hk hs];simp
 |cons x r=>
  refine⟨tp,?_⟩;have e:doesF R 0 lo s tp x=(false,{s with steps:=0,kind:=2},tp):=by unfold doesF;rw[stepF_dry hk hs];simp
  rw[stepsF,e]
theorem runF_zero{p:ProgS}(hp:Counts p)(inp:List Int):(runF p inp 0).kind=2:=by
 rw[runF_eq];have hg:=hp p.main;rw[callF]
 dsimp only
 generalize p.funcs.getD p.main.toNat noGraph=g at hg ⊢;have key:∀s1:St,s1.kind=0→s1.steps=0→(endF (if(stepF 0 (countsF g.locs) s1).1=false then(none,(stepF 0 (countsF g.locs) s1).2)
   else blocksF (callF p 0 63) 0 (numsF (stepF 0 (countsF g.locs) s1).2.mem g.locs.length) g.blocks (0-(stepF 0 (countsF g.locs) s1).2.steps+1).toNat 0 {(stepF 0 (countsF g.locs) s1).2 with mem:=makesF (stepF 0 (countsF g.locs) s1).2.mem g.locs} (startF g.temps.toNat []))).kind=2:=by
  intro s1 hk hs;rcases Int.lt_or_eq_of_le hg with hlt|heq
  ·rw[stepF_dryN hk hs hlt,if_pos rfl,endF_none];rfl
  ·rw[←heq,stepF_none hk hs];simp only[Bool.true_eq_false,if_false];rw[show((0:Int)-s1.steps+1).toNat=1 from by rw[hs];rfl,blocksF];obtain⟨tp',hb⟩:=blockF_dry (callF p 0 63) (numsF s1.mem g.locs.length) (s:={s1 with mem:=makesF s1.mem g.locs}) (startF g.temps.toNat []) (g.blocks.getD (0:Int).toNat noBlock) hk hs;rw[hb,endF_none];rfl
 exact key {startS p inp with calls:=(startS p inp).calls+1,deep:=max (startS p inp).deep ((startS p inp).calls+1)} rfl rfl
theorem runF_more{p:ProgS}(hp:Counts p)(inp:List Int){f1 f2:Int}(hf:f1<f2)(h0:0≤f1)(hk:(runF p inp f1).kind≠2):runF p inp f2=runF p inp f1:=by
 rcases runF_two hp inp hf h0 with⟨e,_⟩|⟨e,_⟩
 ·exact e.symm
 ·exact absurd e hk
theorem runF_begins{p:ProgS}(hp:Counts p)(inp:List Int){f1 f2:Int}(hf:f1<f2)(h0:0≤f1)(hk:(runF p inp f2).kind≠3):(runF p inp f1).out<+:(runF p inp f2).out:=by
 rcases runF_two hp inp hf h0 with⟨e,_⟩|⟨_,e⟩
 ·rw[e];exact List.prefix_refl _
 ·exact(e hk).1
theorem runF_exact{p:ProgS}(hp:Counts p)(inp:List Int){f:Int}(h0:0≤f)(hk:(runF p inp f).kind=1):
  1≤(runF p inp f).steps∧(runF p inp f).steps≤f∧runF p inp (runF p inp f).steps=runF p inp f∧(runF p inp ((runF p inp f).steps-1)).kind=2:=by
 have hpos:0<f:=by
  rcases Int.lt_or_eq_of_le h0 with h|h
  ·exact h
  ·rw[←h,runF_zero hp]at hk;omega
 have h1:1≤(runF p inp f).steps:=by
  rcases runF_two hp inp hpos (Int.le_refl 0)with⟨e,h,_⟩|⟨_,h⟩
  ·rw[runF_zero hp]at h;exact absurd rfl h
  ·have:=(h (by omega)).2;omega
 have h2:(runF p inp f).steps≤f:=by
  rcases runF_two hp inp (show f<f+1 by omega) h0 with⟨_,_,h⟩|⟨h,_⟩
  ·exact h (by omega)
  ·omega
 refine⟨h1,h2,?_,?_⟩
 ·rcases Int.lt_or_eq_of_le h2 with hlt|heq
  ·rcases runF_two hp inp hlt (by omega)with⟨e,_⟩|⟨_,h⟩
   ·exact e
   ·have:=(h (by omega)).2;omega
  ·rw[heq]
 ·rcases runF_two hp inp (show(runF p inp f).steps-1<f by omega) (by omega)with⟨e,_,h⟩|⟨h,_⟩
  ·have h3:=h (by rw[e];omega);rw[e]at h3;omega
  ·exact h
end Go.Proofs.YtlenilbkifofjaaGreatDoor
namespace Go.Proofs.YtlenilbkifofjaaGreatDoor
open Go.RowKit
theorem gsize_any(n:Int)(w:World):
  Calls Tryz.prog 64 #[.int .i64 n] w fun e w'=>e= .returned (.bool (sizeB n))∧w=w':=by
 have h:n=1∨n=2∨n=4∨n=8∨(n≠1∧n≠2∧n≠4∧n≠8):=by omega
 rcases h with rfl|rfl|rfl|rfl|⟨h1,h2,h3,h4⟩
 all_goals
  go_enter Tryz.func64,Tryz.ntmps64;go_wp2;go_ret;exact⟨ret_b (by simp[sizeB, *]),rfl⟩
end Go.Proofs.YtlenilbkifofjaaGreatDoor
namespace Go.Proofs.YtlenilbkifofjaaGreatDoor
open Go.RowKit
section
variable {P:Program} {ops:Array Oper} {md:Region.Mode} {C:World→Prop}
def wpAnyLQ(P:Program)(md:Region.Mode)(ops:Array Oper)(C:World→Prop)(n:Nat)(L:Array Bool→Act→Prop):Nat→Array Bool→Act→Prop
 |0,listed,a=>L listed a
 |f+1,listed,a=>
  Region.ready md ops listed≠[]∧∀i∈Region.ready md ops listed,i<n∧qOp P ops C i (wpAnyLQ P md ops C n L f (listed.setIfInBounds i true)) a
theorem wpAny_of_headQ{n g:Nat}{L:Array Bool→Act→Prop}{Q':Exit→Act→World→Prop}(hL:∀listed a w,C w→L listed a→wpAny P md ops Q' g listed a w):
  ∀(f:Nat)(listed:Array Bool)(a:Act)(w:World),C w→wpAnyLQ P md ops C n L f listed a→wpAny P md ops Q' (f+g) listed a w
 |0,listed,a,w,hw,h=>by rw[Nat.zero_add];exact hL _ _ _ hw h
 |f+1,listed,a,w,hw,h=>by
  rw[show f+1+g=(f+g)+1 by omega];exact⟨fun h0=>absurd h0 h.1,fun i hi=>wpOp_of_qOp hw (fun a' w' hw' h'=>wpAny_of_headQ hL f _ a' w' hw' h') (h.2 i hi).2⟩
theorem wpAnyLQ_first{n i:Nat}{oi:Oper}{v:Value}{L:Array Bool→Act→Prop}(hi:ops[i]? =some oi)(hsel:∀(j:Nat)(o:Oper)cs b,ops[j]? =some o→o.op≠.select cs b)
  (hs:Region.sinkB md ops n=true)(hc:Region.chainB md ops n=true)(hn:n<ops.size)(hin:i<n)
  (hdone:∀listed a,L listed a→∀j∈Region.ready md ops listed,n≤j):
  ∀(f:Nat)(listed:Array Bool)(a:Act),HeadInv md ops n listed→
   (∀j oj,ops[j]? =some oj→j≠i→listed.getD j true=false→(∀e∈oj.after,Region.binds md e=true→e.on≠i)→oi.apart ops oj=true)→
   i∈Region.ready md ops listed→YieldsIn P ops C oi v a→
   wpAnyLQ P md ops C n L f (listed.setIfInBounds i true) (a.put oi.dst v)→wpAnyLQ P md ops C n L (f+1) listed a:=by
 intro f
 induction f with
 |zero=>
  intro listed a inv _ hr hy H;have hun:=(mem_ready.1 hr).1;refine⟨fun h=>(by rw[h]at hr;cases hr),fun j hj=>?_⟩;have hjn:j<n:=by
   rcases Nat.lt_or_ge j n with h|h
   ·exact h
   ·exact absurd hj (tail_waits hs hc hn inv _ i rfl hin hun j h)
  refine⟨hjn,?_⟩;by_cases hji:j=i
  ·subst hji;exact hy.qOp hi H
  ·have:=hdone _ _ H j (ready_mono hj hji);omega
 |succ f ih=>
  intro listed a inv hfree hr hy H;have hun:=(mem_ready.1 hr).1;refine⟨fun h=>(by rw[h]at hr;cases hr),fun j hj=>?_⟩;have hjn:j<n:=by
   rcases Nat.lt_or_ge j n with h|h
   ·exact h
   ·exact absurd hj (tail_waits hs hc hn inv _ i rfl hin hun j h)
  refine⟨hjn,?_⟩;by_cases hji:j=i
  ·subst hji;exact hy.qOp hi H
  ·have h1:=(H.2 j (ready_mono hj hji)).2;obtain⟨hjun,oj,hoj,hall⟩:=mem_ready.1 hj;have hnot:∀e∈oj.after,Region.binds md e=true→e.on≠i:=fun e he hb heq=>by
    have h1:=hall e he hb;rw[heq,getD_both hun]at h1;cases h1
   have h2:=qOp_put hoj (hfree j oj hoj hji hjun hnot) (fun cs b=>hsel i oi cs b hi) (fun cs b=>hsel j oj cs b hoj) hy h1;have hfree':∀k ok,ops[k]? =some ok→k≠i→(listed.setIfInBounds j true).getD k true=false→
     (∀e∈ok.after,Region.binds md e=true→e.on≠i)→oi.apart ops ok=true:=fun k ok hk hki hun hno=>by
    refine hfree k ok hk hki ?_ hno;by_cases hjk:j=k
    ·subst hjk;exact hjun
    ·rw[getD_set_ne true hjk]at hun;exact hun
   refine qOp_mono (fun a' h3=>ih (listed.setIfInBounds j true) a' (inv.set hj hjn) hfree' (ready_mono hr (Ne.symm hji)) h3.1 ?_) h2;rw[Array.setIfInBounds_comm _ _ hji];exact h3.2
theorem wpAnyLQ_lex{n g:Nat}{Lq:Act→Prop}(hsel:Region.noSelect ops=true)(hs:Region.sinkB md ops n=true)(hc:Region.chainB md ops n=true)(hn:n<ops.size):
  ∀(l:List Oper)(k:Nat)(listed:Array Bool)(a:Act),(∀j,j<l.length→l[j]? =ops[k+j]?)→k+l.length=n→HeadInv md ops n listed→
  Region.lexHead md ops g l.length k listed=true→wpQuiet P ops C Lq l a→
  wpAnyLQ P md ops C n (fun listed' a'=>Region.seqB md ops g n listed'=true∧Lq a') l.length listed a
 |[],k,listed,a,_,hk,_,hB,h=>by
  have:k=n:=by simpa using hk
  subst this;exact⟨by simpa [Region.lexHead]using hB,h⟩
 |o::l,k,listed,a,hl,hk,inv,hB,h=>by
  have h0:ops[k]? =some o:=by simpa using(hl 0 (by simp)).symm
  simp only[List.length_cons,Region.lexHead,Bool.and_eq_true]at hB;obtain⟨⟨hr,hf⟩,hB'⟩:=hB;have hkn:k<n:=by simp only[List.length_cons]at hk;omega
  have hr':k∈Region.ready md ops listed:=by simpa using hr
  have hst:qOp P ops C k (wpQuiet P ops C Lq l) a:=by unfold qOp;simp only[h0];exact h
  obtain⟨v,hy,hK⟩:=yieldsIn_of_qOp h0 hst;exact wpAnyLQ_first h0 (Region.noSelect_spec hsel) hs hc hn hkn (fun listed' a' hL=>seqB_ready hL.1) l.length listed a inv (Region.free_spec h0 hf) hr' hy
   (wpAnyLQ_lex hsel hs hc hn l (k+1) _ _ (fun j hj=>by have:=hl (j+1) (by simp;omega);simpa [Nat.add_assoc,Nat.add_comm 1 j]using this) (by simp only[List.length_cons]at hk;omega) (inv.set hr' hkn) hB' hK)
end
theorem wp_region_quiet_tail{P:Program}{C:World→Prop}{id:Nat}{Q:Exit→Act→World→Prop}{a:Act}{w:World}{l:List Oper}(n:Nat)(hm:P.follows .mixedOrders=true)(hB:Region.lexTailB .any l.toArray n=true)(hC:C {w with drawn:=w.drawn+1})
  (h:wpQuiet P l.toArray C (fun a'=>∀w',C w'→wpList P l.toArray Q (l.drop n) a' w') (l.take n) a):(Code.region id l.toArray true).wp P Q a w:=by
 simp only[Region.lexTailB,Bool.and_eq_true,decide_eq_true_eq]at hB;obtain⟨⟨⟨⟨hsel,hn⟩,hs⟩,hc⟩,hlex⟩:=hB;have hn':n<l.length:=by simpa using hn
 have htl:(l.take n).length=n:=by simp;omega
 have hdl:(l.drop n).length=l.toArray.size-n:=by simp
 have inv0:HeadInv .any l.toArray n (Array.replicate l.toArray.size false):=
  ⟨by simp,fun j oj _ hl=>(by rw[getD_replicate_false]at hl;cases hl),fun t _ ht=>getD_in (by simpa using ht) (getD_replicate_false _ _)⟩
 have H:=wpAnyLQ_lex (md:= .any) (g:=l.toArray.size-n) hsel hs hc hn (l.take n) 0 _ a (fun j hj=>by
  have hj':j<n:=by rw[htl]at hj;exact hj
  simp[hj']) (by simpa using htl) inv0 (by rw[htl];exact hlex) h
 refine wp_region_any hm ?_;have:=wpAny_of_headQ (Q':=Q) (g:=l.toArray.size-n) (fun listed a' w' hw' hL=>by
   rw[←hdl];exact wpAny_of_seq (l.drop n) n listed a' w' (fun j=>by simp) (by rw[hdl];exact hL.1) (hL.2 w' hw')) _ _ _ _ hC H
 rw[htl]at this;have e:n+(l.toArray.size-n)=l.toArray.size:=by omega
 rw[e]at this;exact this
theorem grow_tail{P:Program}{id:Nat}{Q:Exit→Act→World→Prop}{a:Act}{W:World}{l:List Oper}(n:Nat)(hm:P.follows .mixedOrders=true)(hB:Region.lexTailB .any l.toArray n=true)
  (h:(∀(u:Grows W)(b o:Nat),b<W.heap.size→u.1.cell? ⟨b,o,none⟩=W.cell? ⟨b,o,none⟩)→wpQuiet P l.toArray (fun w'=>∃u:Grows W,w'=u.1) (fun a'=>∀u:Grows W,wpList P l.toArray Q (l.drop n) a' u.1) (l.take n) a):(Code.region id l.toArray true).wp P Q a W:=by
 have h':=h (fun u b o hb=>u.2.cell (p:=⟨b,o,none⟩) hb);refine wp_region_quiet_tail (C:=fun w'=>∃u:Grows W,w'=u.1) n hm hB ⟨⟨W.drew,(Below.refl _ _).drew⟩,rfl⟩ ?_;have e:(fun a'=>∀w',(∃u:Grows W,w'=u.1)→wpList P l.toArray Q (l.drop n) a' w')=(fun a'=>∀u:Grows W,wpList P l.toArray Q (l.drop n) a' u.1):=by
  funext a'
  exact propext ⟨fun hh u=>hh _ ⟨u,rfl⟩,fun hh w'⟨u,hu⟩=>by rw[hu];exact hh u⟩
 rw[e];exact h'
end Go.Proofs.YtlenilbkifofjaaGreatDoor
namespace Go.Proofs.YtlenilbkifofjaaGreatDoor
open Go.RowKit
theorem gobjs_any(l:List ObS)(A:Option Addr)(n cap:Nat)(most:Int)(B:Nat)(w:World)(hB:B≤w.heap.size)(hl:SliceAt w B 3 (ObE w B) l (.slice A n cap)):
  Calls Tryz.prog 45 #[.slice A n cap,.int .i64 most] w fun e w'=>e= .returned (.bool (objsB l most))∧Below w.heap.size w w':=by
 obtain⟨hln,hn⟩:=hl.len;have HL:=Lib.hid hl;have HLN:=Lib.hid hln;clear hl hln;go_enter Tryz.func45,Tryz.ntmps45;refine wp_letter (fun Q hQ=>?_);have HQ:=Lib.hid hQ;clear hQ;go_wp2_with fail;go_loopw [9] (fun i wr=>∃k:Nat,k≤n∧i= .int .i64 k∧obsB (l.drop k)=obsB l∧Below w.heap.size w wr) (fun i _=>n-(intOf i).toNat)
 case atStart=>exact⟨0,by omega,rfl,rfl,Below.refl _ _⟩
 case round=>
  obtain⟨k,hk,rfl,hcs,hbw⟩:=hrel;have HCS:=Lib.hid hcs;have HBW:=Lib.hid hbw;clear hcs;have hzw:=hbw.size;by_cases hlt:k<n
  ·obtain⟨b,off,o,rfl,hb,hk1,c0,c1,⟨v,c2,hv⟩,_,_⟩:=(HL.out.below (hbw.mono hB) (Nat.le_refl _) (fun _ _ h=>h.below (hbw.mono hB) (Nat.le_refl _))).get hlt;simp only[Nat.add_zero]at c0 c1 c2;obtain⟨IA,icap,hiv⟩:∃IA icap,v= .slice IA o.init.length icap:=(by obtain⟨A',c',h,_⟩:=hv;exact⟨_,_,h⟩)
   subst hiv;have hil:=hv.len.2;have HD:=Lib.hid (show obsB (l.drop k)=(obB o && obsB (l.drop (k+1)))from by rw[drop_of hk1];rfl);have hklt:(k:Int)<(n:Int):=by omega
   have hbl:b<wr.heap.size:=by omega
   have HS:=Lib.hid (fun W=>gsize_any o.size W);clear hk1 hv hbw;have HBAD:=Lib.hid (show obB o=false→obsB l=false from fun h=>by rw[←HCS.out,HD.out,h];rfl);have HGOOD:=Lib.hid (show obB o=true→obsB (l.drop (k+1))=obsB l from fun h=>by rw[←HCS.out,HD.out,h];rfl);cases hq1:sizeB o.size with
   |false=>
    rw[hq1]at HS;have HE:=Lib.hid (show objsB l most=false by unfold objsB;rw[HBAD.out (by unfold obB;rw[hq1];rfl)];rfl);clear hq1;go_wp2_with fail;refine(HS.out _).mono ?_;rintro e w' ⟨rfl,rfl⟩;go_wp2_with fail;refine HQ.out _ _ _ ?_;exact bodyPost_ret (v:= .bool false) (by simp[results,Tryz.results45,go_sem]) rfl ⟨by rw[HE.out],HBW.out.trans ((below1 wr (.cells #[.int .i64 o.size,.int .i64 o.count,.slice IA o.init.length icap] 68)).mono hzw)⟩
   |true=>
    rw[hq1]at HS;by_cases h1:o.count<1
    ·have d1:decide (o.count<1)=true:=by simpa using h1
     have HE:=Lib.hid (show objsB l most=false by unfold objsB;rw[HBAD.out (by unfold obB betwB;rw[hq1];simp;omega)];rfl);clear hq1 h1;go_wp2_with fail;refine(HS.out _).mono ?_;rintro e w' ⟨rfl,rfl⟩;go_wp2_with fail;refine HQ.out _ _ _ ?_;exact bodyPost_ret (v:= .bool false) (by simp[results,Tryz.results45,go_sem]) rfl ⟨by rw[HE.out],HBW.out.trans ((below1 wr (.cells #[.int .i64 o.size,.int .i64 o.count,.slice IA o.init.length icap] 68)).mono hzw)⟩
    ·have d1:decide (o.count<1)=false:=by simpa using h1
     by_cases h2:o.count>64
     ·have d2:decide (64<o.count)=true:=by simpa using h2
      have HE:=Lib.hid (show objsB l most=false by unfold objsB;rw[HBAD.out (by unfold obB betwB;rw[hq1];simp;omega)];rfl);clear hq1 h1 h2;go_wp2_with fail;refine(HS.out _).mono ?_;rintro e w' ⟨rfl,rfl⟩;go_wp2_with fail;refine HQ.out _ _ _ ?_;exact bodyPost_ret (v:= .bool false) (by simp[results,Tryz.results45,go_sem]) rfl ⟨by rw[HE.out],HBW.out.trans ((below1 wr (.cells #[.int .i64 o.size,.int .i64 o.count,.slice IA o.init.length icap] 68)).mono hzw)⟩
     ·have d2:decide (64<o.count)=false:=by simpa using h2
      by_cases h3:(o.init.length:Int)>o.count
      ·have d3:decide (o.count<(o.init.length:Int))=true:=by simpa using h3
       have HE:=Lib.hid (show objsB l most=false by unfold objsB;rw[HBAD.out (by unfold obB betwB;rw[hq1];simp;omega)];rfl);clear hq1 h1 h2 h3;go_wp2_with fail;refine(HS.out _).mono ?_;rintro e w' ⟨rfl,rfl⟩;go_wp2_with fail;refine HQ.out _ _ _ ?_;exact bodyPost_ret (v:= .bool false) (by simp[results,Tryz.results45,go_sem]) rfl ⟨by rw[HE.out],HBW.out.trans ((below1 wr (.cells #[.int .i64 o.size,.int .i64 o.count,.slice IA o.init.length icap] 68)).mono hzw)⟩
      ·have d3:decide (o.count<(o.init.length:Int))=false:=by simpa using h3
       have HE:=Lib.hid (HGOOD.out (by unfold obB betwB;rw[hq1];simp;omega));clear hq1 h1 h2 h3;go_wp2_with fail;refine(HS.out _).mono ?_;rintro e w' ⟨rfl,rfl⟩;go_wp2_with fail;go_roundw
       case rel=>exact⟨k+1,by omega,by go_num,HE.out,HBW.out.trans ((below1 wr (.cells #[.int .i64 o.size,.int .i64 o.count,.slice IA o.init.length icap] 68)).mono hzw)⟩
       case measure=>simp[intOf];omega
  ·obtain rfl:k=n:=by omega
   have he:obsB l=true:=by rw[←HCS.out,drop_nil_of (by rw[HLN.out];exact Nat.le_refl _)];rfl
   have hl2:objsB l most=decide ((k:Int)≤most):=by unfold objsB;rw[he,HLN.out];rfl
   have HE:=Lib.hid hl2;clear he hl2;go_wp2_with fail;refine HQ.out _ _ _ ?_;exact bodyPost_ret (v:= .bool (decide ((k:Int)≤most))) (by simp[results,Tryz.results45,go_sem]) rfl ⟨by rw[HE.out],HBW.out⟩
def unlisted(n:Nat)(listed:Array Bool):Nat:=((List.range n).filter fun j=>!listed.getD j true).length
theorem filter_le_of{α:Type}{p q:α→Bool}:∀(l:List α),(∀x,q x=true→p x=true)→(l.filter q).length≤(l.filter p).length
 |[],_=>by simp
 |x::l,h=>by
  have ih:=filter_le_of l h;cases hq:q x
  ·rw[List.filter_cons_of_neg (by simp[hq])];cases hp:p x
   ·rw[List.filter_cons_of_neg (by simp[hp])];exact ih
   ·rw[List.filter_cons_of_pos hp];simp;omega
  ·rw[List.filter_cons_of_pos hq,List.filter_cons_of_pos (h x hq)];simpa using ih
theorem filter_lt_of{α:Type}{p q:α→Bool}:∀(l:List α)(y:α),(∀x,q x=true→p x=true)→y∈l→p y=true→q y=false→(l.filter q).length<(l.filter p).length
 |[],y,_,hy,_,_=>by simp at hy
 |x::l,y,h,hy,hp,hq=>by
  by_cases hxy:x=y
  ·subst hxy;rw[List.filter_cons_of_pos hp,List.filter_cons_of_neg (by simp[hq])];have:=filter_le_of l h;simp;omega
  ·have hy':y∈l:=by rcases List.mem_cons.1 hy with h|h;exact absurd h.symm hxy;exact h
   have ih:=filter_lt_of l y h hy' hp hq;cases hq':q x
   ·rw[List.filter_cons_of_neg (by simp[hq'])];cases hp':p x
    ·rw[List.filter_cons_of_neg (by simp[hp'])];exact ih
    ·rw[List.filter_cons_of_pos hp'];simp;omega
   ·rw[List.filter_cons_of_pos hq',List.filter_cons_of_pos (h x hq')];simpa using ih
theorem unlisted_set{n i:Nat}{listed:Array Bool}(hi:i<n)(h:listed.getD i true=false):unlisted n (listed.setIfInBounds i true)<unlisted n listed:=by
 refine filter_lt_of _ i (fun x hx=>?_) (List.mem_range.2 hi) (by simp[h]) ?_
 ·by_cases hxi:i=x
  ·subst hxi;simp[h]
  ·rw[getD_set_ne true hxi]at hx;exact hx
 ·have hlt:i<listed.size:=by
   rcases Nat.lt_or_ge i listed.size with h'|h'
   ·exact h'
   ·simp[Array.getD,Nat.not_lt.2 h']at h
  simp[Array.getD,hlt]
theorem wpAny_inv{P:Program}{md:Region.Mode}{ops:Array Oper}{Q:Exit→Act→World→Prop}(Inv:Array Bool→Act→World→Prop)
  (hstep:∀listed a w i,i∈Region.ready md ops listed→Inv listed a w→wpOp P ops Q i (fun a' w'=>Inv (listed.setIfInBounds i true) a' w') a w)
  (hend:∀listed a w,Region.ready md ops listed=[]→Inv listed a w→Q .normal a w):
  ∀(fuel:Nat)(listed:Array Bool)(a:Act)(w:World),unlisted ops.size listed≤fuel→Inv listed a w→wpAny P md ops Q fuel listed a w
 |0,listed,a,w,hf,h=>by
  have hr:Region.ready md ops listed=[]:=by
   cases hr:Region.ready md ops listed with
   |nil=>rfl
   |cons i l=>
    have hm:i∈Region.ready md ops listed:=by rw[hr];simp
    obtain⟨h1,o,ho,_⟩:=mem_ready.1 hm;have hlt:i<ops.size:=by
     rcases Nat.lt_or_ge i ops.size with h'|h'
     ·exact h'
     ·rw[Array.getElem?_eq_none h']at ho;cases ho
    have:=unlisted_set hlt h1;omega
  exact⟨hr,hend listed a w hr h⟩
 |fuel+1,listed,a,w,hf,h=>by
  refine⟨fun hr=>hend listed a w hr h,fun i hi=>?_⟩;obtain⟨h1,o,ho,_⟩:=mem_ready.1 hi;have hlt:i<ops.size:=by
   rcases Nat.lt_or_ge i ops.size with h'|h'
   ·exact h'
   ·rw[Array.getElem?_eq_none h']at ho;cases ho
  have hu:=unlisted_set hlt h1;exact wpOp_mono (fun a' w' h'=>wpAny_inv Inv hstep hend fuel _ a' w' (by omega) h') (hstep listed a w i hi h)
theorem wp_region_inv{P:Program}{id:Nat}{Q:Exit→Act→World→Prop}{a:Act}{w:World}{l:List Oper}(hm:P.follows .mixedOrders=true)(Inv:Array Bool→Act→World→Prop)
  (h0:Inv (Array.replicate l.toArray.size false) a w.drew)
  (hstep:∀listed a w i,i∈Region.ready .any l.toArray listed→Inv listed a w→wpOp P l.toArray Q i (fun a' w'=>Inv (listed.setIfInBounds i true) a' w') a w)
  (hend:∀listed a w,Region.ready .any l.toArray listed=[]→Inv listed a w→Q .normal a w):(Code.region id l.toArray true).wp P Q a w:=
 wp_region_any hm (wpAny_inv Inv hstep hend _ _ _ _ (by unfold unlisted;exact Nat.le_trans (List.length_filter_le _ _) (by simp)) h0)
theorem flag_of{md:Region.Mode}{ops:Array Oper}{L:Array Bool}{j:Nat}{o:Oper}(hj:j<L.size)(hr:Region.ready md ops L=[])(ho:ops[j]? =some o)(hd:∀e∈o.after,L.getD e.on false=true):L.getD j false=true:=by
 cases h:L.getD j true with
 |false=>
  have:j∈Region.ready md ops L:=mem_ready.2 ⟨h,o,ho,fun e he _=>hd e he⟩;rw[hr]at this;cases this
 |true=>simp[Array.getD,hj]at h ⊢;exact h
theorem wpOp_plain{P:Program}{ops:Array Oper}{Q:Exit→Act→World→Prop}{i:Nat}{o:Oper}{a:Act}{w:World}{K:Act→World→Prop}(ho:ops[i]? =some o)(hg:o.guard=none)
  (h:∀K':Act→World→Prop,(∀a w,K a w→K' a w)→o.wp P a w K' Q):wpOp P ops Q i K a w:=by
 unfold wpOp;rw[ho];simp only;rw[if_pos (by simp[Region.wanted,hg])];exact Or.inl (h K (fun _ _ h=>h))
def upd(Y:Nat→Value)(i:Nat)(v:Value):Nat→Value:=fun j=>if j=i then v else Y j
theorem upd_self(Y:Nat→Value)(i:Nat)(v:Value):upd Y i v i=v:=by simp[upd]
theorem upd_ne(Y:Nat→Value){i j:Nat}(v:Value)(h:j≠i):upd Y i v j=Y j:=by simp[upd,h]
theorem ls_set'{L:Array Bool}{i j:Nat}(h:(L.setIfInBounds i true).getD j false=true):j=i∨L.getD j false=true:=by
 by_cases hij:i=j
 ·exact Or.inl hij.symm
 ·rw[getD_set_ne false hij]at h;exact Or.inr h
theorem region_cl{P:Program}{id:Nat}{Q:Exit→Act→World→Prop}{a:Act}{w:World}{l:List Oper}(hm:P.follows .mixedOrders=true)(Cl:World→Nat→Value→Prop)(mk:(Nat→Value)→Act)(Y0:Nat→Value)(ha:a=mk Y0)
  (hback:l.zipIdx.all (fun x=>x.1.after.all fun e=>decide (e.on<x.2))=true)
  (hmono:∀W W' i v,Below W.heap.size W W'→Cl W i v→Cl W' i v)
  (hstep:∀i o Y W,l[i]? =some o→Below w.heap.size w W→(∀e∈o.after,Region.binds .any e=true→Cl W e.on (Y e.on))→∀K:Act→World→Prop,(∀v W',Below W.heap.size W W'→Cl W' i v→K (mk (upd Y i v)) W')→wpOp P l.toArray Q i K (mk Y) W)
  (hend:∀Y W,Below w.heap.size w W→(∀i,i<l.length→Cl W i (Y i))→Q .normal (mk Y) W):(Code.region id l.toArray true).wp P Q a w:=by
 refine wp_region_inv hm (fun L act W=>L.size=l.length∧∃Y,act=mk Y∧Below w.heap.size w W∧∀i,L.getD i false=true→Cl W i (Y i)) ?_ ?_ ?_
 ·refine⟨by simp,Y0,ha,(Below.refl _ _).drew,fun j h=>?_⟩;rcases Nat.lt_or_ge j l.length with hj|hj
  ·simp[Array.getD,hj]at h
  ·simp[Array.getD,Nat.not_lt.2 hj]at h
 ·rintro L act W i hi ⟨hsz,Y,rfl,hb,hc⟩;obtain⟨hn,o,ho,hall⟩:=mem_ready.1 hi;refine hstep i o Y W (by simpa using ho) hb (fun e he hbd=>hc _ (hall e he hbd)) _ (fun v W' hb' hv=>⟨by simp[hsz],upd Y i v,rfl,hb.trans (hb'.mono hb.size),fun j hj=>?_⟩);by_cases hji:j=i
  ·subst hji;rw[upd_self];exact hv
  ·rw[upd_ne Y v hji];exact hmono _ _ _ _ hb' (hc j ((ls_set' hj).resolve_left hji))
 ·rintro L act W hr ⟨hsz,Y,rfl,hb,hc⟩;refine hend Y W hb ?_;have key:∀n i,i<n→i<l.length→L.getD i false=true:=by
   intro n
   induction n with
   |zero=>intro i h;omega
   |succ n ih=>
    intro i hin hil;refine flag_of (j:=i) (by omega) hr (by simp[hil];rfl) (fun e he=>?_);have hlt:e.on<i:=by
     have hx:=List.all_eq_true.1 hback (l[i],i) (List.mem_iff_getElem?.2 ⟨i,by simp[hil]⟩);exact of_decide_eq_true ((Array.all_eq_true_iff_forall_mem.1 hx) e he)
    exact ih e.on (by omega) (by omega)
  exact fun i hi=>hc i (key (i+1) i (by omega) hi)
end Go.Proofs.YtlenilbkifofjaaGreatDoor
namespace Go.Proofs.YtlenilbkifofjaaGreatDoor
open Go.RowKit
structure XBox (w:World) (ia is ix sz:Nat) (ty:TypeId) (boxed:Value→Array Value) (Cl:World→Nat→Value→Prop) (Off:Nat→Value→Nat→Prop) (L:Array Bool) (Y:Nat→Value) (W:World):Prop where
 below:Below w.heap.size w W
 cl:∀i,i≠ia→i≠is→L.getD i false=true→Cl W i (Y i)∧(L.getD ia false=true→∀p,Y ia= .pointer (some ⟨p,0,none⟩)→Off i (Y i) p)
 box:L.getD ia false=true→∃p cs,Y ia= .pointer (some ⟨p,0,none⟩)∧w.heap.size≤p∧Row W p cs ty∧cs.size=sz∧(L.getD is false=true→L.getD ix false=true∧cs=boxed (Y ix))
 dep:L.getD is false=true→L.getD ia false=true
theorem ls_un{L:Array Bool}{i:Nat}(hn:L.getD i true=false)(h:L.getD i false=true):False:=by
 rcases Nat.lt_or_ge i L.size with hj|hj
 ·simp[Array.getD,hj]at h hn;rw[hn]at h;cases h
 ·simp[Array.getD,Nat.not_lt.2 hj]at h
theorem ls_keep{L:Array Bool}{i j:Nat}(h:L.getD j false=true):(L.setIfInBounds i true).getD j false=true:=by
 by_cases hij:i=j
 ·subst hij;rcases Nat.lt_or_ge i L.size with hj|hj
  ·simp[Array.getD,hj]
  ·simp[Array.getD,Nat.not_lt.2 hj]at h
 ·rw[getD_set_ne false hij];exact h
theorem flag_of_any{md:Region.Mode}{ops:Array Oper}{L:Array Bool}{j:Nat}{o:Oper}(hj:j<L.size)(hr:Region.ready md ops L=[])(ho:ops[j]? =some o)(hd:∀e∈o.after,Region.binds md e=true→L.getD e.on false=true):L.getD j false=true:=by
 cases h:L.getD j true with
 |false=>
  have:j∈Region.ready md ops L:=mem_ready.2 ⟨h,o,ho,hd⟩;rw[hr]at this;cases this
 |true=>simp[Array.getD,hj]at h ⊢;exact h
theorem region_box{P:Program}{id:Nat}{Q:Exit→Act→World→Prop}{a:Act}{w:World}{l:List Oper}(hm:P.follows .mixedOrders=true)(ia is ix sz:Nat)(ty:TypeId)(boxed:Value→Array Value)
  (Cl:World→Nat→Value→Prop)(Off:Nat→Value→Nat→Prop)(mk:(Nat→Value)→Act)(Y0:Nat→Value)(ha:a=mk Y0)
  (hback:l.zipIdx.all (fun x=>x.1.after.all fun e=>!Region.binds .any e||decide (e.on<x.2))=true)
  (hia:ia<l.length)(his:is<l.length)(hne:ia≠is)(hxa:ix≠ia)(hxs:ix≠is)
  (hst:∀o,l[is]? =some o→(∃e∈o.after,e.on=ia∧Region.binds .any e=true)∧(∃e∈o.after,e.on=ix∧Region.binds .any e=true))
  (hmono:∀W W' i v,Below W.heap.size W W'→Cl W i v→Cl W' i v)
  (hstore:∀W W' i v p,w.heap.size≤p→Wr (fun k=>k=p) W W'→Off i v p→Cl W i v→Cl W' i v)
  (hfresh:∀W i v,Below w.heap.size w W→Cl W i v→Off i v W.heap.size)
  (hstep:∀i o Y W,i≠ia→i≠is→l[i]? =some o→Below w.heap.size w W→(∀e∈o.after,Region.binds .any e=true→e.on≠ia→e.on≠is→Cl W e.on (Y e.on))→
   ∀K:Act→World→Prop,(∀v W',Below W.heap.size W W'→Cl W' i v→(∀p,w.heap.size≤p→p<W.heap.size→(∀e∈o.after,Region.binds .any e=true→e.on≠ia→e.on≠is→Off e.on (Y e.on) p)→Off i v p)→K (mk (upd Y i v)) W')→wpOp P l.toArray Q i K (mk Y) W)
  (halloc:∀o Y W,l[ia]? =some o→Below w.heap.size w W→∀K:Act→World→Prop,(∀cs:Array Value,cs.size=sz→K (mk (upd Y ia (.pointer (some ⟨W.heap.size,0,none⟩)))) (W.alloc (.cells cs ty)))→wpOp P l.toArray Q ia K (mk Y) W)
  (hwrite:∀o Y W p cs,l[is]? =some o→Y ia= .pointer (some ⟨p,0,none⟩)→Row W p cs ty→cs.size=sz→Cl W ix (Y ix)→∀K:Act→World→Prop,(∀W' v,Wr (fun k=>k=p) W W'→Row W' p (boxed (Y ix)) ty→(boxed (Y ix)).size=sz→K (mk (upd Y is v)) W')→wpOp P l.toArray Q is K (mk Y) W)
  (hend:∀Y W p,Below w.heap.size w W→w.heap.size≤p→Y ia= .pointer (some ⟨p,0,none⟩)→Row W p (boxed (Y ix)) ty→(∀i,i<l.length→i≠ia→i≠is→Cl W i (Y i)∧Off i (Y i) p)→Q .normal (mk Y) W):(Code.region id l.toArray true).wp P Q a w:=by
 refine wp_region_inv hm (fun L act W=>L.size=l.length∧∃Y,act=mk Y∧XBox w ia is ix sz ty boxed Cl Off L Y W) ?_ ?_ ?_
 ·have hf:∀j,(Array.replicate l.toArray.size false).getD j false=true→False:=fun j h=>by
   rcases Nat.lt_or_ge j l.length with hj|hj
   ·simp[Array.getD,hj]at h
   ·simp[Array.getD,Nat.not_lt.2 hj]at h
  exact⟨by simp,Y0,ha,(Below.refl _ _).drew,fun i _ _ h=>(hf i h).elim,fun h=>(hf _ h).elim,fun h=>(hf _ h).elim⟩
 ·rintro L act W i hi ⟨hsz,Y,rfl,hJ⟩;obtain⟨hn,o,ho,hall⟩:=mem_ready.1 hi;have ho':l[i]? =some o:=by simpa using ho
  have hb:=hJ.below;by_cases h1:i=ia
  ·subst h1;refine halloc o Y W ho' hb _ (fun cs hcs=>⟨by simp[hsz],_,rfl,hb.alloc hb.size _,fun j hj1 hj2 g=>?_,fun g=>?_,fun g=>?_⟩)
   ·have g':=(ls_set' g).resolve_left hj1;obtain⟨c1,c2⟩:=hJ.cl j hj1 hj2 g';rw[upd_ne Y _ hj1];refine⟨hmono _ _ _ _ ((Below.refl _ _).alloc (Nat.le_refl _) _) c1,fun _ p hp=>?_⟩;rw[upd_self]at hp;injection hp with hp;injection hp with hp;injection hp with hp;rw[←hp];exact hfresh W j _ hb c1
   ·refine⟨W.heap.size,cs,upd_self _ _ _,hb.size,Row.new _ _ _,hcs,fun g2=>?_⟩;exact(ls_un hn (hJ.dep ((ls_set' g2).resolve_left (Ne.symm hne)))).elim
   ·exact(ls_un hn (hJ.dep ((ls_set' g).resolve_left (Ne.symm hne)))).elim
  ·by_cases h2:i=is
   ·subst h2;obtain⟨⟨e1,he1,hon1,hb1⟩,⟨e2,he2,hon2,hb2⟩⟩:=hst o ho';have f1:=hall e1 he1 hb1;have f2:=hall e2 he2 hb2;rw[hon1]at f1;rw[hon2]at f2;obtain⟨p,cs,hp,hpw,hrow,hcs,_⟩:=hJ.box f1;refine hwrite o Y W p cs ho' hp hrow hcs (hJ.cl ix hxa hxs f2).1 _ (fun W' v hw' hr' hbs=>⟨by simp[hsz],_,rfl,hb.trans (hw'.below hb.size (fun k hk=>by omega)),fun j hj1 hj2 g=>?_,fun g=>?_,fun g=>ls_keep f1⟩)
    ·have g':=(ls_set' g).resolve_left hj2;obtain⟨c1,c2⟩:=hJ.cl j hj1 hj2 g';rw[upd_ne Y _ hj2,upd_ne Y _ hne];exact⟨hstore _ _ _ _ p hpw hw' (c2 f1 p hp) c1,fun _=>c2 f1⟩
    ·rw[upd_ne Y _ hne,upd_ne Y _ hxs];exact⟨p,_,hp,hpw,hr',hbs,fun _=>⟨ls_keep f2,rfl⟩⟩
   ·refine hstep i o Y W h1 h2 ho' hb (fun e he hbd n1 n2=>(hJ.cl e.on n1 n2 (hall e he hbd)).1) _ (fun v W' hb' hv hoff=>⟨by simp[hsz],_,rfl,hb.trans (hb'.mono hb.size),fun j hj1 hj2 g=>?_,fun g=>?_,fun g=>ls_keep (hJ.dep ((ls_set' g).resolve_left (Ne.symm h2)))⟩)
    ·by_cases hji:j=i
     ·subst hji;rw[upd_self,upd_ne Y _ (Ne.symm h1)];refine⟨hv,fun g2 p hp=>?_⟩;have g3:=(ls_set' g2).resolve_left (Ne.symm h1);obtain⟨p',cs,hp',hpw,hrow,_⟩:=hJ.box g3;have:p=p':=by rw[hp]at hp';simpa using hp'
      subst this;exact hoff p hpw hrow.lt (fun e he hbd n1 n2=>(hJ.cl e.on n1 n2 (hall e he hbd)).2 g3 p hp)
     ·have g':=(ls_set' g).resolve_left hji;obtain⟨c1,c2⟩:=hJ.cl j hj1 hj2 g';rw[upd_ne Y _ hji,upd_ne Y _ (Ne.symm h1)];exact⟨hmono _ _ _ _ hb' c1,fun g2=>c2 ((ls_set' g2).resolve_left (Ne.symm h1))⟩
    ·obtain⟨p,cs,hp,hpw,hrow,hcs,hw⟩:=hJ.box ((ls_set' g).resolve_left (Ne.symm h1));rw[upd_ne Y _ (Ne.symm h1)];refine⟨p,cs,hp,hpw,hrow.below hb' hrow.lt,hcs,fun g2=>?_⟩;obtain⟨x1,x2⟩:=hw ((ls_set' g2).resolve_left (Ne.symm h2));have hxi:ix≠i:=fun e=>ls_un hn (e▸x1);rw[upd_ne Y _ hxi];exact⟨ls_keep x1,x2⟩
 ·rintro L act W hr ⟨hsz,Y,rfl,hJ⟩;have key:∀n i,i<n→i<l.length→L.getD i false=true:=by
   intro n
   induction n with
   |zero=>intro i h;omega
   |succ n ih=>
    intro i hin hil;refine flag_of_any (j:=i) (by omega) hr (show l.toArray[i]? =some l[i] by simp[hil]) (fun e he hbd=>?_);have hlt:e.on<i:=by
     have hx:=List.all_eq_true.1 hback (l[i],i) (List.mem_iff_getElem?.2 ⟨i,by simp[hil]⟩);have hy:=(Array.all_eq_true_iff_forall_mem.1 hx) e he;rw[hbd]at hy;simpa using hy
    exact ih e.on (by omega) (by omega)
  have fl:∀i,i<l.length→L.getD i false=true:=fun i hi=>key (i+1) i (by omega) hi;obtain⟨p,cs,hp,hpw,hrow,_,hw⟩:=hJ.box (fl ia hia);obtain⟨_,rfl⟩:=hw (fl is his);exact hend Y W p hJ.below hpw hp hrow (fun i hi n1 n2=>⟨(hJ.cl i n1 n2 (fl i hi)).1,(hJ.cl i n1 n2 (fl i hi)).2 (fl ia hia) p hp⟩)
abbrev outA(o:OutS)(v:Value):Value:= .agg #[.int .i64 o.kind,.int .i64 o.code,v,.int .i64 o.steps,.int .i64 o.deep]
abbrev outT(o:OutS)(er:Int)(v:Value):Value:= .tuple #[outA o v,.int .i64 er]
def aggOf:Value→Array Value
 | .agg cs=>cs
 |_=>#[]
structure RunCl (ty:TypeId) (base ic:Nat) (cst:Nat→Value) (o:OutS) (er:Int) (W:World) (i:Nat) (v:Value):Prop where
 c:i<ic→v=cst i
 t:i=ic∨i=ic+1→∃u,v=outT o er u∧W.ownsRow base ty 1 u o.out.length (o.out.map (Value.int .i64))
 a:i=ic+2→∃u,v=outA o u∧W.ownsRow base ty 1 u o.out.length (o.out.map (Value.int .i64))
 e:i=ic+3∨i=ic+6→v= .int .i64 er
def RunOff(ic:Nat)(o:OutS)(er:Int)(i:Nat)(v:Value)(p:Nat):Prop:=
 (i=ic∨i=ic+1→∀u,v=outT o er u→u.ownBlock≠some p)∧(i=ic+2→∀u,v=outA o u→u.ownBlock≠some p)
section
variable {ty:TypeId} {base ic:Nat} {cst:Nat→Value} {o:OutS} {er:Int} {W W':World} {i:Nat} {v:Value}
theorem RunCl.wr{F:Nat→Prop}(h:RunCl ty base ic cst o er W i v)(hw:Wr F W W')(hF:∀g,F g→∀u,(i=ic∨i=ic+1→v=outT o er u→u.ownBlock≠some g)∧(i=ic+2→v=outA o u→u.ownBlock≠some g)):RunCl ty base ic cst o er W' i v:=by
 refine⟨h.c,fun hi=>?_,fun hi=>?_,h.e⟩
 ·obtain⟨u,e,hu⟩:=h.t hi;exact⟨u,e,ownsRow_wr hu hw (fun g hg hf=>(hF g hf u).1 hi e hg)⟩
 ·obtain⟨u,e,hu⟩:=h.a hi;exact⟨u,e,ownsRow_wr hu hw (fun g hg hf=>(hF g hf u).2 hi e hg)⟩
theorem RunCl.below(h:RunCl ty base ic cst o er W i v)(hb:Below W.heap.size W W'):RunCl ty base ic cst o er W' i v:=h.wr (F:=fun _=>False) (Wr.of_below hb) (fun _ h=>h.elim)
theorem outT_inj{u u':Value}(h:outT o er u=outT o er u'):u=u':=by simpa [outT,outA]using h
theorem outA_inj{u u':Value}(h:outA o u=outA o u'):u=u':=by simpa [outA]using h
theorem RunCl.fresh(h:RunCl ty base ic cst o er W i v):RunOff ic o er i v W.heap.size:=by
 refine⟨fun hi u hu hb=>?_,fun hi u hu hb=>?_⟩
 ·obtain⟨u',e,ho⟩:=h.t hi;obtain rfl:=outT_inj (hu.symm.trans e);have:=(ho.lt _ hb).2;omega
 ·obtain⟨u',e,ho⟩:=h.a hi;obtain rfl:=outA_inj (hu.symm.trans e);have:=(ho.lt _ hb).2;omega
theorem RunCl.const(h:i<ic):RunCl ty base ic cst o er W i (cst i):=⟨fun _=>rfl,fun h'=>by omega,fun h'=>by omega,fun h'=>by omega⟩
theorem RunOff.const(h:i<ic)(p:Nat):RunOff ic o er i v p:=⟨fun h'=>by omega,fun h'=>by omega⟩
theorem RunCl.err(h:i=ic+3∨i=ic+6):RunCl ty base ic cst o er W i (.int .i64 er):=⟨fun h'=>by omega,fun h'=>by omega,fun h'=>by omega,fun _=>rfl⟩
theorem RunOff.err(h:i=ic+3∨i=ic+6)(p:Nat):RunOff ic o er i v p:=⟨fun h'=>by omega,fun h'=>by omega⟩
theorem RunCl.call{u:Value}(h:i=ic∨i=ic+1)(hu:W.ownsRow base ty 1 u o.out.length (o.out.map (Value.int .i64))):RunCl ty base ic cst o er W i (outT o er u):=⟨fun h'=>by omega,fun _=>⟨u,rfl,hu⟩,fun h'=>by omega,fun h'=>by omega⟩
theorem RunOff.call{u:Value}(h:i=ic∨i=ic+1){p:Nat}(hp:u.ownBlock≠some p):RunOff ic o er i (outT o er u) p:=⟨fun _ u' e=>by rw[←outT_inj e];exact hp,fun h'=>by omega⟩
theorem RunCl.part{u:Value}(h:i=ic+2)(hu:W.ownsRow base ty 1 u o.out.length (o.out.map (Value.int .i64))):RunCl ty base ic cst o er W i (outA o u):=⟨fun h'=>by omega,fun h'=>by omega,fun _=>⟨u,rfl,hu⟩,fun h'=>by omega⟩
theorem RunOff.part{u:Value}(h:i=ic+2){p:Nat}(hp:u.ownBlock≠some p):RunOff ic o er i (outA o u) p:=⟨fun h'=>by omega,fun _ u' e=>by rw[←outA_inj e];exact hp⟩
end
def regsOf:Code→List Code
 | .region i l b=>[.region i l b]
 | .loop c=>regsOf c
 | .seq a b=>regsOf a++regsOf b
 | .block _ c=>regsOf c
 | .scope c=>regsOf c
 | .cond _ a b=>regsOf a++regsOf b
 |_=>[]
theorem size5{cs:Array Value}(h:cs.size=5):∃a b c d e,cs=#[a,b,c,d,e]:=by
 obtain⟨l⟩:=cs
 match l,h with
 |[a,b,c,d,e],_=>exact⟨a,b,c,d,e,rfl⟩
end Go.Proofs.YtlenilbkifofjaaGreatDoor
