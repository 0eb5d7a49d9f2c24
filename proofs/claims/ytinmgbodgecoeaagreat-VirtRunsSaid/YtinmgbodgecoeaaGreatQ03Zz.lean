/- The page's machine: its state, how it lies in memory; stop, step. Conditions: as stated. The page's trees' values (chapters 6, 7), as plain functions. No program in sight. No condition. The page's machine (chapter 7), as plain functions: programs, objects made, stores, steps, calls, runs. No program in sight. No condition. Slices of trees. No program in sight. No condition. How a program lies in memory. No program in sight but its name. No condition. How a program of virtual code lies in memory. No program in sight but its name. No condition. What the page's ops come to may be again. No program in sight. No condition. An empty memory and one of the object that is none are one to the page's machine: plain. No program in sight. No condition. The page's machine: step. Conditions: as stated. The page's machine: a call's frame; what a tree's walk is asked. No condition. The page's machine: a tree one of whose kids comes to nothing. Conditions: as stated. The page's machine: a leaf's value. Conditions: as stated. The page's machine: an op of values that comes to a value. Conditions: as stated. The page's machine: an op of values that is stuck. Conditions: as stated. The page's machine: what a tree comes to. Conditions: as stated. The page's machine: what a step's walk is asked; a frame's temporaries written. No condition. The page's memory: an object more; what a made row of values holds. No program in sight but its name. No condition. What is always true of the page's machine while it runs. No program in sight. No condition. Kids, Size, Between, Num, IsLoad: small asks. No condition. Whether objects may be (plain). No condition. Regions that draw their order: reads, then a tail in one forced order; the reads by the cheap step. No program in sight but its name. No condition. A region that draws its order: a head whose operations only read and whose callees at most make new memory, then a tail in one forced order. No program in sight. No condition. A region that draws its order, by what holds after each set of its operations. No program in sight. No condition. A region that draws its order and whose operations at most make new memory, by what each operation's result is. No program in sight. No condition. A region that draws its order: a head by what each operation's result is, then a tail in one forced order. No program in sight. No condition. A region that draws its order, makes one box and writes it whole; its other operations at most make new memory. No program in sight. No condition. Regions that draw their order: one box made and written, or an old box written; results that own memory. No program in sight. No condition. A region that draws its order, whose operations read, but for one call and, when all else is done, one store. No program in sight. No condition. The graph's checks: Size, within. No condition. count, Tree: how many nodes a tree has, and whether it may be. Conditions: as stated. The graph's checks: Objects. Conditions: as stated. Trees whose rows of kids are all blocks of their own. No program in sight but its name. No condition. A row of trees of the call's own that grows by one. No program in sight but its name. No condition. How long a program's lists may be: what memory may hold. No program in sight. No condition. How long a program's lists may be: what memory may hold. No program in sight. No condition. gantletref14's machine: its state, how it lies in memory; stop, step. Conditions: as stated. The page's memory: a value is stored. Conditions: as stated. -/
import Derived.Test.YtinmgbodgecoeaaGreatMemApplyZz
import Derived.Laws.MakeOwn
import Derived.StillTail
import Derived.Deep.Quiet
import Derived.Deep.AppendLies
set_option linter.unusedSimpArgs false
set_option linter.unusedVariables false
set_option maxHeartbeats 8000000
set_option maxRecDepth 100000
open Go.Proofs.Tryz
namespace Go.Proofs.YtinmgbodgecoeaaGreat
open Go.RowKit
structure St where
 inp:List Int
 kind:Int
 code:Int
 out:List Int
 steps:Int
 deep:Int
 calls:Int
 mem:List MO
def iJ(k:Int)(s:St):St:=if s.kind=0 then {s with kind:=k}else s
def aL(ah n:Int)(s:St):Bool×St:=
 if s.kind=0 then if n>ah-s.steps then(false,{s with steps:=ah,kind:=2})else(true,{s with steps:=s.steps+n})else(false,s)
def tK(cs:Array Value)(l:List V):Prop:=cs.size=l.length*2/\∀j v,l[j]? =some v->cs[j*2]? =some (.int .i64 v.obj)/\cs[j*2+1]? =some (.int .i64 v.n)
def iG(w:World)(b:Nat)(l:List V):Prop:=∃cs,Row w b cs 75/\tK cs l
def uB(w:World)(ai:Nat)(v:Value)(l:List Int):Prop:=
 ∃A aA,v= .slice A l.length aA/\l.length<=aA/\aA<=9223372036854775807/\(0<l.length->∃b off,A=some ⟨b,off,none⟩/\b<ai/\∀j x,l[j]? =some x->w.cell? ⟨b,off+j,none⟩=some (.int .i64 x)/\In64 x)
def uA(xs:List Value)(rb:Nat->Nat)(k:Nat)(o:MO):Prop:=
 xs[k*3]? =some (.int .i64 o.size)/\xs[k*3+1]? =some (if k=0 then .slice none 0 0 else .slice (some ⟨rb k,0,none⟩) o.l.length o.l.length)/\xs[k*3+2]? =some (.bool o.live)
structure cQ (M:List MO):Prop where
 many:M.length<=4294967296
 zero:∀o,M[0]? =some o->o=⟨0,[],false⟩
 size:∀k o,1<=k->M[k]? =some o->(o.size=1\/o.size=2\/o.size=4\/o.size=8)/\o.l.length<=64
 vals:∀o,o∈M->∀v,v∈o.l->kW M.length v
structure qg (w:World) (ai:Nat) (own:Nat->Prop) (aU:Value) (rb:Nat->Nat) (M:List MO):Prop where
 row:∃xs,w.ownsRow ai 116 3 aU M.length xs/\∀k o,M[k]? =some o->uA xs rb k o
 mine:∀k o,1<=k->M[k]? =some o->own (rb k)/\iG w (rb k) o.l
 inj:∀i j,1<=i->i<M.length->1<=j->j<M.length->rb i=rb j->i=j
 ok:cQ M
structure Rest (w:World) (ai:Nat) (own:Nat->Prop) (inv outv aU:Value) (rb:Nat->Nat) (s:St):Prop where
 inp:uB w ai inv s.inp
 out:w.ownsRow ai 2 1 outv s.out.length (s.out.map (Value.int .i64))
 sI:∀g,outv.ownBlock=some g->own g
 mem:qg w ai own aU rb s.mem
 memo:∀g,aU.ownBlock=some g->own g
 own:∀k,own k->ai<=k/\k<w.heap.size
theorem uB.below{w w':World}{ai:Nat}{v:Value}{l:List Int}(h:uB w ai v l)(hw:∀b o,b<ai->w'.cell? ⟨b,o,none⟩=w.cell? ⟨b,o,none⟩):uB w' ai v l:=by
 obtain⟨A,aA,hv,h1,h2,h3⟩:=h;refine⟨A,aA,hv,h1,h2,λhp=>?_⟩;obtain⟨b,off,hA,hb,hc⟩:=h3 hp;exact⟨b,off,hA,hb,λj x hj=>⟨(hw b _ hb).trans (hc j x hj).1,(hc j x hj).2⟩⟩
theorem Rest.same{w:World}{ai:Nat}{own:Nat->Prop}{inv outv aU:Value}{rb:Nat->Nat}{s s':St}(h:Rest w ai own inv outv aU rb s)(h1:s'.inp=s.inp)(h2:s'.out=s.out)(h3:s'.mem=s.mem):Rest w ai own inv outv aU rb s':=
 ⟨h1▸h.inp,h2▸h.out,h.sI,h3▸h.mem,h.memo,h.own⟩
end Go.Proofs.YtinmgbodgecoeaaGreat
namespace Go.Proofs.YtinmgbodgecoeaaGreat
open Go.RowKit
def OT(M:List MO)(tp:List V)(lo:List Nat)(op n:Int)(l:List V):Option V:=
 if op=1 then some ⟨0,n⟩else if op=2 then some (tp.getD n.toNat ⟨0,0⟩)else if op=3 then some ⟨lo.getD n.toNat 0,0⟩else if op=4 then some ⟨n.toNat+1,0⟩else pO M op l
mutual
def gB(M:List MO)(tp:List V)(lo:List Nat):T->Option V
 | .node op n ks=>(cF M tp lo ks).bind (OT M tp lo op n)
def cF(M:List MO)(tp:List V)(lo:List Nat):List T->Option (List V)
 |[]=>some []
 |k::ks=>(gB M tp lo k).bind λv=>(cF M tp lo ks).map (v::·)
end
def Gt(op:Int):Nat:=if op<=4 then 0 else if 12<=op/\op<=30 then 2 else 1
mutual
def Dd(nt nl ng:Nat):T->Prop
 | .node op n ks=>1<=op/\op<=36/\ks.length=Gt op/\(op=2->0<=n/\n<nt)/\(op=3->0<=n/\n<nl)/\(op=4->0<=n/\n<ng)/\oJ nt nl ng ks
def oJ(nt nl ng:Nat):List T->Prop
 |[]=>True
 |k::ks=>Dd nt nl ng k/\oJ nt nl ng ks
end
mutual
def De:T->Prop
 | .node _ n ks=>In64 n/\oK ks
def oK:List T->Prop
 |[]=>True
 |k::ks=>De k/\oK ks
end
section
variable {M:List MO} {tp:List V} {lo:List Nat}
theorem bW{α:Type}{l:List α}{k:Nat}{t:α}(h:l[k]? =some t):l.take (k+1)=l.take k++[t]:=by
 rw[List.take_add_one,h];rfl
theorem C7{ks:List T}{l:List V}(h:cF M tp lo ks=some l):l.length=ks.length:=by
 induction ks generalizing l with
 |nil=>simp[cF]at h;subst h;rfl
 |cons t r ih=>
  simp only[cF]at h;cases hv:gB M tp lo t with
  |none=>rw[hv]at h;simp at h
  |some v=>
   rw[hv]at h;cases hr:cF M tp lo r with
   |none=>rw[hr]at h;simp at h
   |some x=>rw[hr]at h;simp at h;subst h;simp[ih hr]
end
def cU:List V->List Value
 |[]=>[]
 |v::l=> .int .i64 v.obj:: .int .i64 v.n::cU l
theorem fG(l:List V):(cU l).length=l.length*2:=by
 induction l with
 |nil=>rfl
 |cons v l ih=>simp[cU,ih];omega
theorem rV(a b:List V):cU (a++b)=cU a++cU b:=by
 induction a with
 |nil=>rfl
 |cons v l ih=>simp[cU,ih]
theorem Nf{l:List V}{j:Nat}{v:V}(h:l[j]? =some v):(cU l)[j*2]? =some (.int .i64 v.obj)/\(cU l)[j*2+1]? =some (.int .i64 v.n):=by
 induction l generalizing j with
 |nil=>simp at h
 |cons a l ih=>
  cases j with
  |zero=>simp at h;subst h;simp[cU]
  |succ j=>
   simp at h;have:=ih h;rw[show(j+1)*2=j*2+1+1 by omega];simpa [cU]using this
theorem Ek{w:World}{ai:Nat}{v:Value}{l:List V}{e:TypeId}(h:w.ownsRow ai e 2 v l.length (cU l))(hp:0<l.length):∃g aA,v= .slice (some ⟨g,0,none⟩) l.length aA/\ai<=g/\g<w.heap.size/\∀j x,l[j]? =some x->bJ w g (0+j*2) x:=by
 have hlt:=h.lt;obtain⟨h1,h2⟩:=h;rcases h2 with⟨_,h2⟩|⟨g,aA,cur,hv,hb,hh,h3,h4,h5,h6⟩
 ·omega
 ·subst hv;refine⟨g,aA,rfl,hb,Row.lt hh,λj x hj=>?_⟩;have hg:=Nf hj;have hjl:j<l.length:=by
   rcases Nat.lt_or_ge j l.length with h|h
   ·exact h
   ·rw[List.getElem?_eq_none h]at hj;cases hj
  rw[<-h6]at hg;have e0:=hg.1;have e1:=hg.2;rw[List.getElem?_take,if_pos (by omega),Array.getElem?_toList]at e0 e1;exact⟨Row.cell hh (by simpa using e0),Row.cell hh (by simpa using e1)⟩
end Go.Proofs.YtinmgbodgecoeaaGreat
namespace Go.Proofs.YtinmgbodgecoeaaGreat
open Go.RowKit
structure kH where
 size:Int
 count:Int
 init:List Int
structure qC where
 op:Int
 to:Int
 size:Int
 fn:Int
 args:List T
structure rZ where
 steps:List qC
 fin:Int
 cond:T
 next:Int
 els:Int
structure qX where
 params:Int
 bN:Int
 az:List kH
 blocks:List rZ
structure qD where
 ay:List kH
 funcs:List qX
 main:Int
def mN(o:kH):List V:=(List.range o.count.toNat).map λi=>⟨0,match o.init[i]? with|some n=>eA o.size.toNat n|none=>0⟩
def gP(M:List MO)(o:kH):List MO:=(if M=[]then [⟨0,[],false⟩]else M)++[⟨o.size,mN o,true⟩]
def bf(M:List MO):List kH->List MO
 |[]=>M
 |o::l=>bf (gP M o) l
def bS(M:List MO)(size:Int)(a x:V):Option (List MO):=
 match sP M a size.toNat with
 |none=>none
 |some j=>if x.obj>0/\size≠8 then none else
   some (M.modify a.obj λo=>{o with l:=o.l.set j (if x.obj=0 then⟨0,eA size.toNat x.n⟩else x)})
def zf(tp:List V)(to:Int)(v:V):List V:=if 0<=to then tp.set to.toNat v else tp
def dL(M:List MO):List Nat->List MO
 |[]=>M
 |k::l=>dL (M.modify k λo=>{o with live:=false}) l
abbrev bT:=Int->List V->St->Option V×St
def kX(R:bT)(s:St)(tp:List V)(x:qC)(l:List V):Bool×St×List V:=
 if x.op=1 then(true,s,zf tp x.to (l.getD 0 ⟨0,0⟩))
 else if x.op=2 then match bS s.mem x.size (l.getD 0 ⟨0,0⟩) (l.getD 1 ⟨0,0⟩)with
  |some M=>(true,{s with mem:=M},tp)
  |none=>(false,{s with kind:=3},tp)
 else if x.op=3 then match R x.fn l s with
  |(some v,s')=>(true,s',zf tp x.to v)
  |(none,s')=>(false,s',tp)
 else if x.op=5 then match s.inp with
  |[]=>(true,s,zf tp x.to ⟨0,0⟩)
  |n::r=>(true,{s with inp:=r},zf tp x.to ⟨0,n⟩)
 else if(l.getD 0 ⟨0,0⟩).obj>0 then(false,{s with kind:=3},tp)
 else if x.op=6 then(false,{s with code:=(l.getD 0 ⟨0,0⟩).n,kind:=1},tp)
 else(true,{s with out:=s.out++[(l.getD 0 ⟨0,0⟩).n]},tp)
def oz(R:bT)(ah:Int)(lo:List Nat)(s:St)(tp:List V)(x:qC):Bool×St×List V:=
 if(aL ah 1 s).1=false then(false,(aL ah 1 s).2,tp)
 else match cF (aL ah 1 s).2.mem tp lo x.args with
  |none=>(false,{(aL ah 1 s).2 with kind:=3},tp)
  |some l=>kX R (aL ah 1 s).2 tp x l
def qI(R:bT)(ah:Int)(lo:List Nat)(s:St)(tp:List V):List qC->Bool×St×List V
 |[]=>(true,s,tp)
 |x::r=>match oz R ah lo s tp x with
  |(true,s',tp')=>qI R ah lo s' tp' r
  |(false,s',tp')=>(false,s',tp')
inductive Goes where
 |over
 |next (k:Int)
 |ret (v:V)
def qT(R:bT)(ah:Int)(lo:List Nat)(s:St)(tp:List V)(b:rZ):Goes×St×List V:=
 match qI R ah lo s tp b.steps with
 |(false,s',tp')=>(.over,s',tp')
 |(true,s1,QX)=>
  if(aL ah 1 s1).1=false then(.over,(aL ah 1 s1).2,QX)
  else if b.fin=1 then(.next b.next,(aL ah 1 s1).2,QX)
  else match gB (aL ah 1 s1).2.mem QX lo b.cond with
   |none=>(.over,{(aL ah 1 s1).2 with kind:=3},QX)
   |some v=>if b.fin=3 then(.ret v,(aL ah 1 s1).2,QX)
    else(.next (if v=⟨0,0⟩then b.els else b.next),(aL ah 1 s1).2,QX)
def Eo:rZ:=⟨[],0,.node 0 0 [],0,0⟩
def RQ:qX:=⟨0,0,[],[]⟩
def bV(R:bT)(ah:Int)(lo:List Nat)(bs:List rZ):Nat->Int->St->List V->Option V×St
 |0,_,s,_=>(none,s)
 |g+1,k,s,tp=>match qT R ah lo s tp (bs.getD k.toNat Eo)with
  |(.over,s',_)=>(none,s')
  |(.next k',s',tp')=>bV R ah lo bs g k' s' tp'
  |(.ret v,s',_)=>(some v,{s' with mem:=dL s'.mem lo,calls:=s'.calls-1})
def aQ:List kH->Int
 |[]=>0
 |o::l=>o.count+aQ l
def cX(M:List MO)(n:Nat):List Nat:=(List.range n).map λi=>(if M=[]then 1 else M.length)+i
def gJ(n:Nat)(args:List V):List V:=args++List.replicate (n-args.length) ⟨0,0⟩
def mZ(p:qD)(ah:Int):Nat->bT
 |0,_,_,s=>(none,iJ 4 s)
 |d+1,fn,args,s=>
  let g:=p.funcs.getD fn.toNat RQ
  let s1:={s with calls:=s.calls+1,deep:=max s.deep (s.calls+1)}
  if(aL ah (aQ g.az) s1).1=false then(none,(aL ah (aQ g.az) s1).2)
  else
   let s2:=(aL ah (aQ g.az) s1).2
   bV (mZ p ah d) ah (cX s2.mem g.az.length) g.blocks (ah-s2.steps+1).toNat 0 {s2 with mem:=bf s2.mem g.az} (gJ g.bN.toNat args)
structure um where
 kind:Int
 code:Int
 out:List Int
 steps:Int
 deep:Int
def oq(r:Option V×St):um:=
 let s:=match r.1 with
  |some v=>{r.2 with kind:=if v.obj>0 then 3 else 1,code:=v.n}
  |none=>r.2
 if s.kind=3 then⟨3,0,[],0,0⟩else⟨s.kind,s.code,s.out,s.steps,s.deep⟩
def vI(p:qD)(inp:List Int)(ah:Int):um:=
 oq (mZ p ah 64 p.main [] ⟨inp,0,0,[],0,0,0,bf [] p.ay⟩)
end Go.Proofs.YtinmgbodgecoeaaGreat
namespace Go.Proofs.YtinmgbodgecoeaaGreat
open Go.RowKit
def SliceAt{α:Type}(w:World)(B sz:Nat)(E:(Nat->Option Value)->α->Prop)(l:List α)(v:Value):Prop:=
 ∃A aA,v= .slice A l.length aA/\l.length<=9223372036854775807/\(0<l.length->∃b off,A=some ⟨b,off,none⟩/\b<B/\∀i x,l[i]? =some x->E (λj=>w.cell? ⟨b,off+i*sz+j,none⟩) x)
theorem SliceAt.below{α:Type}{w w':World}{B B' sz:Nat}{E E':(Nat->Option Value)->α->Prop}{l:List α}{v:Value}(h:SliceAt w B sz E l v)(hb:Below B w w')(hB:B<=B')(hE:∀c x,E c x->E' c x):SliceAt w' B' sz E' l v:=by
 obtain⟨A,aA,h0,h1,h2⟩:=h;refine⟨A,aA,h0,h1,λhp=>?_⟩;obtain⟨b,off,hA,hlt,hx⟩:=h2 hp;refine⟨b,off,hA,by omega,λi x hi=>?_⟩;have e:(λj=>w'.cell? ⟨b,off+i*sz+j,none⟩)=λj=>w.cell? ⟨b,off+i*sz+j,none⟩:=by funext j;exact hb.cell (p:=⟨b,_,none⟩) hlt
 rw[e];exact hE _ _ (hx i x hi)
theorem SliceAt.get{α:Type}{w:World}{B sz:Nat}{E:(Nat->Option Value)->α->Prop}{l:List α}{A:Option Addr}{n aA k:Nat}(h:SliceAt w B sz E l (.slice A n aA))(hk:k<n):
  ∃b off x,A=some ⟨b,off,none⟩/\b<B/\l[k]? =some x/\E (λj=>w.cell? ⟨b,off+k*sz+j,none⟩) x:=by
 obtain⟨A',cap',h0,h1,h2⟩:=h;injection h0 with e1 e2 e3;subst e1 e2;obtain⟨b,off,hA,hlt,hx⟩:=h2 (by omega);exact⟨b,off,_,hA,hlt,List.getElem?_eq_getElem hk,hx k _ (List.getElem?_eq_getElem hk)⟩
theorem SliceAt.len{α:Type}{w:World}{B sz:Nat}{E:(Nat->Option Value)->α->Prop}{l:List α}{A:Option Addr}{n aA:Nat}(h:SliceAt w B sz E l (.slice A n aA)):l.length=n/\n<=9223372036854775807:=by
 obtain⟨A',cap',h0,h1,_⟩:=h;injection h0 with e1 e2 e3;subst e2;exact⟨rfl,h1⟩
def aD(w:World)(B:Nat)(l:List Int)(v:Value):Prop:=SliceAt w B 1 (λc x=>c 0=some (.int .i64 x)/\In64 x) l v
def sG(w:World)(B:Nat)(c:Nat->Option Value)(o:kH):Prop:=
 c 0=some (.int .i64 o.size)/\c 1=some (.int .i64 o.count)/\(∃v,c 2=some v/\aD w B o.init v)/\In64 o.size/\In64 o.count
section
variable {w w':World} {B B':Nat}
theorem aD.below{l:List Int}{v:Value}(h:aD w B l v)(hb:Below B w w')(hB:B<=B'):aD w' B' l v:=SliceAt.below h hb hB λ_ _ h=>h
theorem sG.below{c:Nat->Option Value}{o:kH}(h:sG w B c o)(hb:Below B w w')(hB:B<=B'):sG w' B' c o:=by
 obtain⟨h0,h1,⟨v,h2,h3⟩,h4⟩:=h;exact⟨h0,h1,⟨v,h2,h3.below hb hB⟩,h4⟩
end
end Go.Proofs.YtinmgbodgecoeaaGreat
namespace Go.Proofs.YtinmgbodgecoeaaGreat
open Go.RowKit
structure bg where
 op:Int
 dst:Int
 a:Int
 b:Int
 n:Int
 arg:List Int
structure aR where
 params:Int
 regs:Int
 az:List kH
 ins:List bg
structure bB where
 ay:List kH
 funcs:List aR
 main:Int
def kI(w:World)(B:Nat)(c:Nat->Option Value)(x:bg):Prop:=
 c 0=some (.int .i64 x.op)/\c 1=some (.int .i64 x.dst)/\c 2=some (.int .i64 x.a)/\c 3=some (.int .i64 x.b)/\c 4=some (.int .i64 x.n)/\(∃v,c 5=some v/\aD w B x.arg v)/\In64 x.op/\In64 x.dst/\In64 x.a/\In64 x.b/\In64 x.n
def fT(w:World)(B:Nat)(c:Nat->Option Value)(g:aR):Prop:=
 c 0=some (.int .i64 g.params)/\c 1=some (.int .i64 g.regs)/\(∃v,c 2=some v/\SliceAt w B 3 (sG w B) g.az v)/\(∃v,c 3=some v/\SliceAt w B 6 (kI w B) g.ins v)/\In64 g.params/\In64 g.regs
def mQ(w:World)(B:Nat)(c:Nat->Option Value)(p:bB):Prop:=
 (∃v,c 0=some v/\SliceAt w B 3 (sG w B) p.ay v)/\(∃v,c 1=some v/\SliceAt w B 4 (fT w B) p.funcs v)/\c 2=some (.int .i64 p.main)/\In64 p.main
section
variable {w w':World} {B B':Nat}
theorem kI.below{c:Nat->Option Value}{x:bg}(h:kI w B c x)(hb:Below B w w')(hB:B<=B'):kI w' B' c x:=by
 obtain⟨h0,h1,h2,h3,h4,⟨v,h5,h6⟩,h7⟩:=h;exact⟨h0,h1,h2,h3,h4,⟨v,h5,h6.below hb hB⟩,h7⟩
theorem fT.below{c:Nat->Option Value}{g:aR}(h:fT w B c g)(hb:Below B w w')(hB:B<=B'):fT w' B' c g:=by
 obtain⟨h0,h1,⟨v,h2,h3⟩,⟨u,h4,h5⟩,h6⟩:=h;exact⟨h0,h1,⟨v,h2,h3.below hb hB λ_ _ h=>h.below hb hB⟩,⟨u,h4,h5.below hb hB λ_ _ h=>h.below hb hB⟩,h6⟩
theorem mQ.below{c:Nat->Option Value}{p:bB}(h:mQ w B c p)(hb:Below B w w')(hB:B<=B'):mQ w' B' c p:=by
 obtain⟨⟨v,h0,h1⟩,⟨u,h2,h3⟩,h4⟩:=h;exact⟨⟨v,h0,h1.below hb hB λ_ _ h=>h.below hb hB⟩,⟨u,h2,h3.below hb hB λ_ _ h=>h.below hb hB⟩,h4⟩
end
def bP(w:World)(B:Nat)(P:Value×Value×Value)(p:bB):Prop:=
 SliceAt w B 3 (sG w B) p.ay P.1/\SliceAt w B 4 (fT w B) p.funcs P.2.1/\P.2.2= .int .i64 p.main/\In64 p.main
theorem bP.below{w w':World}{B:Nat}{P:Value×Value×Value}{p:bB}(h:bP w B P p)(hb:Below B w w'):bP w' B P p:=
 ⟨h.1.below hb (aY _) λ_ _ h=>h.below hb (aY _),h.2.1.below hb (aY _) λ_ _ h=>h.below hb (aY _),h.2.2⟩
theorem bP.shape{w:World}{B:Nat}{P:Value×Value×Value}{p:bB}(h:bP w B P p):∃GA gc FA fc,P=(.slice GA p.ay.length gc,.slice FA p.funcs.length fc,.int .i64 p.main):=by
 obtain⟨P0,P1,P2⟩:=P;obtain⟨⟨A,c,h0,_⟩,⟨A',c',h1,_⟩,h2,_⟩:=h;simp only at h0 h1 h2;exact⟨_,_,_,_,by rw[h0,h1,h2]⟩
theorem mQ.at{w:World}{B:Nat}{c:Nat->Option Value}{p:bB}(h:mQ w B c p):∃P:Value×Value×Value,c 0=some P.1/\c 1=some P.2.1/\c 2=some P.2.2/\bP w B P p:=by
 obtain⟨⟨v,h0,h1⟩,⟨u,h2,h3⟩,h4,h5⟩:=h;exact⟨(v,u,.int .i64 p.main),h0,h2,h4,h1,h3,rfl,h5⟩
end Go.Proofs.YtinmgbodgecoeaaGreat
namespace Go.Proofs.YtinmgbodgecoeaaGreat
open Go.RowKit
theorem Le(n:Int):In64 (wrap64 n):=by unfold wrap64 In64;omega
theorem Qm(op:BinOp)(x y:Int):In64 (bits op .i64 x y):=by
 unfold bits In64;simp only[IntKind.wrap_i64];omega
theorem Oo(t:Bool):In64 (vH t):=by unfold In64;exact gq t
theorem Rq{a b:Int}(ha:In64 a):In64 (a.tmod b):=by
 unfold In64 at*;have h:((a.tmod b).natAbs:Int)<=a.natAbs:=by
  rw[Int.natAbs_tmod]
  exact_mod_cast Nat.mod_le _ _
 by_cases hz:0<=a
 ·have:=Int.tmod_nonneg b hz;omega
 ·have hs:a.tmod b<=0:=by
   have h1:=Int.tmod_nonneg b (show 0<= -a by omega);rw[Int.neg_tmod]at h1;omega
  omega
theorem SL{op a b:Int}(ha:In64 a):In64 (wP op a b):=by
 unfold wP qJ rO uE uD
 (repeat' split)<;>first|exact Le _|exact ha|exact Rq ha|(unfold In64;omega)
theorem JH{a:Int}(ha:In64 a)(k:Nat):In64 (a/2^k):=by
 have hp:(0:Int)<2^k:=Int.pow_pos (by decide);unfold In64 at*;constructor
 ·exact(Int.le_ediv_iff_mul_le hp).2 (by
   have:(-9223372036854775808:Int)*2^k<= -9223372036854775808*1:=Int.mul_le_mul_of_nonpos_left (by decide) (by omega);omega)
 ·have:=Int.ediv_le_ediv hp ha.2;refine Int.le_trans this ?_;exact Int.ediv_le_self _ (by decide)
theorem Ag{op a b:Int}(ha:In64 a):In64 (bF op a b):=by
 unfold bF
 (repeat' split)<;>first|exact Le _|exact Qm _ _ _|exact JH ha _|exact SL ha|exact Oo _
theorem Rn{op n:Int}(h:In64 n):In64 (CN op n):=Uj op n h.1 h.2
theorem Gm{op n:Int}(h:In64 n):In64 (iZ op n):=by
 unfold iZ;split
 ·exact h
 ·exact EJ _ _ _ h.1 h.2
theorem s6{s:Nat}{n:Int}(h:In64 n):In64 (eA s n):=by
 unfold eA;split
 ·exact h
 ·exact EJ _ _ _ h.1 h.2
theorem kW.num{n:Nat}{x:Int}(hn:0<n)(h:In64 x):kW n ⟨0,x⟩:=⟨hn,λh=>absurd rfl h,h⟩
section
variable {M:List MO}
theorem cQ.obj(h:cQ M){k:Nat}(hk:k<M.length):0<=(aG M k).size/\(aG M k).size<=8/\(aG M k).l.length<=64:=by
 have hg:=qj hk;by_cases h0:k=0
 ·subst h0;rw[h.zero _ hg];simp
 ·have:=h.size k _ (by omega) hg;omega
theorem AY(h:cQ M){a:V}(ha:kW M.length a)(hp:a.obj≠0){n:Int}{r:V}(hr:cT M a n=some r):kW M.length r:=by
 unfold cT at hr;split at hr
 ·rename_i hc;obtain⟨_,h1,h2⟩:=hc;simp only[Option.some.injEq]at hr;subst hr;have hb:=h.obj ha.1;have:=MO.ik hb.1 hb.2.1 hb.2.2;have:=ha.2.1 hp;exact⟨ha.1,λ_=>by simp only;omega,by unfold In64;simp only;omega⟩
 ·cases hr
theorem Cu(h:cQ M){op:Int}{a b r:V}(ha:kW M.length a)(hb:kW M.length b)(hr:dm bF M op a b=some r):kW M.length r:=by
 have hn:0<M.length:=Nat.lt_of_le_of_lt (Nat.zero_le _) ha.1;unfold dm at hr;by_cases h0:a.obj=0/\b.obj=0
 ·rw[if_pos h0]at hr;simp only[Option.some.injEq]at hr;subst hr;exact kW.num hn (Ag ha.2.2)
 ·rw[if_neg h0]at hr;by_cases h1:op=12/\a.obj=0
  ·rw[if_pos h1]at hr;exact AY h hb (by omega) hr
  ·rw[if_neg h1]at hr;by_cases h2:op=12/\b.obj=0
   ·rw[if_pos h2]at hr;exact AY h ha (by omega) hr
   ·rw[if_neg h2]at hr;by_cases h3:op=13/\b.obj=0
    ·rw[if_pos h3]at hr;split at hr
     ·cases hr
     ·exact AY h ha (by omega) hr
    ·rw[if_neg h3]at hr
     (repeat' split at hr)<;>first|(cases hr;done)|(simp only[Option.some.injEq]at hr;subst hr;exact kW.num hn (Ag (by first|exact ha.2.2|(unfold In64;omega))))|(simp only[Option.some.injEq]at hr;subst hr;exact kW.num hn (Ag (by split<;>(unfold In64;omega))))
theorem RU(h:cQ M){op:Int}{a r:V}(ha:kW M.length a)(hr:gZ M op a=some r):kW M.length r:=by
 have hn:0<M.length:=Nat.lt_of_le_of_lt (Nat.zero_le _) ha.1;unfold gZ at hr;cases hF:sP M a (gK op)with
 |none=>rw[hF]at hr;cases hr
 |some j=>
  rw[hF]at hr;have hj:=(KT hF (ha.2.1 (wV hF)).1).2.2.2;have hv:kW M.length ((aG M a.obj).l.getD j ⟨0,0⟩):=by
   refine h.vals (aG M a.obj) (List.mem_of_getElem? (qj ha.1)) _ ?_;rw[List.getD_eq_getElem?_getD,List.getElem?_eq_getElem hj];exact List.getElem_mem hj
  simp only at hr;generalize (aG M a.obj).l.getD j ⟨0,0⟩=v at hv hr
  (repeat' split at hr)
  ·simp only[Option.some.injEq]at hr;subst hr;exact hv
  ·cases hr
  ·simp only[Option.some.injEq]at hr;subst hr;exact kW.num hn (Gm hv.2.2)
theorem zY{l:List V}{n:Nat}(hn:0<n)(hl:∀v,v∈l->kW n v)(j:Nat):kW n (l.getD j ⟨0,0⟩):=by
 rw[List.getD_eq_getElem?_getD];cases hj:l[j]? with
 |none=>exact kW.num hn (by unfold In64;omega)
 |some v=>exact hl v (List.mem_of_getElem? hj)
theorem Qu(h:cQ M)(hn:0<M.length){op:Int}{l:List V}{r:V}(hl:∀v,v∈l->kW M.length v)(hr:pO M op l=some r):kW M.length r:=by
 unfold pO at hr;have h0:=zY hn hl 0;have h1:=zY hn hl 1;split at hr
 ·exact RU h h0 hr
 ·split at hr
  ·split at hr
   ·simp only[Option.some.injEq]at hr;subst hr;exact kW.num hn (Rn h0.2.2)
   ·cases hr
  ·exact Cu h h0 h1 hr
structure fV (M:List MO) (tp:List V) (lo:List Nat) (ng:Nat):Prop where
 bN:∀v,v∈tp->kW M.length v
 az:∀x,x∈lo->x<M.length
 ay:ng<M.length
mutual
theorem LD{tp:List V}{lo:List Nat}{ng:Nat}(h:cQ M)(hf:fV M tp lo ng):∀(t:T){r:V},De t->Dd tp.length lo.length ng t->gB M tp lo t=some r->kW M.length r
 | .node op n ks,r,hi,ht,hr=>by
  have hn:0<M.length:=Nat.lt_of_le_of_lt (Nat.zero_le _) hf.ay;simp only[De]at hi;simp only[Dd]at ht;obtain⟨t1,t2,t3,t4,t5,t6,t7⟩:=ht;simp only[gB]at hr;cases hks:cF M tp lo ks with
  |none=>rw[hks]at hr;cases hr
  |some l=>
   rw[hks]at hr;have hl:=Bq h hf ks hi.2 t7 hks;simp only[Option.bind_some,OT]at hr
   (repeat' split at hr)
   ·simp only[Option.some.injEq]at hr;subst hr;exact kW.num hn hi.1
   ·simp only[Option.some.injEq]at hr;subst hr;exact zY hn hf.bN _
   ·simp only[Option.some.injEq]at hr;subst hr;have:=t5 (by assumption);refine⟨hf.az _ ?_,λ_=>by simp,by unfold In64;simp⟩;rw[List.getD_eq_getElem?_getD,List.getElem?_eq_getElem (by omega)];exact List.getElem_mem _
   ·simp only[Option.some.injEq]at hr;subst hr;have:=t6 (by assumption);have:=hf.ay;exact⟨by simp only;omega,λ_=>by simp,by unfold In64;simp⟩
   ·exact Qu h hn hl hr
theorem Bq{tp:List V}{lo:List Nat}{ng:Nat}(h:cQ M)(hf:fV M tp lo ng):∀(ks:List T){l:List V},oK ks->oJ tp.length lo.length ng ks->cF M tp lo ks=some l->∀v,v∈l->kW M.length v
 |[],l,_,_,hr=>by simp[cF]at hr;subst hr;intro v hv;cases hv
 |k::ks,l,hi,ht,hr=>by
  simp only[oK]at hi;simp only[oJ]at ht;simp only[cF]at hr;cases hk:gB M tp lo k with
  |none=>rw[hk]at hr;cases hr
  |some v=>
   rw[hk]at hr;cases hks:cF M tp lo ks with
   |none=>rw[hks]at hr;simp at hr
   |some x=>
    rw[hks]at hr;simp at hr;subst hr;have h1:=LD h hf k hi.1 ht.1 hk;have h2:=Bq h hf ks hi.2 ht.2 hks;intro u hu;cases hu with
    |head=>exact h1
    |tail _ hu=>exact h2 u hu
end
end
end Go.Proofs.YtinmgbodgecoeaaGreat
namespace Go.Proofs.YtinmgbodgecoeaaGreat
open Go.RowKit
def au(M:List MO):List MO:=if M=[]then [⟨0,[],false⟩]else M
theorem j4(M:List MO)(o:kH):gP M o=au M++[⟨o.size,mN o,true⟩]:=rfl
theorem cZ(M:List MO):0<(au M).length:=by
 unfold au;split
 ·simp
 ·rename_i h;cases M with|nil=>exact absurd rfl h|cons a l=>simp
theorem uL{M:List MO}(h:cQ M):cQ (au M):=by
 unfold au;split
 ·refine⟨by simp,λo ho=>by simpa using ho.symm,λk o hk ho=>?_,λo ho v hv=>?_⟩
  ·rw[List.getElem?_eq_none (by simp;omega)]at ho;cases ho
  ·simp at ho;subst ho;simp at hv
 ·exact h
theorem rA(M:List MO)(k:Nat):aG (au M) k=aG M k:=by
 unfold au;split
 ·rename_i h;subst h;unfold aG;cases k<;>rfl
 ·rfl
theorem qK(M:List MO):au (au M)=au M:=by
 have h:=cZ M;generalize au M=N at h;unfold au;rw[if_neg (by rintro rfl;simp at h)]
theorem Io(M:List MO)(a:V)(s:Nat):sP (au M) a s=sP M a s:=by unfold sP;simp only[rA]
theorem A6(M:List MO)(op:Int)(a:V):gZ (au M) op a=gZ M op a:=by unfold gZ;simp only[rA,Io]
theorem Gg(M:List MO)(a:V)(n:Int):cT (au M) a n=cT M a n:=by unfold cT;simp only[rA]
theorem Nr(M:List MO)(a b:V):qf (au M) a b=qf M a b:=by unfold qf;simp only[rA]
theorem nW(two:Int->Int->Int->Int)(M:List MO)(op:Int)(a b:V):dm two (au M) op a b=dm two M op a b:=by unfold dm;simp only[rA,Gg,Nr]
theorem OS(M:List MO)(tp:List V)(lo:List Nat)(op n:Int)(l:List V):OT (au M) tp lo op n l=OT M tp lo op n l:=by
 unfold OT pO;simp only[A6,nW]
mutual
theorem Bt(M:List MO)(tp:List V)(lo:List Nat):∀t,gB (au M) tp lo t=gB M tp lo t
 | .node op n ks=>by
  rw[gB,gB,lu M tp lo ks]
  congr 1
  funext l
  exact OS M tp lo op n l
theorem lu(M:List MO)(tp:List V)(lo:List Nat):∀ks,cF (au M) tp lo ks=cF M tp lo ks
 |[]=>rfl
 |k::ks=>by rw[cF,cF,Bt M tp lo k,lu M tp lo ks]
end
theorem nO{M:List MO}(h:0<M.length):au M=M:=by
 unfold au;rw[if_neg (by rintro rfl;simp at h)]
theorem kW.Qs{M:List MO}{v:V}(h:kW (au M).length v):rG M.length v:=by
 refine⟨λh0=>?_,h.2⟩;have h1:=h.1;unfold au at h1;split at h1
 ·simp at h1;omega
 ·exact h1
theorem JT(M:List MO):(au M).length<=M.length+1:=by
 unfold au;split
 ·simp
 ·omega
theorem cQ.Jh{M:List MO}(h:cQ (au M)):cQ M:=by
 unfold au at h;split at h
 ·rename_i hM;subst hM;exact⟨by simp,λo h=>by simp at h,λk o _ h=>by simp at h,λo h=>by simp at h⟩
 ·exact h
theorem Fs(F:Nat->Prop)(w:World)(n:Nat):Wr F w (w.drewN n):=Wr.of_below (below_drewN (aV _ _) n)
theorem Wr.cell1(w:World)(b j:Nat)(v:Value):Wr (λk=>k=b) w (w.setCell ⟨b,j,none⟩ v):=Wr.setCell w ⟨b,j,none⟩ v rfl
theorem vG:(prog.info? 75).map (λi=>(i.zero,i.size,i.bytes))=some (some (.agg #[.int .i64 0,.int .i64 0]),2,16):=by kernel_rfl
theorem wY(g j:Nat):(⟨g,0,none⟩:Addr).add j=⟨g,j,none⟩:=by simp[Addr.add];exact λh=>h.symm
theorem pair_cells(w:World)(a b:Value)(t:TypeId)(r:Nat)(hr:r=w.heap.size):∀(j:Nat)(u:Value),[a,b][j]? =some u->(w.alloc (.cells #[a,b] t)).cell? ((⟨r,0,none⟩:Addr).add j)=some u:=by
 subst hr;intro j u hj;have rH:j<2:=by
  rcases Nat.lt_or_ge j 2 with h|h
  ·exact h
  ·rw[List.getElem?_eq_none (by simpa using h)]at hj;cases hj
 rw[wY];exact(Row.new w #[a,b] t).cell (by simpa using hj)
theorem AB(a b:Int):∀u:Value,u∈[Value.int .i64 a,Value.int .i64 b]->u.oneCell'=true:=by
 intro u hu;simp at hu;rcases hu with rfl|rfl<;>rfl
theorem xy(w1:World)(r:Nat)(u v:Value):Wr (λk=>k=r) w1 ((w1.setCell ⟨r,0,none⟩ u).setCell ⟨r,1,none⟩ v):=
 (Wr.cell1 w1 r 0 u).trans (Wr.cell1 _ r 1 v) (λ_ h=>aK h)
structure iD (ai:Nat) (own:Nat->Prop) (fb tb:Nat) (lv:Value):Prop where
 fb:¬own fb/\ai<=fb
 tb:¬own tb/\ai<=tb
 lv:∀g,lv.ownBlock=some g->¬own g/\ai<=g
theorem tK.set{cs:Array Value}{l:List V}(h:tK cs l)(k:Nat)(v:V):tK ((cs.setIfInBounds (k*2) (.int .i64 v.obj)).setIfInBounds (k*2+1) (.int .i64 v.n)) (l.set k v):=by
 obtain⟨h0,h1⟩:=h;refine⟨by simp[h0],λj u hj=>?_⟩;by_cases e:k=j
 ·subst e;have hk:k<l.length:=by
   rcases Nat.lt_or_ge k l.length with h|h
   ·exact h
   ·rw[List.getElem?_eq_none (by simpa using h)]at hj;cases hj
  rw[List.getElem?_set_self hk]at hj;injection hj with hj;subst hj;refine⟨?_,?_⟩
  ·rw[Array.getElem?_setIfInBounds_ne (by omega),Array.getElem?_setIfInBounds_self_of_lt (by omega)]
  ·rw[Array.getElem?_setIfInBounds_self_of_lt (by simp;omega)]
 ·rw[List.getElem?_set_ne e]at hj;obtain⟨a,b⟩:=h1 j u hj;refine⟨?_,?_⟩
  ·rw[Array.getElem?_setIfInBounds_ne (by omega),Array.getElem?_setIfInBounds_ne (by omega)];exact a
  ·rw[Array.getElem?_setIfInBounds_ne (by omega),Array.getElem?_setIfInBounds_ne (by omega)];exact b
theorem iG.set{w:World}{b:Nat}{l:List V}(h:iG w b l)(k:Nat)(v:V):iG ((w.setCell ⟨b,k*2,none⟩ (.int .i64 v.obj)).setCell ⟨b,k*2+1,none⟩ (.int .i64 v.n)) b (l.set k v):=by
 obtain⟨cs,hr,hv⟩:=h;exact⟨_,(hr.set _ _).set _ _,hv.set k v⟩
theorem gI(w1:World)(r j k:Nat)(u v:Value):Wr (λb=>b=r) w1 ((w1.setCell ⟨r,j,none⟩ u).setCell ⟨r,k,none⟩ v):=
 (Wr.cell1 w1 r j u).trans (Wr.cell1 _ r k v) (λ_ h=>aK h)
theorem nJ{ah n:Int}{s:St}(h:(aL ah n s).1=true):s.kind=0/\¬n>ah-s.steps/\(aL ah n s).2={s with steps:=s.steps+n}:=by
 unfold aL at h ⊢;by_cases h0:s.kind=0
 ·rw[if_pos h0]at h ⊢;by_cases h1:n>ah-s.steps
  ·rw[if_pos h1]at h;cases h
  ·rw[if_neg h1];exact⟨h0,h1,rfl⟩
 ·rw[if_neg h0]at h;cases h
theorem xE(ah n:Int)(s:St):(aL ah n s).2.mem=s.mem:=by
 unfold aL
 (repeat' split)<;>rfl
theorem CU{w:World}{ai:Nat}{v:Value}{l:List V}{k:Nat}(h:w.ownsRow ai 75 2 v k (cU l))(hk:l.length=k)(hp:0<k):∃g aA,v= .slice (some ⟨g,0,none⟩) k aA/\ai<=g/\g<w.heap.size/\∀j x,l[j]? =some x->bJ w g (j*2) x:=by
 subst hk;obtain⟨g,aA,h0,h1,h2,h3⟩:=Ek h hp;exact⟨g,aA,h0,h1,h2,λj x hj=>by simpa using h3 j x hj⟩
theorem Nk{R:bT}{ah:Int}{lo:List Nat}{s s':St}{tp:List V}{x:qC}{l:List V}(h:(aL ah 1 s).1=true)(h2:(aL ah 1 s).2=s')(he:cF s.mem tp lo x.args=some l):oz R ah lo s tp x=kX R s' tp x l:=by
 have hm:=xE ah 1 s;unfold oz;rw[if_neg (by rw[h];simp),hm,he,h2]
theorem uB.tail{w:World}{ai:Nat}{b off aA q:Nat}{x:Int}{l:List Int}(h:∀j y,(x::l)[j]? =some y->w.cell? ⟨b,off+j,none⟩=some (.int .i64 y)/\In64 y)(hb:b<ai)(hq:q=l.length)(h1:q+1<=aA)(h2:aA<=9223372036854775807):
  uB w ai (.slice (some ⟨b,off+1,none⟩) q (aA-1)) l:=by
 subst hq;exact⟨_,_,rfl,by omega,by omega,λ_=>⟨b,off+1,rfl,hb,λj y hj=>by have:=h (j+1) y (by simpa using hj);rw[show off+1+j=off+(j+1) by omega];exact this⟩⟩
theorem uB.empty{w:World}{ai:Nat}{A:Option Addr}:uB w ai (.slice A 0 0) []:=⟨A,0,rfl,by simp,by omega,λh=>by simp at h⟩
theorem Gk(c i:Nat)(h:i<c*2):(madeCells (Value.agg #[.int .i64 0,.int .i64 0]).cells (c*2))[i]? =some (.int .i64 0):=by
 have e:(Value.agg #[Value.int .i64 0,Value.int .i64 0]).cells=#[.int .i64 0,.int .i64 0]:=by kernel_rfl
 rw[e];unfold madeCells;rw[Array.getElem?_map,Array.getElem?_range,if_pos h];rcases Nat.mod_two_eq_zero_or_one i with h|h<;>simp[h]
theorem MH(c:Nat):tK (madeCells (Value.agg #[.int .i64 0,.int .i64 0]).cells (c*2)) (List.replicate c ⟨0,0⟩):=by
 refine⟨by rw[size_madeCells];simp,λj v hj=>?_⟩;have hlt:j<c:=by
  rcases Nat.lt_or_ge j c with h|h
  ·exact h
  ·rw[List.getElem?_eq_none (by simpa using h)]at hj;cases hj
 rw[List.getElem?_replicate,if_pos hlt]at hj;injection hj with hj;subst hj;exact⟨Gk c _ (by omega),Gk c _ (by omega)⟩
theorem o8(ct:Nat)(h:ct<=1000000):∃Z:Array Value,tK Z (List.replicate ct ⟨0,0⟩)/\∀W:World,(Instr.makeSlice 67 (.int .i64 ct) (.int .i64 ct)).run prog W= .ok (.slice (some ⟨W.heap.size,0,none⟩) ct ct) (W.alloc (.cells Z 75)):=by
 obtain⟨i0,hi,hz0,hz1,hz2⟩:=info_parts vG;refine⟨_,MH ct,λW=>?_⟩;have:=run_make (P:=prog) W 67 75 i0 _ underlying67 hi hz0 .i64 .i64 ct ct (by omega) (by omega) (by rw[hz2];omega) (by omega);rw[hz1]at this;simpa using this
def ku(o:kH)(k:Nat):List V:=(List.range o.count.toNat).map λi=>⟨0,if i<k then eA o.size.toNat (o.init.getD i 0)else 0⟩
theorem pL(o:kH):ku o 0=List.replicate o.count.toNat ⟨0,0⟩:=by
 apply List.ext_getElem?;intro i;unfold ku;by_cases h:i<o.count.toNat
 ·simp[h]
 ·simp[h]
theorem xV(o:kH):ku o o.init.length=mN o:=by
 unfold ku mN;apply List.map_congr_left;intro i _;by_cases h:i<o.init.length
 ·rw[if_pos h,List.getD_eq_getElem?_getD,List.getElem?_eq_getElem h];rfl
 ·rw[if_neg h,List.getElem?_eq_none (by omega)]
theorem uT(o:kH)(k:Nat)(hk:k<o.count.toNat):(ku o k).set k ⟨0,eA o.size.toNat (o.init.getD k 0)⟩=ku o (k+1):=by
 apply List.ext_getElem?;intro i;unfold ku;by_cases e:k=i
 ·subst e;rw[List.getElem?_set_self (by simpa using hk)];simp[hk]
 ·rw[List.getElem?_set_ne e];by_cases h:i<o.count.toNat
  ·simp[h];have:(i<k)↔(i<k+1):=by omega
   simp[this]
  ·simp[h]
theorem wM(o:kH)(k:Nat):(ku o k).length=o.count.toNat:=by simp[ku]
theorem xU(o:kH)(k:Nat)(hk:k<o.count.toNat):(ku o k)[k]? =some ⟨0,0⟩:=by simp[ku,hk]
theorem iG.Uy{w:World}{b:Nat}{l:List V}(h:iG w b l)(k:Nat)(v:V)(n:Int)(hv:l[k]? =some v):iG (w.setCell ⟨b,k*2+1,none⟩ (.int .i64 n)) b (l.set k ⟨v.obj,n⟩):=by
 obtain⟨cs,hr,h0,h1⟩:=h;refine⟨_,hr.set _ _,by simp[h0],λj u hj=>?_⟩;have hk:k<l.length:=by
  rcases Nat.lt_or_ge k l.length with h|h
  ·exact h
  ·rw[List.getElem?_eq_none h]at hv;cases hv
 by_cases e:k=j
 ·subst e;rw[List.getElem?_set_self hk]at hj;injection hj with hj;subst hj;exact⟨by rw[Array.getElem?_setIfInBounds_ne (by omega)];exact(h1 k v hv).1,by rw[Array.getElem?_setIfInBounds_self_of_lt (by omega)]⟩
 ·rw[List.getElem?_set_ne e]at hj;obtain⟨a,b⟩:=h1 j u hj;exact⟨by rw[Array.getElem?_setIfInBounds_ne (by omega)];exact a,by rw[Array.getElem?_setIfInBounds_ne (by omega)];exact b⟩
theorem qg.wr{w w':World}{ai:Nat}{own F:Nat->Prop}{aU:Value}{rb:Nat->Nat}{M:List MO}(h:qg w ai own aU rb M)(ho:∀g,aU.ownBlock=some g->own g)(hw:Wr F w w')(hF:∀k,F k->¬own k):qg w' ai own aU rb M:=by
 obtain⟨⟨xs,hx,qO⟩,hm,hi,hk⟩:=h;refine⟨⟨xs,aF hx hw (λg hg hf=>hF g hf (ho g hg)),qO⟩,λk o h1 ho'=>?_,hi,hk⟩;obtain⟨h2,cs,hr,hv⟩:=hm k o h1 ho';exact⟨h2,cs,hr.wr hw (λhf=>hF _ hf h2),hv⟩
theorem kW.mono{n m:Nat}{v:V}(h:kW n v)(hm:n<=m):kW m v:=⟨by have:=h.1;omega,h.2⟩
theorem Ng(o:kH)(hi:∀x,x∈o.init->In64 x)(v:V)(hv:v∈mN o):v.obj=0/\In64 v.n:=by
 unfold mN at hv;simp only[List.mem_map,List.mem_range]at hv;obtain⟨i,_,rfl⟩:=hv;refine⟨rfl,?_⟩;simp only;split
 ·rename_i n hn;exact s6 (hi n (List.mem_of_getElem? hn))
 ·unfold In64;omega
theorem vO{M:List MO}(h:cQ M)(o:kH)(hs:o.size=1\/o.size=2\/o.size=4\/o.size=8)(hc:o.count.toNat<=64)(hi:∀x,x∈o.init->In64 x)(hm:(au M).length+1<=4294967296):cQ (gP M o):=by
 rw[j4];have hb:=uL h;have hp:=cZ M;refine⟨by simpa using hm,λx hx=>?_,λk x hk hx=>?_,λx hx v hv=>?_⟩
 ·rw[List.getElem?_append_left hp]at hx;exact hb.zero x hx
 ·rcases Nat.lt_or_ge k (au M).length with h|h
  ·rw[List.getElem?_append_left h]at hx;exact hb.size k x hk hx
  ·rw[List.getElem?_append_right h]at hx;rcases Nat.lt_or_ge (k-(au M).length) 1 with h'|h'
   ·rw[show k-(au M).length=0 by omega]at hx;simp at hx;subst hx;exact⟨hs,by simp[mN];omega⟩
   ·rw[List.getElem?_eq_none (by simpa using h')]at hx;cases hx
 ·rw[List.length_append];simp only[List.mem_append,List.mem_singleton]at hx;rcases hx with hx|rfl
  ·exact(hb.vals x hx v hv).mono (by omega)
  ·obtain⟨h0,h1⟩:=Ng o hi v hv;exact⟨by omega,λh=>absurd h0 h,h1⟩
theorem qg.push{w w':World}{ai:Nat}{own own':Nat->Prop}{aU iL:Value}{rb:Nat->Nat}{M:List MO}{o:MO}{ob:Nat}{xs:List Value}(h:qg w ai own aU rb M)(hpos:0<M.length)
  (hxs:∀k x,M[k]? =some x->uA xs rb k x)(hlen:xs.length=M.length*3)
  (hown:w'.ownsRow ai 116 3 iL (M.length+1) (xs++[.int .i64 o.size,.slice (some ⟨ob,0,none⟩) o.l.length o.l.length,.bool o.live]))
  (DG:∀k x,1<=k->M[k]? =some x->iG w' (rb k) x.l)(ja:iG w' ob o.l)(hnew:¬own ob)(h1:∀k,own k->own' k)(h2:own' ob)(hok:cQ (M++[o])):
  qg w' ai own' iL (λk=>if k=M.length then ob else rb k) (M++[o]):=by
 have hget:∀k x,(M++[o])[k]? =some x->(k<M.length/\M[k]? =some x)\/(k=M.length/\x=o):=by
  intro k x hx;rcases Nat.lt_or_ge k M.length with h|h
  ·rw[List.getElem?_append_left h]at hx;exact aK ⟨h,hx⟩
  ·rw[List.getElem?_append_right h]at hx;rcases Nat.lt_or_ge (k-M.length) 1 with h'|h'
   ·rw[show k-M.length=0 by omega]at hx;simp at hx;exact bu ⟨by omega,hx.symm⟩
   ·rw[List.getElem?_eq_none (by simpa using h')]at hx;cases hx
 refine⟨⟨_,by rw[List.length_append];exact hown,λk x hx=>?_⟩,λk x hk hx=>?_,λi j hi1 hi2 xP rH he=>?_,hok⟩
 ·rcases hget k x hx with⟨hlt,hx⟩|⟨rfl,rfl⟩
  ·obtain⟨a,b,c⟩:=hxs k x hx;unfold uA;rw[List.getElem?_append_left (by omega),List.getElem?_append_left (by omega),List.getElem?_append_left (by omega)];simp only[if_neg (show¬k=M.length by omega)];exact⟨a,b,c⟩
  ·unfold uA;rw[List.getElem?_append_right (by omega),List.getElem?_append_right (by omega),List.getElem?_append_right (by omega),hlen];simp only[if_neg (show¬M.length=0 by omega),if_true];rw[show M.length*3-M.length*3=0 by omega,show M.length*3+1-M.length*3=1 by omega,show M.length*3+2-M.length*3=2 by omega];exact⟨rfl,rfl,rfl⟩
 ·rcases hget k x hx with⟨hlt,hx⟩|⟨rfl,rfl⟩
  ·rw[if_neg (by omega:¬k=M.length)];exact⟨h1 _ (h.mine k x hk hx).1,DG k x hk hx⟩
  ·rw[if_pos rfl];exact⟨h2,ja⟩
 ·simp only[List.length_append,List.length_singleton]at hi2 rH;have su:∀k,1<=k->k<M.length->own (rb k):=λk h1 h2=>(h.mine k _ h1 (List.getElem?_eq_getElem h2)).1;by_cases ei:i=M.length<;>by_cases ej:j=M.length
  ·omega
  ·rw[if_pos ei,if_neg ej]at he;exact absurd (he▸su j xP (by omega)) hnew
  ·rw[if_neg ei,if_pos ej]at he;exact absurd (he▸su i hi1 (by omega)) hnew
  ·rw[if_neg ei,if_neg ej]at he;exact h.inj i j hi1 (by omega) xP (by omega) he
theorem qg.first{w w':World}{ai:Nat}{own own':Nat->Prop}{aU iL:Value}{rb:Nat->Nat}(h:qg w ai own aU rb [])
  (hown:w'.ownsRow ai 116 3 iL 1 [.int .i64 0,.slice none 0 0,.bool false]):qg w' ai own' iL rb (au []):=by
 unfold au;rw[if_pos rfl];refine⟨⟨_,hown,λk x hx=>?_⟩,λk x hk hx=>?_,λi j hi1 hi2 xP rH he=>?_,?_⟩
 ·cases k with
  |zero=>simp at hx;subst hx;exact⟨rfl,rfl,rfl⟩
  |succ k=>rw[List.getElem?_eq_none (by simp)]at hx;cases hx
 ·rw[List.getElem?_eq_none (by simp;omega)]at hx;cases hx
 ·simp at hi2 rH;omega
 ·have:=uL h.ok;unfold au at this;rw[if_pos rfl]at this;exact this
def eI(M:List MO):Prop:=∀o,o∈M->o.size≠8->∀v,v∈o.l->v.obj=0
structure GInv (ah:Int) (s:St):Prop where
 kind:s.kind=0
 lo:0<=s.steps
 hi:s.steps<=ah
 many:(au s.mem).length<=20+s.steps.toNat
 outs:s.out.length<=s.steps.toNat
 calls:0<=s.calls
 deep:0<=s.deep
 inp:∀x,x∈s.inp->In64 x
 mem:cQ (au s.mem)
 num:eI (au s.mem)
structure nC (ah:Int) (s s':St):Prop where
 inv:GInv ah s'
 calls:s'.calls=s.calls
 grow:(au s.mem).length<=(au s'.mem).length
 steps:s.steps<=s'.steps
theorem nC.refl{ah:Int}{s:St}(h:GInv ah s):nC ah s s:=⟨h,rfl,aY _,Int.le_refl _⟩
theorem nC.trans{ah:Int}{a b c:St}(h:nC ah a b)(k:nC ah b c):nC ah a c:=⟨k.inv,k.calls.trans h.calls,Nat.le_trans h.grow k.grow,Int.le_trans h.steps k.steps⟩
theorem GInv.tick{ah n:Int}{s:St}(h:GInv ah s)(hn:0<=n)(hy:(aL ah n s).1=true):(aL ah n s).2={s with steps:=s.steps+n}/\GInv ah {s with steps:=s.steps+n}:=by
 obtain⟨_,h1,h2⟩:=nJ hy;have:=h.lo;have:=h.many;have:=h.outs;exact⟨h2,h.kind,by show 0<=s.steps+n;omega,by show s.steps+n<=ah;omega,by show(au s.mem).length<=20+(s.steps+n).toNat;omega,by show s.out.length<=(s.steps+n).toNat;omega,h.calls,h.deep,h.inp,h.mem,h.num⟩
theorem GInv.step1{ah:Int}{s:St}(h:GInv ah s)(hle:s.steps+1<=ah):GInv ah {s with steps:=s.steps+1}:=by
 have:=h.lo;have:=h.many;have:=h.outs;exact⟨h.kind,by show 0<=s.steps+1;omega,hle,by show(au s.mem).length<=20+(s.steps+1).toNat;omega,by show s.out.length<=(s.steps+1).toNat;omega,h.calls,h.deep,h.inp,h.mem,h.num⟩
def j3(n:Int):Bool:=decide (n=1\/n=2\/n=4\/n=8)
def oO(n a b:Int):Bool:=decide (a<=n/\n<=b)
def mG(n b:Int):Bool:=decide (0<=n/\n<=b)
theorem FK(n:Int)(w:World):
  Calls prog 35 #[.int .i64 n] w λe w'=>e= .returned (.bool (j3 n))/\w=w':=by
 unfold j3;by_cases h1:n=1
 ·subst h1;go_enter func35,ntmps35;go_wp2;go_ret;exact⟨rfl,rfl⟩
 by_cases h2:n=2
 ·subst h2;go_enter func35,ntmps35;go_wp2;go_ret;exact⟨rfl,rfl⟩
 by_cases h3:n=4
 ·subst h3;go_enter func35,ntmps35;go_wp2;go_ret;exact⟨rfl,rfl⟩
 have e1:(n==1)=false:=by simpa using h1
 have e2:(n==2)=false:=by simpa using h2
 have e3:(n==4)=false:=by simpa using h3
 have HE:=ae (show decide (n=1\/n=2\/n=4\/n=8)=(n==8) by rw[Bool.eq_iff_iff];simp[h1,h2,h3]);clear h1 h2 h3;go_enter func35,ntmps35;go_wp2;go_ret;exact⟨iB HE.symm,rfl⟩
theorem tG(n a b:Int)(w:World):
  Calls prog 20 #[.int .i64 n,.int .i64 a,.int .i64 b] w λe w'=>e= .returned (.bool (oO n a b))/\w=w':=by
 unfold oO;by_cases h1:a<=n
 ·have HE:=ae (show decide (a<=n/\n<=b)=decide (n<=b) by rw[Bool.eq_iff_iff];simp[h1]);go_enter func20,ntmps20;go_wp2;go_ret;exact⟨iB HE.symm,rfl⟩
 ·have hd:decide (a<=n)=false:=by simpa using h1
  have HE:=ae (show decide (a<=n/\n<=b)=false by simp;omega);rw[HE.out];go_enter func20,ntmps20;go_wp2;go_ret;exact⟨rfl,rfl⟩
theorem oQ(n b:Int)(w:World):
  Calls prog 12 #[.int .i64 n,.int .i64 b] w λe w'=>e= .returned (.bool (mG n b))/\w=w':=by
 unfold mG;by_cases h1:0<=n
 ·have HE:=ae (show decide (0<=n/\n<=b)=decide (n<=b) by rw[Bool.eq_iff_iff];simp[h1]);go_enter func12,ntmps12;go_wp2;go_ret;exact⟨iB HE.symm,rfl⟩
 ·have hd:decide (0<=n)=false:=by simpa using h1
  have HE:=ae (show decide (0<=n/\n<=b)=false by simp;omega);rw[HE.out];go_enter func12,ntmps12;go_wp2;go_ret;exact⟨rfl,rfl⟩
def Lq(o:kH):Bool:=j3 o.size && oO o.count 1 64 && !decide ((o.init.length:Int)>o.count)
def pY:List kH->Bool
 |[]=>true
 |o::l=>Lq o && pY l
def fR(l:List kH)(most:Int):Bool:=pY l && decide ((l.length:Int)<=most)
theorem s8{P:Program}{ops:Array Oper}{w:World}{Q:Act->Prop}:∀{l:List Oper}{a:Act},wpQuiet P ops (λw'=>w'=w) Q l a->wpStill P ops w Q l a:=by
 intro l
 induction l with
 |nil=>intro a h;exact h
 |cons o rest ih=>
  intro a h;unfold wpQuiet at h;unfold wpStill;split
  ·rename_i hw;rw[if_pos hw]at h;obtain⟨v,h1,h2⟩:=h;have h3:=h1 w rfl;unfold Oper.quietAt at h3;unfold Oper.still;generalize (execOp a.eval o).run P w=r at*;cases r with
   |ok n w'=>
    cases n<;>simp only[Oper.quietUpon]at h3<;>simp only[Oper.stillUpon]
    case value u=>obtain⟨e1,e2⟩:=h3;subst e2;exact⟨e1,ih h2⟩
    case skip=>obtain⟨e1,e2⟩:=h3;subst e2;exact⟨e1,ih h2⟩
    case enter f args=>exact⟨h3.1,v,h3.2,ih h2⟩
   |halt x w'=>simp only[Oper.quietUpon]at h3
  ·rename_i hw;rw[if_neg hw]at h;exact ih h
theorem aX{P:Program}{id:Nat}{Q:Exit->Act->World->Prop}{a:Act}{w:World}{l:List Oper}(n:Nat)(hm:P.follows .mixedOrders=true)(hB:Region.lexTailB .any l.toArray n=true)
  (h:wpQuiet P l.toArray (λw'=>w'=w.drew) (λa'=>wpList P l.toArray Q (l.drop n) a' w.drew) (l.take n) a):(Code.region id l.toArray true).wp P Q a w:=
 nI n hm hB (s8 h)
theorem Xu{P:Program}{c:Code}{a:Act}{w:World}{R:Exit->Act->World->Prop}(h:∀Q:Exit->Act->World->Prop,(∀e a w,R e a w->Q e a w)->Code.wp P c Q a w):Code.wp P c R a w:=
 h R (λ_ _ _ h=>h)
theorem aj{P:Program}{c:Code}{a:Act}{w:World}{R:Exit->Act->World->Prop}(h:∀Q:Exit->Act->World->Prop,Hid (∀e a w,R e a w->Q e a w)->Code.wp P c Q a w):Code.wp P c R a w:=h R (λ_ _ _ h=>h)
theorem Wr.bR{F:Nat->Prop}{w w1:World}(h:Wr F w w1):Wr F w w1.drew:=h.trans (eW (aV _ _).drew) (λ_ h=>h.elim)
theorem Wr.bH{F:Nat->Prop}{w w1:World}(h:Wr F w w1)(o:Obj):Wr F w (w1.alloc o):=h.trans (eW (ax w1 o)) (λ_ h=>h.elim)
theorem Wr.cJ{F:Nat->Prop}{w w1:World}(h:Wr F w w1)(r j:Nat)(v:Value)(hF:F r\/w.heap.size<=r):Wr F w (w1.setCell ⟨r,j,none⟩ v):=
 h.trans (Wr.setCell (F:=λb=>b=r) w1 ⟨r,j,none⟩ v rfl) (λ_ h=>h▸hF)
end Go.Proofs.YtinmgbodgecoeaaGreat
namespace Go.Proofs.YtinmgbodgecoeaaGreat
open Go.RowKit
section
variable {P:Program} {ops:Array Oper} {md:Region.Mode} {C:World->Prop}
end
end Go.Proofs.YtinmgbodgecoeaaGreat
namespace Go.Proofs.YtinmgbodgecoeaaGreat
open Go.RowKit
def iI(n:Nat)(listed:Array Bool):Nat:=((List.range n).filter λj=>!listed.getD j true).length
theorem wL{α:Type}{p q:α->Bool}:∀(l:List α),(∀x,q x=true->p x=true)->(l.filter q).length<=(l.filter p).length
 |[],_=>by simp
 |x::l,h=>by
  have ih:=wL l h;cases hq:q x
  ·rw[List.filter_cons_of_neg (by simp[hq])];cases hp:p x
   ·rw[List.filter_cons_of_neg (by simp[hp])];exact ih
   ·rw[List.filter_cons_of_pos hp];simp;omega
  ·rw[List.filter_cons_of_pos hq,List.filter_cons_of_pos (h x hq)];simpa using ih
theorem wK{α:Type}{p q:α->Bool}:∀(l:List α)(y:α),(∀x,q x=true->p x=true)->y∈l->p y=true->q y=false->(l.filter q).length<(l.filter p).length
 |[],y,_,hy,_,_=>by simp at hy
 |x::l,y,h,hy,hp,hq=>by
  by_cases hxy:x=y
  ·subst hxy;rw[List.filter_cons_of_pos hp,List.filter_cons_of_neg (by simp[hq])];have:=wL l h;simp;omega
  ·have hy':y∈l:=by rcases List.mem_cons.1 hy with h|h;exact absurd h.symm hxy;exact h
   have ih:=wK l y h hy' hp hq;cases hq':q x
   ·rw[List.filter_cons_of_neg (by simp[hq'])];cases hp':p x
    ·rw[List.filter_cons_of_neg (by simp[hp'])];exact ih
    ·rw[List.filter_cons_of_pos hp'];simp;omega
   ·rw[List.filter_cons_of_pos hq',List.filter_cons_of_pos (h x hq')];simpa using ih
theorem oP{n i:Nat}{listed:Array Bool}(hi:i<n)(h:listed.getD i true=false):iI n (listed.setIfInBounds i true)<iI n listed:=by
 refine wK _ i (λx hx=>?_) (List.mem_range.2 hi) (by simp[h]) ?_
 ·by_cases hxi:i=x
  ·subst hxi;simp[h]
  ·rw[getD_set_ne true hxi]at hx;exact hx
 ·have hlt:i<listed.size:=by
   rcases Nat.lt_or_ge i listed.size with h'|h'
   ·exact h'
   ·simp[Array.getD,Nat.not_lt.2 h']at h
  simp[Array.getD,hlt]
theorem Dn{P:Program}{md:Region.Mode}{ops:Array Oper}{Q:Exit->Act->World->Prop}(Inv:Array Bool->Act->World->Prop)
  (hstep:∀listed a w i,i∈Region.ready md ops listed->Inv listed a w->wpOp P ops Q i (λa' w'=>Inv (listed.setIfInBounds i true) a' w') a w)
  (hend:∀listed a w,Region.ready md ops listed=[]->Inv listed a w->Q .normal a w):
  ∀(ah:Nat)(listed:Array Bool)(a:Act)(w:World),iI ops.size listed<=ah->Inv listed a w->wpAny P md ops Q ah listed a w
 |0,listed,a,w,hf,h=>by
  have hr:Region.ready md ops listed=[]:=by
   cases hr:Region.ready md ops listed with
   |nil=>rfl
   |cons i l=>
    have hm:i∈Region.ready md ops listed:=by rw[hr];simp
    obtain⟨h1,o,ho,_⟩:=mem_ready.1 hm;have hlt:i<ops.size:=by
     rcases Nat.lt_or_ge i ops.size with h'|h'
     ·exact h'
     ·rw[Array.getElem?_eq_none h']at ho;cases ho
    have:=oP hlt h1;omega
  exact⟨hr,hend listed a w hr h⟩
 |ah+1,listed,a,w,hf,h=>by
  refine⟨λhr=>hend listed a w hr h,λi hi=>?_⟩;obtain⟨h1,o,ho,_⟩:=mem_ready.1 hi;have hlt:i<ops.size:=by
   rcases Nat.lt_or_ge i ops.size with h'|h'
   ·exact h'
   ·rw[Array.getElem?_eq_none h']at ho;cases ho
  have hu:=oP hlt h1;exact wpOp_mono (λa' w' h'=>Dn Inv hstep hend ah _ a' w' (by omega) h') (hstep listed a w i hi h)
theorem jZ{P:Program}{id:Nat}{Q:Exit->Act->World->Prop}{a:Act}{w:World}{l:List Oper}(hm:P.follows .mixedOrders=true)(Inv:Array Bool->Act->World->Prop)
  (h0:Inv (Array.replicate l.toArray.size false) a w.drew)
  (hstep:∀listed a w i,i∈Region.ready .any l.toArray listed->Inv listed a w->wpOp P l.toArray Q i (λa' w'=>Inv (listed.setIfInBounds i true) a' w') a w)
  (hend:∀listed a w,Region.ready .any l.toArray listed=[]->Inv listed a w->Q .normal a w):(Code.region id l.toArray true).wp P Q a w:=
 wp_region_any hm (Dn Inv hstep hend _ _ _ _ (by unfold iI;exact Nat.le_trans (List.length_filter_le _ _) (by simp)) h0)
theorem SJ{md:Region.Mode}{ops:Array Oper}{L:Array Bool}{j:Nat}{o:Oper}(hj:j<L.size)(hr:Region.ready md ops L=[])(ho:ops[j]? =some o)(hd:∀e∈o.after,L.getD e.on false=true):L.getD j false=true:=by
 cases h:L.getD j true with
 |false=>
  have:j∈Region.ready md ops L:=mem_ready.2 ⟨h,o,ho,λe he _=>hd e he⟩;rw[hr]at this;cases this
 |true=>simp[Array.getD,hj]at h ⊢;exact h
theorem ak{P:Program}{ops:Array Oper}{Q:Exit->Act->World->Prop}{i:Nat}{o:Oper}{a:Act}{w:World}{K:Act->World->Prop}(ho:ops[i]? =some o)(hg:o.guard=none)
  (h:∀K':Act->World->Prop,(∀a w,K a w->K' a w)->o.wp P a w K' Q):wpOp P ops Q i K a w:=by
 unfold wpOp;rw[ho];simp only;rw[if_pos (by simp[Region.wanted,hg])];exact aK (h K (λ_ _ h=>h))
def upd(Y:Nat->Value)(i:Nat)(v:Value):Nat->Value:=λj=>if j=i then v else Y j
theorem fE(Y:Nat->Value)(i:Nat)(v:Value):upd Y i v i=v:=by simp[upd]
theorem upd_ne(Y:Nat->Value){i j:Nat}(v:Value)(h:j≠i):upd Y i v j=Y j:=by simp[upd,h]
theorem bO{L:Array Bool}{i j:Nat}(h:(L.setIfInBounds i true).getD j false=true):j=i\/L.getD j false=true:=by
 by_cases hij:i=j
 ·exact aK hij.symm
 ·rw[getD_set_ne false hij]at h;exact bu h
theorem Mg{P:Program}{id:Nat}{Q:Exit->Act->World->Prop}{a:Act}{w:World}{l:List Oper}(hm:P.follows .mixedOrders=true)(Cl:World->Nat->Value->Prop)(mk:(Nat->Value)->Act)(Y0:Nat->Value)(ha:a=mk Y0)
  (hback:l.zipIdx.all (λx=>x.1.after.all λe=>decide (e.on<x.2))=true)
  (hmono:∀W W' i v,Below W.heap.size W W'->Cl W i v->Cl W' i v)
  (hstep:∀i o Y W,l[i]? =some o->Below w.heap.size w W->(∀e∈o.after,Region.binds .any e=true->Cl W e.on (Y e.on))->∀K:Act->World->Prop,(∀v W',Below W.heap.size W W'->Cl W' i v->K (mk (upd Y i v)) W')->wpOp P l.toArray Q i K (mk Y) W)
  (hend:∀Y W,Below w.heap.size w W->(∀i,i<l.length->Cl W i (Y i))->Q .normal (mk Y) W):(Code.region id l.toArray true).wp P Q a w:=by
 refine jZ hm (λL act W=>L.size=l.length/\∃Y,act=mk Y/\Below w.heap.size w W/\∀i,L.getD i false=true->Cl W i (Y i)) ?_ ?_ ?_
 ·refine⟨by simp,Y0,ha,(aV _ _).drew,λj h=>?_⟩;rcases Nat.lt_or_ge j l.length with hj|hj
  ·simp[Array.getD,hj]at h
  ·simp[Array.getD,Nat.not_lt.2 hj]at h
 ·rintro L act W i hi ⟨hsz,Y,rfl,hb,hc⟩;obtain⟨hn,o,ho,hall⟩:=mem_ready.1 hi;refine hstep i o Y W (by simpa using ho) hb (λe he gX=>hc _ (hall e he gX)) _ (λv W' hb' hv=>⟨by simp[hsz],upd Y i v,rfl,hb.trans (hb'.mono hb.size),λj hj=>?_⟩);by_cases oN:j=i
  ·subst oN;rw[fE];exact hv
  ·rw[upd_ne Y v oN];exact hmono _ _ _ _ hb' (hc j ((bO hj).resolve_left oN))
 ·rintro L act W hr ⟨hsz,Y,rfl,hb,hc⟩;refine hend Y W hb ?_;have key:∀n i,i<n->i<l.length->L.getD i false=true:=by
   intro n
   induction n with
   |zero=>intro i h;omega
   |succ n ih=>
    intro i hin hil;refine SJ (j:=i) (by omega) hr (by simp[hil];rfl) (λe he=>?_);have hlt:e.on<i:=by
     have hx:=List.all_eq_true.1 hback (l[i],i) (List.mem_iff_getElem?.2 ⟨i,by simp[hil]⟩);exact of_decide_eq_true ((Array.all_eq_true_iff_forall_mem.1 hx) e he)
    exact ih e.on (by omega) (by omega)
  exact λi hi=>hc i (key (i+1) i (by omega) hi)
theorem qH{P:Program}{md:Region.Mode}{ops:Array Oper}{Q':Exit->Act->World->Prop}(m:Nat):∀(l:List Oper)(k:Nat)(listed:Array Bool)(a:Act)(w:World),(∀j,l[j]? =ops[k+j]?)->
  Region.seqB md ops l.length k listed=true->wpList P ops Q' l a w->wpAny P md ops Q' (l.length+m) listed a w
 |[],_,listed,_,_,_,hB,h=>by
  have hr:Region.ready md ops listed=[]:=by simpa [Region.seqB]using hB
  cases m with
  |zero=>exact⟨hr,h⟩
  |succ m=>
   rw[show([]:List Oper).length+(m+1)=m+1 by simp];exact⟨λ_=>h,λi hi=>by rw[hr]at hi;cases hi⟩
 |o::l,k,listed,a,w,hl,hB,h=>by
  have h0:ops[k]? =some o:=by simpa using(hl 0).symm
  simp only[List.length_cons,Region.seqB,Bool.and_eq_true,decide_eq_true_eq]at hB;rw[show(o::l).length+m=(l.length+m)+1 by simp;omega];refine⟨λh1=>(by rw[hB.1]at h1;cases h1),λi hi=>?_⟩;rw[hB.1]at hi;have hik:i=k:=by simpa using hi
  subst hik;have hw:wpOp P ops Q' i (wpList P ops Q' l) a w:=by unfold wpOp;simp only[h0];exact h
  exact wpOp_mono (λa' w' h'=>qH m l (i+1) _ a' w' (λj=>by have:=hl (j+1);simpa [Nat.add_assoc,Nat.add_comm 1 j]using this) hB.2 h') hw
def DU(l:List Oper):Bool:=l.zipIdx.all (λx=>x.1.after.all λe=>!Region.binds .any e||decide (e.on<x.2))
theorem wS{l:List Oper}(hback:DU l=true){i:Nat}{o:Oper}(ho:l[i]? =some o){e:Edge}(he:e∈o.after)(gX:Region.binds .any e=true):e.on<i:=by
 have hx:=List.all_eq_true.1 hback (o,i) (List.mem_iff_getElem?.2 ⟨i,by simp[ho]⟩);have hy:=(Array.all_eq_true_iff_forall_mem.1 hx) e he;rw[gX]at hy;simpa using hy
theorem FT{l:List Oper}{listed:Array Bool}(hback:DU l=true)(hsz:listed.size=l.length):∀(n:Nat),n<=l.length->(∃j,j<n/\listed.getD j false=false)->Region.ready .any l.toArray listed≠[]
 |0,_,⟨j,h,_⟩=>by omega
 |n+1,hn,⟨j,hj,hf⟩=>by
  by_cases he:∃j,j<n/\listed.getD j false=false
  ·exact FT hback hsz n (by omega) he
  ·have hjn:j=n:=by
    rcases Nat.lt_or_ge j n with h|h
    ·exact absurd ⟨j,h,hf⟩ he
    ·omega
   subst hjn;intro hr;have hjl:j<l.length:=by omega
   have:j∈Region.ready .any l.toArray listed:=mem_ready.2 ⟨getD_in (by omega) hf,l[j],by simp[hjl],λe he' gX=>by
    have hlt:=wS hback (i:=j) (o:=l[j]) (by simp[hjl]) he' gX;cases hx:listed.getD e.on false with
    |true=>rfl
    |false=>exact absurd ⟨e.on,hlt,hx⟩ he⟩
   rw[hr]at this;cases this
def headB(l:List Oper)(n:Nat):Bool:=decide (n<l.length)&& Region.sinkB .any l.toArray n && Region.chainB .any l.toArray n && DU l && Region.seqB .any l.toArray (l.length-n) n ((List.range l.length).map λj=>decide (j<n)).toArray
theorem pz{P:Program}{l:List Oper}{Q:Exit->Act->World->Prop}(n:Nat)(hB:headB l n=true)(Inv:Array Bool->Act->World->Prop)
  (hstep:∀listed a w i,HeadInv .any l.toArray n listed->i<n->i∈Region.ready .any l.toArray listed->Inv listed a w->wpOp P l.toArray Q i (λa' w'=>Inv (listed.setIfInBounds i true) a' w') a w)
  (hend:∀listed a w,(∀j,j<n->listed.getD j false=true)->Inv listed a w->wpList P l.toArray Q (l.drop n) a w):
  ∀(f:Nat)(listed:Array Bool)(a:Act)(w:World),HeadInv .any l.toArray n listed->iI n listed<=f->Inv listed a w->wpAny P .any l.toArray Q ((l.length-n)+f) listed a w:=by
 unfold headB at hB;simp only[Bool.and_eq_true,decide_eq_true_eq]at hB;obtain⟨⟨⟨⟨hn,hs⟩,hc⟩,hback⟩,hseq⟩:=hB;have hnt:n<l.toArray.size:=by simpa using hn
 have hdl:(l.drop n).length=l.length-n:=by simp
 intro f
 induction f with
 |zero=>
  intro listed a w inv hf h;have hall:∀j,j<n->listed.getD j false=true:=by
   intro j hj;cases hx:listed.getD j false with
   |true=>rfl
   |false=>
    have hd:listed.getD j true=false:=getD_in (by rw[inv.size];omega) hx;have:=oP hj hd;omega
  have hL:listed=((List.range l.length).map λj=>decide (j<n)).toArray:=by
   refine Array.ext (by simp[inv.size]) (λj h1 h2=>?_);simp only[List.getElem_toArray,List.getElem_map,List.getElem_range];by_cases hj:j<n
   ·rw[decide_eq_true hj];have:=hall j hj;simpa [Array.getD,h1]using this
   ·rw[decide_eq_false hj];have:=inv.tail j (by omega) (by rw[<-inv.size];exact h1);simpa [Array.getD,h1]using this
  rw[<-hL]at hseq;rw[<-hdl]at hseq ⊢;exact qH 0 (l.drop n) n listed a w (λj=>by simp) hseq (hend listed a w hall h)
 |succ f ih=>
  intro listed a w inv hf h;by_cases hall:∀j,j<n->listed.getD j false=true
  ·have hL:listed=((List.range l.length).map λj=>decide (j<n)).toArray:=by
    refine Array.ext (by simp[inv.size]) (λj h1 h2=>?_);simp only[List.getElem_toArray,List.getElem_map,List.getElem_range];by_cases hj:j<n
    ·rw[decide_eq_true hj];have:=hall j hj;simpa [Array.getD,h1]using this
    ·rw[decide_eq_false hj];have:=inv.tail j (by omega) (by rw[<-inv.size];exact h1);simpa [Array.getD,h1]using this
   rw[<-hL]at hseq;rw[<-hdl]at hseq ⊢;exact qH (f+1) (l.drop n) n listed a w (λj=>by simp) hseq (hend listed a w hall h)
  ·have hex:∃j,j<n/\listed.getD j false=false:=by
    rcases Classical.not_forall.1 hall with⟨j,hj⟩
    rcases Classical.not_imp.1 hj with⟨h1,h2⟩
    exact⟨j,h1,by simpa using h2⟩
   rw[show l.length-n+(f+1)=(l.length-n+f)+1 by omega];refine⟨λhr=>absurd hr (FT hback (by rw[inv.size];simp) n (by omega) hex),λi hi=>?_⟩;obtain⟨j,hj,hf'⟩:=hex;have hin:i<n:=by
    rcases Nat.lt_or_ge i n with h'|h'
    ·exact h'
    ·exact absurd hi (tail_waits hs hc hnt inv _ j rfl hj (getD_in (by rw[inv.size];omega) hf') i h')
   refine wpOp_mono (λa' w' h'=>ih _ a' w' (inv.set hi hin) ?_ h') (hstep listed a w i inv hin hi h);have:=oP hin (mem_ready.1 hi).1;omega
theorem OI{P:Program}{id:Nat}{Q:Exit->Act->World->Prop}{a:Act}{w:World}{l:List Oper}(n:Nat)(hm:P.follows .mixedOrders=true)(hB:headB l n=true)(Cl:World->Nat->Value->Prop)(mk:(Nat->Value)->Act)(Y0:Nat->Value)(ha:a=mk Y0)
  (hmono:∀W W' i v,Below W.heap.size W W'->Cl W i v->Cl W' i v)
  (hstep:∀i o Y W,i<n->l[i]? =some o->Below w.heap.size w W->(∀e∈o.after,Region.binds .any e=true->Cl W e.on (Y e.on))->∀K:Act->World->Prop,(∀v W',Below W.heap.size W W'->Cl W' i v->K (mk (upd Y i v)) W')->wpOp P l.toArray Q i K (mk Y) W)
  (hend:∀Y W,Below w.heap.size w W->(∀i,i<n->Cl W i (Y i))->wpList P l.toArray Q (l.drop n) (mk Y) W):(Code.region id l.toArray true).wp P Q a w:=by
 have hn:n<l.length:=by
  unfold headB at hB;simp only[Bool.and_eq_true,decide_eq_true_eq]at hB;exact hB.1.1.1.1
 refine wp_region_any hm ?_;have hun:iI n (Array.replicate l.toArray.size false)<=n:=by unfold iI;exact Nat.le_trans (List.length_filter_le _ _) (by simp)
 have O9:HeadInv .any l.toArray n (Array.replicate l.toArray.size false):=
  ⟨by simp,λj oj _ hl=>(by rw[getD_replicate_false]at hl;cases hl),λt _ ht=>getD_in (by simpa using ht) (getD_replicate_false _ _)⟩
 have H:=pz (P:=P) (Q:=Q) n hB (λL act W=>L.size=l.length/\∃Y,act=mk Y/\Below w.heap.size w W/\∀i,i<n->L.getD i false=true->Cl W i (Y i)) ?_ ?_ n _ a w.drew O9 hun ?_
 ·have e:l.length-n+n=l.toArray.size:=by simp;omega
  rw[e]at H;exact H
 ·rintro L act W i _ hin hi ⟨hsz,Y,rfl,hb,hc⟩;obtain⟨hnn,o,ho,hall⟩:=mem_ready.1 hi;have hback:DU l=true:=by
   unfold headB at hB;simp only[Bool.and_eq_true,decide_eq_true_eq]at hB;exact hB.1.2
  refine hstep i o Y W hin (by simpa using ho) hb (λe he gX=>hc _ (by have:=wS hback (by simpa using ho) he gX;omega) (hall e he gX)) _ (λv W' hb' hv=>⟨by simp[hsz],upd Y i v,rfl,hb.trans (hb'.mono hb.size),λj hjn hj=>?_⟩);by_cases oN:j=i
  ·subst oN;rw[fE];exact hv
  ·rw[upd_ne Y v oN];exact hmono _ _ _ _ hb' (hc j hjn ((bO hj).resolve_left oN))
 ·rintro L act W hall ⟨hsz,Y,rfl,hb,hc⟩;exact hend Y W hb (λi hi=>hc i hi (hall i hi))
 ·exact⟨by simp,Y0,ha,(aV _ _).drew,λj _ h=>by rw[getD_replicate_false]at h;cases h⟩
def KF(l:List Oper)(m:Nat)(late:Nat->Bool):Bool:=(List.range m).all λi=>late i||(List.range (m+1)).any λj=>decide (i<j)&& (!late j && Region.waitsFor .any l.toArray j i)
theorem xW{l:List Oper}{m n:Nat}{late:Nat->Bool}{L:Array Bool}(h:KF l m late=true)(inv:HeadInv .any l.toArray n L)(hm:L.getD m false=true):∀(d i:Nat),m-i=d->i<m->late i=false->L.getD i false=true:=by
 intro d
 induction d using Nat.strongRecOn with
 |_ d ih=>
  intro i hd hi hl;have h1:=List.all_eq_true.1 h i (List.mem_range.2 hi);rw[hl,Bool.false_or]at h1;obtain⟨j,hj,rH⟩:=List.any_eq_true.1 h1;simp only[Bool.and_eq_true,decide_eq_true_eq,Bool.not_eq_true']at rH;obtain⟨hij,hjl,hw⟩:=rH;obtain⟨oj,hoj,e,he,hb,hon⟩:=Region.waitsFor_spec hw;have hjm:j<=m:=by have:=List.mem_range.1 hj;omega
  have hjt:L.getD j false=true:=by
   by_cases h':j=m
   ·rw[h'];exact hm
   ·exact ih (m-j) (by omega) j rfl (by omega) hjl
  have:=inv.closed j oj hoj hjt e he hb;rw[hon]at this;exact this
theorem pF{P:Program}{id:Nat}{Q:Exit->Act->World->Prop}{a:Act}{w:World}{l:List Oper}(m:Nat)(late:Nat->Bool)(hm:P.follows .mixedOrders=true)(hB:headB l (m+1)=true)(Ss:KF l m late=true)(Cl:World->Nat->Value->Prop)(Fin:World->Value->Prop)(mk:(Nat->Value)->Act)(Y0:Nat->Value)(ha:a=mk Y0)
  (hmono:∀W W' i v,Below W.heap.size W W'->Cl W i v->Cl W' i v)
  (hstep:∀i o Y W,i<m->late i=false->l[i]? =some o->Below w.heap.size w W->(∀e∈o.after,Region.binds .any e=true->Cl W e.on (Y e.on))->∀K:Act->World->Prop,(∀v W',Below W.heap.size W W'->Cl W' i v->K (mk (upd Y i v)) W')->wpOp P l.toArray Q i K (mk Y) W)
  (PJ:∀i o Y W,i<m->late i=true->l[i]? =some o->∀K:Act->World->Prop,(∀v,(∀W',Cl W' i v)->K (mk (upd Y i v)) W)->wpOp P l.toArray Q i K (mk Y) W)
  (rS:∀o Y W,l[m]? =some o->Below w.heap.size w W->(∀i,i<m->late i=false->Cl W i (Y i))->∀K:Act->World->Prop,(∀v W',Fin W' v->K (mk (upd Y m v)) W')->wpOp P l.toArray Q m K (mk Y) W)
  (hend:∀Y W,Fin W (Y m)->(∀i,i<m->late i=true->∀W',Cl W' i (Y i))->wpList P l.toArray Q (l.drop (m+1)) (mk Y) W):(Code.region id l.toArray true).wp P Q a w:=by
 have hn:m+1<l.length:=by
  unfold headB at hB;simp only[Bool.and_eq_true,decide_eq_true_eq]at hB;exact hB.1.1.1.1
 have hback:DU l=true:=by
  unfold headB at hB;simp only[Bool.and_eq_true,decide_eq_true_eq]at hB;exact hB.1.2
 refine wp_region_any hm ?_;have hun:iI (m+1) (Array.replicate l.toArray.size false)<=m+1:=by unfold iI;exact Nat.le_trans (List.length_filter_le _ _) (by simp)
 have O9:HeadInv .any l.toArray (m+1) (Array.replicate l.toArray.size false):=
  ⟨by simp,λj oj _ hl=>(by rw[getD_replicate_false]at hl;cases hl),λt _ ht=>getD_in (by simpa using ht) (getD_replicate_false _ _)⟩
 have H:=pz (P:=P) (Q:=Q) (m+1) hB (λL act W=>∃Y,act=mk Y/\(L.getD m false=false->Below w.heap.size w W/\∀i,i<m->L.getD i false=true->Cl W i (Y i))/\(L.getD m false=true->Fin W (Y m))/\∀i,i<m->late i=true->L.getD i false=true->∀W',Cl W' i (Y i)) ?_ ?_ (m+1) _ a w.drew O9 hun ?_
 ·have e:l.length-(m+1)+(m+1)=l.toArray.size:=by simp;omega
  rw[e]at H;exact H
 ·rintro L act W i inv hin hi ⟨Y,rfl,h1,h2,h3⟩;obtain⟨hnn,o,ho,hall⟩:=mem_ready.1 hi;have ho':l[i]? =some o:=by simpa using ho
  have Y5:=getD_both hnn;have hsz:L.size=l.length:=by rw[inv.size];simp
  by_cases him:i=m
  ·subst him;obtain⟨hb,hc⟩:=h1 Y5;refine rS o Y W ho' hb (λj hj hl=>hc j hj ?_) _ (λv W' hv=>⟨upd Y i v,rfl,λhx=>?_,λ_=>by rw[fE];exact hv,λj hj hl hx W''=>?_⟩)
   ·have hcv:=xW (L:=L.setIfInBounds i true) Ss (inv.set hi hin) (by simp[Array.getD,hsz];omega) (i-j) j rfl hj hl;exact((bO hcv).resolve_left (by omega))
   ·simp[Array.getD,hsz]at hx;omega
   ·rw[upd_ne Y v (by omega)];exact h3 j hj hl ((bO hx).resolve_left (by omega)) W''
  ·have GN:i<m:=by omega
   cases hl:late i with
   |true=>
    refine PJ i o Y W GN hl ho' _ (λv hv=>⟨upd Y i v,rfl,λhx=>?_,λhx=>?_,λj hj Zx hx W''=>?_⟩)
    ·rw[getD_set_ne false him]at hx;obtain⟨hb,hc⟩:=h1 hx;refine⟨hb,λj hj hx'=>?_⟩;by_cases oN:j=i
     ·subst oN;rw[fE];exact hv W
     ·rw[upd_ne Y v oN];exact hc j hj ((bO hx').resolve_left oN)
    ·rw[getD_set_ne false him]at hx;rw[upd_ne Y v (by omega)];exact h2 hx
    ·by_cases oN:j=i
     ·subst oN;rw[fE];exact hv W''
     ·rw[upd_ne Y v oN];exact h3 j hj Zx ((bO hx).resolve_left oN) W''
   |false=>
    have XG:L.getD m false=false:=by
     cases hx:L.getD m false with
     |false=>rfl
     |true=>
      have:=xW Ss inv hx (m-i) i rfl GN hl;rw[Y5]at this;cases this
    obtain⟨hb,hc⟩:=h1 XG;refine hstep i o Y W GN hl ho' hb (λe he gX=>hc _ (by have:=wS hback ho' he gX;omega) (hall e he gX)) _ (λv W' hb' hv=>⟨upd Y i v,rfl,λ_=>⟨hb.trans (hb'.mono hb.size),λj hj hx'=>?_⟩,λhx=>?_,λj hj Zx hx W''=>?_⟩)
    ·by_cases oN:j=i
     ·subst oN;rw[fE];exact hv
     ·rw[upd_ne Y v oN];exact hmono _ _ _ _ hb' (hc j hj ((bO hx').resolve_left oN))
    ·rw[getD_set_ne false him,XG]at hx;cases hx
    ·by_cases oN:j=i
     ·subst oN;rw[hl]at Zx;cases Zx
     ·rw[upd_ne Y v oN];exact h3 j hj Zx ((bO hx).resolve_left oN) W''
 ·rintro L act W hall ⟨Y,rfl,h1,h2,h3⟩;exact hend Y W (h2 (hall m (by omega))) (λi hi hl=>h3 i hi hl (hall i (by omega)))
 ·exact⟨Y0,ha,λ_=>⟨(aV _ _).drew,λj _ h=>by rw[getD_replicate_false]at h;cases h⟩,λh=>(by rw[getD_replicate_false]at h;cases h),λj _ _ h=>by rw[getD_replicate_false]at h;cases h⟩
end Go.Proofs.YtinmgbodgecoeaaGreat
namespace Go.Proofs.YtinmgbodgecoeaaGreat
open Go.RowKit
structure XBox (w:World) (ia is ix sz:Nat) (ty:TypeId) (boxed:Value->Array Value) (Cl:World->Nat->Value->Prop) (Off:Nat->Value->Nat->Prop) (L:Array Bool) (Y:Nat->Value) (W:World):Prop where
 below:Below w.heap.size w W
 cl:∀i,i≠ia->i≠is->L.getD i false=true->Cl W i (Y i)/\(L.getD ia false=true->∀p,Y ia= .pointer (some ⟨p,0,none⟩)->Off i (Y i) p)
 box:L.getD ia false=true->∃p cs,Y ia= .pointer (some ⟨p,0,none⟩)/\w.heap.size<=p/\Row W p cs ty/\cs.size=sz/\(L.getD is false=true->L.getD ix false=true/\cs=boxed (Y ix))
 dep:L.getD is false=true->L.getD ia false=true
theorem vQ{L:Array Bool}{i:Nat}(hn:L.getD i true=false)(h:L.getD i false=true):False:=by
 rcases Nat.lt_or_ge i L.size with hj|hj
 ·simp[Array.getD,hj]at h hn;rw[hn]at h;cases h
 ·simp[Array.getD,Nat.not_lt.2 hj]at h
theorem iY{L:Array Bool}{i j:Nat}(h:L.getD j false=true):(L.setIfInBounds i true).getD j false=true:=by
 by_cases hij:i=j
 ·subst hij;rcases Nat.lt_or_ge i L.size with hj|hj
  ·simp[Array.getD,hj]
  ·simp[Array.getD,Nat.not_lt.2 hj]at h
 ·rw[getD_set_ne false hij];exact h
theorem yL{md:Region.Mode}{ops:Array Oper}{L:Array Bool}{j:Nat}{o:Oper}(hj:j<L.size)(hr:Region.ready md ops L=[])(ho:ops[j]? =some o)(hd:∀e∈o.after,Region.binds md e=true->L.getD e.on false=true):L.getD j false=true:=by
 cases h:L.getD j true with
 |false=>
  have:j∈Region.ready md ops L:=mem_ready.2 ⟨h,o,ho,hd⟩;rw[hr]at this;cases this
 |true=>simp[Array.getD,hj]at h ⊢;exact h
theorem Jt{P:Program}{id:Nat}{Q:Exit->Act->World->Prop}{a:Act}{w:World}{l:List Oper}(hm:P.follows .mixedOrders=true)(ia is ix sz:Nat)(ty:TypeId)(boxed:Value->Array Value)
  (Cl:World->Nat->Value->Prop)(Off:Nat->Value->Nat->Prop)(mk:(Nat->Value)->Act)(Y0:Nat->Value)(ha:a=mk Y0)
  (hback:l.zipIdx.all (λx=>x.1.after.all λe=>!Region.binds .any e||decide (e.on<x.2))=true)
  (ZE:ia<l.length)(Q3:is<l.length)(hne:ia≠is)(NW:ix≠ia)(hxs:ix≠is)
  (hst:∀o,l[is]? =some o->(∃e∈o.after,e.on=ia/\Region.binds .any e=true)/\(∃e∈o.after,e.on=ix/\Region.binds .any e=true))
  (hmono:∀W W' i v,Below W.heap.size W W'->Cl W i v->Cl W' i v)
  (Bb:∀W W' i v p,w.heap.size<=p->Wr (λk=>k=p) W W'->Off i v p->Cl W i v->Cl W' i v)
  (U9:∀W i v,Below w.heap.size w W->Cl W i v->Off i v W.heap.size)
  (hstep:∀i o Y W,i≠ia->i≠is->l[i]? =some o->Below w.heap.size w W->(∀e∈o.after,Region.binds .any e=true->e.on≠ia->e.on≠is->Cl W e.on (Y e.on))->
   ∀K:Act->World->Prop,(∀v W',Below W.heap.size W W'->Cl W' i v->(∀p,w.heap.size<=p->p<W.heap.size->(∀e∈o.after,Region.binds .any e=true->e.on≠ia->e.on≠is->Off e.on (Y e.on) p)->Off i v p)->K (mk (upd Y i v)) W')->wpOp P l.toArray Q i K (mk Y) W)
  (Kr:∀o Y W,l[ia]? =some o->Below w.heap.size w W->∀K:Act->World->Prop,(∀cs:Array Value,cs.size=sz->K (mk (upd Y ia (.pointer (some ⟨W.heap.size,0,none⟩)))) (W.alloc (.cells cs ty)))->wpOp P l.toArray Q ia K (mk Y) W)
  (rS:∀o Y W p cs,l[is]? =some o->Y ia= .pointer (some ⟨p,0,none⟩)->Row W p cs ty->cs.size=sz->Cl W ix (Y ix)->∀K:Act->World->Prop,(∀W' v,Wr (λk=>k=p) W W'->Row W' p (boxed (Y ix)) ty->(boxed (Y ix)).size=sz->K (mk (upd Y is v)) W')->wpOp P l.toArray Q is K (mk Y) W)
  (hend:∀Y W p,Below w.heap.size w W->w.heap.size<=p->Y ia= .pointer (some ⟨p,0,none⟩)->Row W p (boxed (Y ix)) ty->(∀i,i<l.length->i≠ia->i≠is->Cl W i (Y i)/\Off i (Y i) p)->Q .normal (mk Y) W):(Code.region id l.toArray true).wp P Q a w:=by
 refine jZ hm (λL act W=>L.size=l.length/\∃Y,act=mk Y/\XBox w ia is ix sz ty boxed Cl Off L Y W) ?_ ?_ ?_
 ·have hf:∀j,(Array.replicate l.toArray.size false).getD j false=true->False:=λj h=>by
   rcases Nat.lt_or_ge j l.length with hj|hj
   ·simp[Array.getD,hj]at h
   ·simp[Array.getD,Nat.not_lt.2 hj]at h
  exact⟨by simp,Y0,ha,(aV _ _).drew,λi _ _ h=>(hf i h).elim,λh=>(hf _ h).elim,λh=>(hf _ h).elim⟩
 ·rintro L act W i hi ⟨hsz,Y,rfl,hJ⟩;obtain⟨hn,o,ho,hall⟩:=mem_ready.1 hi;have ho':l[i]? =some o:=by simpa using ho
  have hb:=hJ.below;by_cases h1:i=ia
  ·subst h1;refine Kr o Y W ho' hb _ (λcs hcs=>⟨by simp[hsz],_,rfl,hb.alloc hb.size _,λj xP rH g=>?_,λg=>?_,λg=>?_⟩)
   ·have g':=(bO g).resolve_left xP;obtain⟨c1,c2⟩:=hJ.cl j xP rH g';rw[upd_ne Y _ xP];refine⟨hmono _ _ _ _ ((aV _ _).alloc (aY _) _) c1,λ_ p hp=>?_⟩;rw[fE]at hp;injection hp with hp;injection hp with hp;injection hp with hp;rw[<-hp];exact U9 W j _ hb c1
   ·refine⟨W.heap.size,cs,fE _ _ _,hb.size,Row.new _ _ _,hcs,λg2=>?_⟩;exact(vQ hn (hJ.dep ((bO g2).resolve_left (Ne.symm hne)))).elim
   ·exact(vQ hn (hJ.dep ((bO g).resolve_left (Ne.symm hne)))).elim
  ·by_cases h2:i=is
   ·subst h2;obtain⟨⟨e1,he1,UW,hb1⟩,⟨e2,ZL,Pz,hb2⟩⟩:=hst o ho';have f1:=hall e1 he1 hb1;have f2:=hall e2 ZL hb2;rw[UW]at f1;rw[Pz]at f2;obtain⟨p,cs,hp,hpw,hrow,hcs,_⟩:=hJ.box f1;refine rS o Y W p cs ho' hp hrow hcs (hJ.cl ix NW hxs f2).1 _ (λW' v hw' hr' hbs=>⟨by simp[hsz],_,rfl,hb.trans (hw'.below hb.size (λk hk=>by omega)),λj xP rH g=>?_,λg=>?_,λg=>iY f1⟩)
    ·have g':=(bO g).resolve_left rH;obtain⟨c1,c2⟩:=hJ.cl j xP rH g';rw[upd_ne Y _ rH,upd_ne Y _ hne];exact⟨Bb _ _ _ _ p hpw hw' (c2 f1 p hp) c1,λ_=>c2 f1⟩
    ·rw[upd_ne Y _ hne,upd_ne Y _ hxs];exact⟨p,_,hp,hpw,hr',hbs,λ_=>⟨iY f2,rfl⟩⟩
   ·refine hstep i o Y W h1 h2 ho' hb (λe he gX n1 n2=>(hJ.cl e.on n1 n2 (hall e he gX)).1) _ (λv W' hb' hv hoff=>⟨by simp[hsz],_,rfl,hb.trans (hb'.mono hb.size),λj xP rH g=>?_,λg=>?_,λg=>iY (hJ.dep ((bO g).resolve_left (Ne.symm h2)))⟩)
    ·by_cases oN:j=i
     ·subst oN;rw[fE,upd_ne Y _ (Ne.symm h1)];refine⟨hv,λg2 p hp=>?_⟩;have g3:=(bO g2).resolve_left (Ne.symm h1);obtain⟨p',cs,hp',hpw,hrow,_⟩:=hJ.box g3;have:p=p':=by rw[hp]at hp';simpa using hp'
      subst this;exact hoff p hpw hrow.lt (λe he gX n1 n2=>(hJ.cl e.on n1 n2 (hall e he gX)).2 g3 p hp)
     ·have g':=(bO g).resolve_left oN;obtain⟨c1,c2⟩:=hJ.cl j xP rH g';rw[upd_ne Y _ oN,upd_ne Y _ (Ne.symm h1)];exact⟨hmono _ _ _ _ hb' c1,λg2=>c2 ((bO g2).resolve_left (Ne.symm h1))⟩
    ·obtain⟨p,cs,hp,hpw,hrow,hcs,hw⟩:=hJ.box ((bO g).resolve_left (Ne.symm h1));rw[upd_ne Y _ (Ne.symm h1)];refine⟨p,cs,hp,hpw,hrow.below hb' hrow.lt,hcs,λg2=>?_⟩;obtain⟨x1,x2⟩:=hw ((bO g2).resolve_left (Ne.symm h2));have hxi:ix≠i:=λe=>vQ hn (e▸x1);rw[upd_ne Y _ hxi];exact⟨iY x1,x2⟩
 ·rintro L act W hr ⟨hsz,Y,rfl,hJ⟩;have key:∀n i,i<n->i<l.length->L.getD i false=true:=by
   intro n
   induction n with
   |zero=>intro i h;omega
   |succ n ih=>
    intro i hin hil;refine yL (j:=i) (by omega) hr (show l.toArray[i]? =some l[i] by simp[hil]) (λe he gX=>?_);have hlt:e.on<i:=by
     have hx:=List.all_eq_true.1 hback (l[i],i) (List.mem_iff_getElem?.2 ⟨i,by simp[hil]⟩);have hy:=(Array.all_eq_true_iff_forall_mem.1 hx) e he;rw[gX]at hy;simpa using hy
    exact ih e.on (by omega) (by omega)
  have fl:∀i,i<l.length->L.getD i false=true:=λi hi=>key (i+1) i (by omega) hi;obtain⟨p,cs,hp,hpw,hrow,_,hw⟩:=hJ.box (fl ia ZE);obtain⟨_,rfl⟩:=hw (fl is Q3);exact hend Y W p hJ.below hpw hp hrow (λi hi n1 n2=>⟨(hJ.cl i n1 n2 (fl i hi)).1,(hJ.cl i n1 n2 (fl i hi)).2 (fl ia ZE) p hp⟩)
abbrev pX(o:um)(v:Value):Value:= .agg #[.int .i64 o.kind,.int .i64 o.code,v,.int .i64 o.steps,.int .i64 o.deep]
abbrev outT(o:um)(er:Int)(v:Value):Value:= .tuple #[pX o v,.int .i64 er]
def yR:Value->Array Value
 | .agg cs=>cs
 |_=>#[]
structure gF (ty:TypeId) (ai ic:Nat) (cst:Nat->Value) (o:um) (er:Int) (W:World) (i:Nat) (v:Value):Prop where
 c:i<ic->v=cst i
 t:i=ic\/i=ic+1->∃u,v=outT o er u/\W.ownsRow ai ty 1 u o.out.length (o.out.map (Value.int .i64))
 a:i=ic+2->∃u,v=pX o u/\W.ownsRow ai ty 1 u o.out.length (o.out.map (Value.int .i64))
 e:i=ic+3\/i=ic+6->v= .int .i64 er
def gu(ic:Nat)(o:um)(er:Int)(i:Nat)(v:Value)(p:Nat):Prop:=
 (i=ic\/i=ic+1->∀u,v=outT o er u->u.ownBlock≠some p)/\(i=ic+2->∀u,v=pX o u->u.ownBlock≠some p)
section
variable {ty:TypeId} {ai ic:Nat} {cst:Nat->Value} {o:um} {er:Int} {W W':World} {i:Nat} {v:Value}
theorem gF.wr{F:Nat->Prop}(h:gF ty ai ic cst o er W i v)(hw:Wr F W W')(hF:∀g,F g->∀u,(i=ic\/i=ic+1->v=outT o er u->u.ownBlock≠some g)/\(i=ic+2->v=pX o u->u.ownBlock≠some g)):gF ty ai ic cst o er W' i v:=by
 refine⟨h.c,λhi=>?_,λhi=>?_,h.e⟩
 ·obtain⟨u,e,hu⟩:=h.t hi;exact⟨u,e,aF hu hw (λg hg hf=>(hF g hf u).1 hi e hg)⟩
 ·obtain⟨u,e,hu⟩:=h.a hi;exact⟨u,e,aF hu hw (λg hg hf=>(hF g hf u).2 hi e hg)⟩
theorem gF.below(h:gF ty ai ic cst o er W i v)(hb:Below W.heap.size W W'):gF ty ai ic cst o er W' i v:=h.wr (F:=λ_=>False) (Wr.of_below hb) (λ_ h=>h.elim)
theorem F5{u u':Value}(h:outT o er u=outT o er u'):u=u':=by simpa [outT,pX]using h
theorem F6{u u':Value}(h:pX o u=pX o u'):u=u':=by simpa [pX]using h
theorem gF.fresh(h:gF ty ai ic cst o er W i v):gu ic o er i v W.heap.size:=by
 refine⟨λhi u hu hb=>?_,λhi u hu hb=>?_⟩
 ·obtain⟨u',e,ho⟩:=h.t hi;obtain rfl:=F5 (hu.symm.trans e);have:=(ho.lt _ hb).2;omega
 ·obtain⟨u',e,ho⟩:=h.a hi;obtain rfl:=F6 (hu.symm.trans e);have:=(ho.lt _ hb).2;omega
theorem gF.const(h:i<ic):gF ty ai ic cst o er W i (cst i):=⟨λ_=>rfl,λh'=>by omega,λh'=>by omega,λh'=>by omega⟩
theorem gu.const(h:i<ic)(p:Nat):gu ic o er i v p:=⟨λh'=>by omega,λh'=>by omega⟩
theorem gF.err(h:i=ic+3\/i=ic+6):gF ty ai ic cst o er W i (.int .i64 er):=⟨λh'=>by omega,λh'=>by omega,λh'=>by omega,λ_=>rfl⟩
theorem gu.err(h:i=ic+3\/i=ic+6)(p:Nat):gu ic o er i v p:=⟨λh'=>by omega,λh'=>by omega⟩
theorem gF.call{u:Value}(h:i=ic\/i=ic+1)(hu:W.ownsRow ai ty 1 u o.out.length (o.out.map (Value.int .i64))):gF ty ai ic cst o er W i (outT o er u):=⟨λh'=>by omega,λ_=>⟨u,rfl,hu⟩,λh'=>by omega,λh'=>by omega⟩
theorem gu.call{u:Value}(h:i=ic\/i=ic+1){p:Nat}(hp:u.ownBlock≠some p):gu ic o er i (outT o er u) p:=⟨λ_ u' e=>by rw[<-F5 e];exact hp,λh'=>by omega⟩
theorem gF.part{u:Value}(h:i=ic+2)(hu:W.ownsRow ai ty 1 u o.out.length (o.out.map (Value.int .i64))):gF ty ai ic cst o er W i (pX o u):=⟨λh'=>by omega,λh'=>by omega,λ_=>⟨u,rfl,hu⟩,λh'=>by omega⟩
theorem gu.part{u:Value}(h:i=ic+2){p:Nat}(hp:u.ownBlock≠some p):gu ic o er i (pX o u) p:=⟨λh'=>by omega,λ_ u' e=>by rw[<-F6 e];exact hp⟩
end
def fU:Code->List Code
 | .region i l b=>[.region i l b]
 | .loop c=>fU c
 | .seq a b=>fU a++fU b
 | .block _ c=>fU c
 | .scope c=>fU c
 | .cond _ a b=>fU a++fU b
 |_=>[]
theorem Tm{cs:Array Value}(h:cs.size=5):∃a b c d e,cs=#[a,b,c,d,e]:=by
 obtain⟨l⟩:=cs
 match l,h with
 |[a,b,c,d,e],_=>exact⟨a,b,c,d,e,rfl⟩
end Go.Proofs.YtinmgbodgecoeaaGreat
namespace Go.Proofs.YtinmgbodgecoeaaGreat
open Go.RowKit
structure XBoxS (w:World) (ia is ix sz:Nat) (ty:TypeId) (boxed:Value->Array Value) (Cl:World->Nat->Value->(Nat->Prop)->Prop) (L:Array Bool) (Y:Nat->Value) (Z:Nat->Nat->Prop) (W:World):Prop where
 below:Below w.heap.size w W
 cl:∀i,i≠ia->i≠is->L.getD i false=true->Cl W i (Y i) (Z i)/\(∀k,Z i k->k<W.heap.size)/\(L.getD ia false=true->∀p,Y ia= .pointer (some ⟨p,0,none⟩)->¬Z i p)
 box:L.getD ia false=true->∃p cs,Y ia= .pointer (some ⟨p,0,none⟩)/\w.heap.size<=p/\Row W p cs ty/\cs.size=sz/\(L.getD is false=true->L.getD ix false=true/\cs=boxed (Y ix))
 dep:L.getD is false=true->L.getD ia false=true
def Og(Z:Nat->Nat->Prop)(i:Nat)(S:Nat->Prop):Nat->Nat->Prop:=λj=>if j=i then S else Z j
theorem L6(Z:Nat->Nat->Prop)(i:Nat)(S:Nat->Prop):Og Z i S i=S:=by simp[Og]
theorem Rm(Z:Nat->Nat->Prop){i j:Nat}(S:Nat->Prop)(h:j≠i):Og Z i S j=Z j:=by simp[Og,h]
theorem xS{l:List Oper}{L:Array Bool}(hback:l.zipIdx.all (λx=>x.1.after.all λe=>!Region.binds .any e||decide (e.on<x.2))=true)(hr:Region.ready .any l.toArray L=[])(hsz:L.size=l.length):∀i,i<l.length->L.getD i false=true:=by
 have key:∀n i,i<n->i<l.length->L.getD i false=true:=by
  intro n
  induction n with
  |zero=>intro i h;omega
  |succ n ih=>
   intro i hin hil;refine yL (j:=i) (by omega) hr (show l.toArray[i]? =some l[i] by simp[hil]) (λe he gX=>?_);have hlt:e.on<i:=by
    have hx:=List.all_eq_true.1 hback (l[i],i) (List.mem_iff_getElem?.2 ⟨i,by simp[hil]⟩);have hy:=(Array.all_eq_true_iff_forall_mem.1 hx) e he;rw[gX]at hy;simpa using hy
   exact ih e.on (by omega) (by omega)
 exact λi hi=>key (i+1) i (by omega) hi
theorem FO{P:Program}{id:Nat}{Q:Exit->Act->World->Prop}{a:Act}{w:World}{l:List Oper}(hm:P.follows .mixedOrders=true)(ia is ix sz:Nat)(ty:TypeId)(boxed:Value->Array Value)
  (Cl:World->Nat->Value->(Nat->Prop)->Prop)(mk:(Nat->Value)->Act)(Y0:Nat->Value)(ha:a=mk Y0)
  (hback:l.zipIdx.all (λx=>x.1.after.all λe=>!Region.binds .any e||decide (e.on<x.2))=true)
  (ZE:ia<l.length)(Q3:is<l.length)(hne:ia≠is)(NW:ix≠ia)(hxs:ix≠is)
  (hst:∀o,l[is]? =some o->(∃e∈o.after,e.on=ia/\Region.binds .any e=true)/\(∃e∈o.after,e.on=ix/\Region.binds .any e=true))
  (hwr:∀F W W' i v S,Wr F W W'->(∀k,S k->¬F k)->Cl W i v S->Cl W' i v S)
  (hstep:∀i o Y(Z:Nat->Nat->Prop)W,i≠ia->i≠is->l[i]? =some o->Below w.heap.size w W->(∀e∈o.after,Region.binds .any e=true->e.on≠ia->e.on≠is->Cl W e.on (Y e.on) (Z e.on))->
   ∀K:Act->World->Prop,(∀v S W',Below W.heap.size W W'->Cl W' i v S->(∀k,S k->(W.heap.size<=k/\k<W'.heap.size)\/∃e∈o.after,Region.binds .any e=true/\e.on≠ia/\e.on≠is/\Z e.on k)->K (mk (upd Y i v)) W')->wpOp P l.toArray Q i K (mk Y) W)
  (Kr:∀o Y W,l[ia]? =some o->Below w.heap.size w W->∀K:Act->World->Prop,(∀cs:Array Value,cs.size=sz->K (mk (upd Y ia (.pointer (some ⟨W.heap.size,0,none⟩)))) (W.alloc (.cells cs ty)))->wpOp P l.toArray Q ia K (mk Y) W)
  (rS:∀o Y S W p cs,l[is]? =some o->Y ia= .pointer (some ⟨p,0,none⟩)->Row W p cs ty->cs.size=sz->Cl W ix (Y ix) S->∀K:Act->World->Prop,(∀W' v,Wr (λk=>k=p) W W'->Row W' p (boxed (Y ix)) ty->(boxed (Y ix)).size=sz->K (mk (upd Y is v)) W')->wpOp P l.toArray Q is K (mk Y) W)
  (hend:∀Y(Z:Nat->Nat->Prop)W p,Below w.heap.size w W->w.heap.size<=p->Y ia= .pointer (some ⟨p,0,none⟩)->Row W p (boxed (Y ix)) ty->(∀i,i<l.length->i≠ia->i≠is->Cl W i (Y i) (Z i)/\¬Z i p)->Q .normal (mk Y) W):(Code.region id l.toArray true).wp P Q a w:=by
 refine jZ hm (λL act W=>L.size=l.length/\∃Y Z,act=mk Y/\XBoxS w ia is ix sz ty boxed Cl L Y Z W) ?_ ?_ ?_
 ·have hf:∀j,(Array.replicate l.toArray.size false).getD j false=true->False:=λj h=>by
   rcases Nat.lt_or_ge j l.length with hj|hj
   ·simp[Array.getD,hj]at h
   ·simp[Array.getD,Nat.not_lt.2 hj]at h
  exact⟨by simp,Y0,λ_ _=>False,ha,(aV _ _).drew,λi _ _ h=>(hf i h).elim,λh=>(hf _ h).elim,λh=>(hf _ h).elim⟩
 ·rintro L act W i hi ⟨hsz,Y,Z,rfl,hJ⟩;obtain⟨hn,o,ho,hall⟩:=mem_ready.1 hi;have ho':l[i]? =some o:=by simpa using ho
  have hb:=hJ.below;by_cases h1:i=ia
  ·subst h1;refine Kr o Y W ho' hb _ (λcs hcs=>⟨by simp[hsz],_,Z,rfl,hb.alloc hb.size _,λj xP rH g=>?_,λg=>?_,λg=>?_⟩)
   ·have g':=(bO g).resolve_left xP;obtain⟨c1,c2,c3⟩:=hJ.cl j xP rH g';rw[upd_ne Y _ xP];refine⟨hwr (λ_=>False) _ _ _ _ _ (Wr.of_below (ax W _)) (λ_ _ h=>h) c1,λk hk=>by have:=c2 k hk;simp;omega,λ_ p hp hz=>?_⟩;rw[fE]at hp;injection hp with hp;injection hp with hp;injection hp with hp;have:=c2 p hz;omega
   ·refine⟨W.heap.size,cs,fE _ _ _,hb.size,Row.new _ _ _,hcs,λg2=>?_⟩;exact(vQ hn (hJ.dep ((bO g2).resolve_left (Ne.symm hne)))).elim
   ·exact(vQ hn (hJ.dep ((bO g).resolve_left (Ne.symm hne)))).elim
  ·by_cases h2:i=is
   ·subst h2;obtain⟨⟨e1,he1,UW,hb1⟩,⟨e2,ZL,Pz,hb2⟩⟩:=hst o ho';have f1:=hall e1 he1 hb1;have f2:=hall e2 ZL hb2;rw[UW]at f1;rw[Pz]at f2;obtain⟨p,cs,hp,hpw,hrow,hcs,_⟩:=hJ.box f1;refine rS o Y (Z ix) W p cs ho' hp hrow hcs (hJ.cl ix NW hxs f2).1 _ (λW' v hw' hr' hbs=>⟨by simp[hsz],_,Z,rfl,hb.trans (hw'.below hb.size (λk hk=>by omega)),λj xP rH g=>?_,λg=>?_,λg=>iY f1⟩)
    ·have g':=(bO g).resolve_left rH;obtain⟨c1,c2,c3⟩:=hJ.cl j xP rH g';rw[upd_ne Y _ rH,upd_ne Y _ hne];exact⟨hwr _ _ _ _ _ _ hw' (λk hk e=>c3 f1 p hp (by have e:k=p:=e;rw[<-e];exact hk)) c1,λk hk=>fQ (c2 k hk) hw'.size,λ_=>c3 f1⟩
    ·rw[upd_ne Y _ hne,upd_ne Y _ hxs];exact⟨p,_,hp,hpw,hr',hbs,λ_=>⟨iY f2,rfl⟩⟩
   ·refine hstep i o Y Z W h1 h2 ho' hb (λe he gX n1 n2=>(hJ.cl e.on n1 n2 (hall e he gX)).1) _ (λv S W' hb' hv hoff=>⟨by simp[hsz],_,Og Z i S,rfl,hb.trans (hb'.mono hb.size),λj xP rH g=>?_,λg=>?_,λg=>iY (hJ.dep ((bO g).resolve_left (Ne.symm h2)))⟩)
    ·by_cases oN:j=i
     ·subst oN;rw[fE,upd_ne Y _ (Ne.symm h1),L6];refine⟨hv,λk hk=>?_,λg2 p hp hz=>?_⟩
      ·rcases hoff k hk with h|⟨e,he,gX,n1,n2,hz⟩
       ·exact h.2
       ·exact fQ ((hJ.cl e.on n1 n2 (hall e he gX)).2.1 k hz) hb'.size
      ·have g3:=(bO g2).resolve_left (Ne.symm h1);obtain⟨p',cs,hp',hpw,hrow,_⟩:=hJ.box g3;have:p=p':=by rw[hp]at hp';simpa using hp'
       subst this;rcases hoff p hz with h|⟨e,he,gX,n1,n2,hz'⟩
       ·have:=hrow.lt;omega
       ·exact(hJ.cl e.on n1 n2 (hall e he gX)).2.2 g3 p hp hz'
     ·have g':=(bO g).resolve_left oN;obtain⟨c1,c2,c3⟩:=hJ.cl j xP rH g';rw[upd_ne Y _ oN,upd_ne Y _ (Ne.symm h1),Rm Z _ oN];exact⟨hwr (λ_=>False) _ _ _ _ _ (Wr.of_below hb') (λ_ _ h=>h) c1,λk hk=>fQ (c2 k hk) hb'.size,λg2=>c3 ((bO g2).resolve_left (Ne.symm h1))⟩
    ·obtain⟨p,cs,hp,hpw,hrow,hcs,hw⟩:=hJ.box ((bO g).resolve_left (Ne.symm h1));rw[upd_ne Y _ (Ne.symm h1)];refine⟨p,cs,hp,hpw,hrow.below hb' hrow.lt,hcs,λg2=>?_⟩;obtain⟨x1,x2⟩:=hw ((bO g2).resolve_left (Ne.symm h2));have hxi:ix≠i:=λe=>vQ hn (e▸x1);rw[upd_ne Y _ hxi];exact⟨iY x1,x2⟩
 ·rintro L act W hr ⟨hsz,Y,Z,rfl,hJ⟩;have fl:=xS hback hr hsz;obtain⟨p,cs,hp,hpw,hrow,_,hw⟩:=hJ.box (fl ia ZE);obtain⟨_,rfl⟩:=hw (fl is Q3);exact hend Y Z W p hJ.below hpw hp hrow (λi hi n1 n2=>⟨(hJ.cl i n1 n2 (fl i hi)).1,(hJ.cl i n1 n2 (fl i hi)).2.2 (fl ia ZE) p hp⟩)
structure XPut (w:World) (is ix p sz:Nat) (ty:TypeId) (boxed:Value->Array Value) (Cl:World->Nat->Value->Prop) (L:Array Bool) (Y:Nat->Value) (W:World):Prop where
 wr:Wr (λk=>k=p) w W
 cl:∀i,i≠is->L.getD i false=true->Cl W i (Y i)
 box:∃cs,Row W p cs ty/\cs.size=sz/\(L.getD is false=true->L.getD ix false=true/\cs=boxed (Y ix))
theorem nK{P:Program}{id:Nat}{Q:Exit->Act->World->Prop}{a:Act}{w:World}{l:List Oper}(hm:P.follows .mixedOrders=true)(is ix p sz:Nat)(ty:TypeId)(boxed:Value->Array Value)
  (Cl:World->Nat->Value->Prop)(mk:(Nat->Value)->Act)(Y0:Nat->Value)(ha:a=mk Y0)
  (hback:l.zipIdx.all (λx=>x.1.after.all λe=>!Region.binds .any e||decide (e.on<x.2))=true)
  (Q3:is<l.length)(hxs:ix≠is)(yE:∃cs,Row w p cs ty/\cs.size=sz)
  (hst:∀o,l[is]? =some o->(∃e∈o.after,e.on=ix/\Region.binds .any e=true))
  (hmono:∀W W' i v,Below W.heap.size W W'->Cl W i v->Cl W' i v)
  (Bb:∀W W' i v,Wr (λk=>k=p) W W'->Cl W i v->Cl W' i v)
  (hstep:∀i o Y W,i≠is->l[i]? =some o->Wr (λk=>k=p) w W->(∀e∈o.after,Region.binds .any e=true->e.on≠is->Cl W e.on (Y e.on))->
   ∀K:Act->World->Prop,(∀v W',Below W.heap.size W W'->Cl W' i v->K (mk (upd Y i v)) W')->wpOp P l.toArray Q i K (mk Y) W)
  (rS:∀o Y W cs,l[is]? =some o->Row W p cs ty->cs.size=sz->Cl W ix (Y ix)->∀K:Act->World->Prop,(∀W' v,Wr (λk=>k=p) W W'->Row W' p (boxed (Y ix)) ty->(boxed (Y ix)).size=sz->K (mk (upd Y is v)) W')->wpOp P l.toArray Q is K (mk Y) W)
  (hend:∀Y W,Wr (λk=>k=p) w W->Row W p (boxed (Y ix)) ty->(∀i,i<l.length->i≠is->Cl W i (Y i))->Q .normal (mk Y) W):(Code.region id l.toArray true).wp P Q a w:=by
 refine jZ hm (λL act W=>L.size=l.length/\∃Y,act=mk Y/\XPut w is ix p sz ty boxed Cl L Y W) ?_ ?_ ?_
 ·have hf:∀j,(Array.replicate l.toArray.size false).getD j false=true->False:=λj h=>by
   rcases Nat.lt_or_ge j l.length with hj|hj
   ·simp[Array.getD,hj]at h
   ·simp[Array.getD,Nat.not_lt.2 hj]at h
  obtain⟨cs,hc1,hc2⟩:=yE;exact⟨by simp,Y0,ha,Wr.of_below (aV _ _).drew,λi _ h=>(hf i h).elim,⟨cs,hc1.below (aV w.heap.size w).drew hc1.lt,hc2,λh=>(hf _ h).elim⟩⟩
 ·rintro L act W i hi ⟨hsz,Y,rfl,hJ⟩;obtain⟨hn,o,ho,hall⟩:=mem_ready.1 hi;have ho':l[i]? =some o:=by simpa using ho
  have hb:=hJ.wr;by_cases h2:i=is
  ·subst h2;obtain⟨e2,ZL,Pz,hb2⟩:=hst o ho';have f2:=hall e2 ZL hb2;rw[Pz]at f2;obtain⟨cs,hrow,hcs,_⟩:=hJ.box;refine rS o Y W cs ho' hrow hcs (hJ.cl ix hxs f2) _ (λW' v hw' hr' hbs=>⟨by simp[hsz],_,rfl,hb.trans hw' (λ_ h=>aK h),λj rH g=>?_,?_⟩)
   ·have g':=(bO g).resolve_left rH;rw[upd_ne Y _ rH];exact Bb _ _ _ _ hw' (hJ.cl j rH g')
   ·rw[upd_ne Y _ hxs];exact⟨_,hr',hbs,λ_=>⟨iY f2,rfl⟩⟩
  ·refine hstep i o Y W h2 ho' hb (λe he gX n2=>hJ.cl e.on n2 (hall e he gX)) _ (λv W' hb' hv=>⟨by simp[hsz],_,rfl,hb.trans (eW hb') (λ_ h=>h.elim),λj rH g=>?_,?_⟩)
   ·by_cases oN:j=i
    ·subst oN;rw[fE];exact hv
    ·have g':=(bO g).resolve_left oN;rw[upd_ne Y _ oN];exact hmono _ _ _ _ hb' (hJ.cl j rH g')
   ·obtain⟨cs,hrow,hcs,hw⟩:=hJ.box;refine⟨cs,hrow.below hb' hrow.lt,hcs,λg2=>?_⟩;obtain⟨x1,x2⟩:=hw ((bO g2).resolve_left (Ne.symm h2));have hxi:ix≠i:=λe=>vQ hn (e▸x1);rw[upd_ne Y _ hxi];exact⟨iY x1,x2⟩
 ·rintro L act W hr ⟨hsz,Y,rfl,hJ⟩;have fl:=xS hback hr hsz;obtain⟨cs,hrow,_,hw⟩:=hJ.box;obtain⟨_,rfl⟩:=hw (fl is Q3);exact hend Y W hJ.wr hrow (λi hi n2=>hJ.cl i n2 (fl i hi))
structure XGet (n:Nat) (w:World) (ic is:Nat) (Cl:Nat->Value->Prop) (Post:World->Value->Prop) (Fin:World->Prop) (L:Array Bool) (Y:Nat->Value) (W:World):Prop where
 cl:∀i,i≠ic->i≠is->L.getD i false=true->Cl i (Y i)
 pre:L.getD ic false=false->W=w.drew
 post:L.getD ic false=true->L.getD is false=false->Post W (Y ic)
 fin:L.getD is false=true->Fin W/\∀j,j<n->j≠is->L.getD j false=true
theorem Tt{L:Array Bool}{i:Nat}(hn:L.getD i true=false):L.getD i false=false:=by
 rcases Nat.lt_or_ge i L.size with hj|hj
 ·simp[Array.getD,hj]at hn ⊢;exact hn
 ·simp[Array.getD,Nat.not_lt.2 hj]
theorem Js{P:Program}{id:Nat}{Q:Exit->Act->World->Prop}{a:Act}{w:World}{l:List Oper}(hm:P.follows .mixedOrders=true)(ic is:Nat)(Cl:Nat->Value->Prop)(Post:World->Value->Prop)(Fin:World->Prop)(mk:(Nat->Value)->Act)(Y0:Nat->Value)(ha:a=mk Y0)
  (hback:l.zipIdx.all (λx=>x.1.after.all λe=>!Region.binds .any e||decide (e.on<x.2))=true)
  (Q3:is<l.length)(hne:ic≠is)(GN:ic<is)
  (hall:∀o,l[is]? =some o->∀j,j<l.length->j≠is->∃e∈o.after,e.on=j/\Region.binds .any e=true)
  (hstep:∀i o Y W,i≠ic->i≠is->l[i]? =some o->(W=w.drew\/∃v,Post W v)->(∀e∈o.after,Region.binds .any e=true->e.on≠ic->e.on≠is->Cl e.on (Y e.on))->
   ∀K:Act->World->Prop,(∀v,Cl i v->K (mk (upd Y i v)) W)->wpOp P l.toArray Q i K (mk Y) W)
  (hcall:∀o Y,l[ic]? =some o->(∀e∈o.after,Region.binds .any e=true->e.on≠ic->e.on≠is->Cl e.on (Y e.on))->∀K:Act->World->Prop,(∀v W',Post W' v->K (mk (upd Y ic v)) W')->wpOp P l.toArray Q ic K (mk Y) w.drew)
  (Bb:∀o Y W,l[is]? =some o->Post W (Y ic)->(∀i,i<l.length->i≠ic->i≠is->Cl i (Y i))->∀K:Act->World->Prop,(∀v W',Fin W'->K (mk (upd Y is v)) W')->wpOp P l.toArray Q is K (mk Y) W)
  (hend:∀Y W,Fin W->(∀i,i<l.length->i≠ic->i≠is->Cl i (Y i))->Q .normal (mk Y) W):(Code.region id l.toArray true).wp P Q a w:=by
 refine jZ hm (λL act W=>L.size=l.length/\∃Y,act=mk Y/\XGet l.length w ic is Cl Post Fin L Y W) ?_ ?_ ?_
 ·have hf:∀j,(Array.replicate l.toArray.size false).getD j false=true->False:=λj h=>by
   rcases Nat.lt_or_ge j l.length with hj|hj
   ·simp[Array.getD,hj]at h
   ·simp[Array.getD,Nat.not_lt.2 hj]at h
  exact⟨by simp,Y0,ha,λi _ _ h=>(hf i h).elim,λ_=>rfl,λh=>(hf _ h).elim,λh=>(hf _ h).elim⟩
 ·rintro L act W i hi ⟨hsz,Y,rfl,hJ⟩;obtain⟨hn,o,ho,Ke⟩:=mem_ready.1 hi;have ho':l[i]? =some o:=by simpa using ho
  have hil:i<L.size:=by rw[hsz];exact(List.getElem?_eq_some_iff.1 ho').1
  by_cases h1:i=ic
  ·subst h1;have hW:=hJ.pre (Tt hn);subst hW;refine hcall o Y ho' (λe he gX n1 n2=>hJ.cl e.on n1 n2 (Ke e he gX)) _ (λv W' hp=>⟨by simp[hsz],_,rfl,λj xP rH g=>?_,λg=>?_,λ_ _=>by rw[fE];exact hp,λg=>?_⟩)
   ·rw[upd_ne Y _ xP];exact hJ.cl j xP rH ((bO g).resolve_left xP)
   ·simp[Array.getD,hil]at g
   ·exact(vQ hn ((hJ.fin ((bO g).resolve_left (Ne.symm hne))).2 i (by omega) hne)).elim
  ·by_cases h2:i=is
   ·subst h2;have hd:∀j,j<l.length->j≠i->L.getD j false=true:=λj hj oN=>by
     obtain⟨e,he,hon,hb⟩:=hall o ho' j hj oN;have:=Ke e he hb
     rwa [hon]at this
    have hic:=hd ic (by omega) hne;refine Bb o Y W ho' (hJ.post hic (Tt hn)) (λj hj n1 n2=>hJ.cl j n1 n2 (hd j hj n2)) _ (λv W' hf=>⟨by simp[hsz],_,rfl,λj xP rH g=>?_,λg=>?_,λg g2=>?_,λ_=>⟨hf,λj hj oN=>iY (hd j hj oN)⟩⟩)
    ·rw[upd_ne Y _ rH];exact hJ.cl j xP rH ((bO g).resolve_left rH)
    ·rw[iY hic]at g;cases g
    ·simp[Array.getD,hil]at g2
   ·have hW:W=w.drew\/∃v,Post W v:=by
     cases hc:L.getD ic false with
     |false=>exact aK (hJ.pre hc)
     |true=>
      refine bu ⟨_,hJ.post hc ?_⟩;cases hs:L.getD is false with
      |false=>rfl
      |true=>exact(vQ hn ((hJ.fin hs).2 i (by omega) h2)).elim
    refine hstep i o Y W h1 h2 ho' hW (λe he gX n1 n2=>hJ.cl e.on n1 n2 (Ke e he gX)) _ (λv hv=>⟨by simp[hsz],_,rfl,λj xP rH g=>?_,λg=>?_,λg g2=>?_,λg=>?_⟩)
    ·by_cases oN:j=i
     ·subst oN;rw[fE];exact hv
     ·rw[upd_ne Y _ oN];exact hJ.cl j xP rH ((bO g).resolve_left oN)
    ·exact hJ.pre (by rw[getD_set_ne false h1]at g;exact g)
    ·rw[upd_ne Y _ (Ne.symm h1)];exact hJ.post ((bO g).resolve_left (Ne.symm h1)) (by rw[getD_set_ne false h2]at g2;exact g2)
    ·have:=hJ.fin ((bO g).resolve_left (Ne.symm h2));exact⟨this.1,λj hj oN=>iY (this.2 j hj oN)⟩
 ·rintro L act W hr ⟨hsz,Y,rfl,hJ⟩;have fl:=xS hback hr hsz;exact hend Y W (hJ.fin (fl is Q3)).1 (λi hi n1 n2=>hJ.cl i n1 n2 (fl i hi))
theorem DM(n:Int)(w:World):
  Calls prog 60 #[.int .i64 n] w λe w'=>e= .returned (.bool (j3 n))/\w=w':=by
 have h:n=1\/n=2\/n=4\/n=8\/(n≠1/\n≠2/\n≠4/\n≠8):=by omega
 rcases h with rfl|rfl|rfl|rfl|⟨h1,h2,h3,h4⟩
 all_goals
  go_enter func60,ntmps60;go_wp2;go_ret;exact⟨iB (by simp[j3, *]),rfl⟩
theorem wO{α:Type}{l:List α}{j:Nat}{x:α}(h:l[j]? =some x):l.drop j=x::l.drop (j+1):=by
 have hlt:j<l.length:=by
  rcases Nat.lt_or_ge j l.length with h'|h'
  ·exact h'
  ·rw[List.getElem?_eq_none h']at h;cases h
 rw[List.drop_eq_getElem_cons hlt];rw[List.getElem?_eq_getElem hlt]at h;injection h with h;rw[h]
theorem ou{α:Type}{l:List α}{n:Nat}(h:l.length<=n):l.drop n=[]:=List.drop_eq_nil_of_le h
theorem DN(l:List kH)(A:Option Addr)(n aA:Nat)(most:Int)(B:Nat)(w:World)(hB:B<=w.heap.size)(hl:SliceAt w B 3 (sG w B) l (.slice A n aA)):
  Calls prog 37 #[.slice A n aA,.int .i64 most] w λe w'=>e= .returned (.bool (fR l most))/\Below w.heap.size w w':=by
 obtain⟨yF,hn⟩:=hl.len;have HL:=ae hl;have x9:=ae yF;clear hl yF;go_enter func37,ntmps37;refine aj λQ HQ=>?_;go_wp2_with fail;go_loopw [9] (λi wr=>∃k:Nat,k<=n/\i= .int .i64 k/\pY (l.drop k)=pY l/\Below w.heap.size w wr) (λi _=>n-(intOf i).toNat)
 case atStart=>exact⟨0,by omega,rfl,rfl,aV _ _⟩
 case round=>
  obtain⟨k,hk,rfl,hcs,aJ⟩:=hrel;have Fp:=ae hcs;have cB:=ae aJ;clear hcs;have pS:=aJ.size;by_cases hlt:k<n
  ·obtain⟨b,off,o,rfl,hb,hk1,c0,c1,⟨v,c2,hv⟩,_,_⟩:=(HL.below (aJ.mono hB) (aY _) (λ_ _ h=>h.below (aJ.mono hB) (aY _))).get hlt;simp only[Nat.add_zero]at c0 c1 c2;obtain⟨IA,icap,Q0⟩:∃IA icap,v= .slice IA o.init.length icap:=(by obtain⟨A',c',h,_⟩:=hv;exact⟨_,_,h⟩)
   subst Q0;have hil:=hv.len.2;have HD:=ae (show pY (l.drop k)=(Lq o && pY (l.drop (k+1)))from by rw[wO hk1];rfl);have qP:(k:Int)<(n:Int):=by omega
   have hbl:b<wr.heap.size:=by omega
   have HS:=ae (λW=>DM o.size W);clear hk1 hv aJ;have sV:=ae (show Lq o=false->pY l=false from λh=>by rw[<-Fp.out,HD.out,h];rfl);have QL:=ae (show Lq o=true->pY (l.drop (k+1))=pY l from λh=>by rw[<-Fp.out,HD.out,h];rfl);cases hq1:j3 o.size with
   |false=>
    rw[hq1]at HS;have HE:=ae (show fR l most=false by unfold fR;rw[sV (by unfold Lq;rw[hq1];rfl)];rfl);clear hq1;go_wp2_with fail;refine(HS _).mono ?_;rintro e w' ⟨rfl,rfl⟩;go_wp2_with fail;refine HQ _ _ _ ?_;exact aS (v:= .bool false) (by simp[results,results37,go_sem]) rfl ⟨by rw[HE.out],cB.trans ((ax wr (.cells #[.int .i64 o.size,.int .i64 o.count,.slice IA o.init.length icap] 90)).mono pS)⟩
   |true=>
    rw[hq1]at HS;by_cases h1:o.count<1
    ·have d1:decide (o.count<1)=true:=by simpa using h1
     have HE:=ae (show fR l most=false by unfold fR;rw[sV (by unfold Lq oO;rw[hq1];simp;omega)];rfl);clear hq1 h1;go_wp2_with fail;refine(HS _).mono ?_;rintro e w' ⟨rfl,rfl⟩;go_wp2_with fail;refine HQ _ _ _ ?_;exact aS (v:= .bool false) (by simp[results,results37,go_sem]) rfl ⟨by rw[HE.out],cB.trans ((ax wr (.cells #[.int .i64 o.size,.int .i64 o.count,.slice IA o.init.length icap] 90)).mono pS)⟩
    ·have d1:decide (o.count<1)=false:=by simpa using h1
     by_cases h2:o.count>64
     ·have d2:decide (64<o.count)=true:=by simpa using h2
      have HE:=ae (show fR l most=false by unfold fR;rw[sV (by unfold Lq oO;rw[hq1];simp;omega)];rfl);clear hq1 h1 h2;go_wp2_with fail;refine(HS _).mono ?_;rintro e w' ⟨rfl,rfl⟩;go_wp2_with fail;refine HQ _ _ _ ?_;exact aS (v:= .bool false) (by simp[results,results37,go_sem]) rfl ⟨by rw[HE.out],cB.trans ((ax wr (.cells #[.int .i64 o.size,.int .i64 o.count,.slice IA o.init.length icap] 90)).mono pS)⟩
     ·have d2:decide (64<o.count)=false:=by simpa using h2
      by_cases h3:(o.init.length:Int)>o.count
      ·have d3:decide (o.count<(o.init.length:Int))=true:=by simpa using h3
       have HE:=ae (show fR l most=false by unfold fR;rw[sV (by unfold Lq oO;rw[hq1];simp;omega)];rfl);clear hq1 h1 h2 h3;go_wp2_with fail;refine(HS _).mono ?_;rintro e w' ⟨rfl,rfl⟩;go_wp2_with fail;refine HQ _ _ _ ?_;exact aS (v:= .bool false) (by simp[results,results37,go_sem]) rfl ⟨by rw[HE.out],cB.trans ((ax wr (.cells #[.int .i64 o.size,.int .i64 o.count,.slice IA o.init.length icap] 90)).mono pS)⟩
      ·have d3:decide (o.count<(o.init.length:Int))=false:=by simpa using h3
       have HE:=ae (QL (by unfold Lq oO;rw[hq1];simp;omega));clear hq1 h1 h2 h3;go_wp2_with fail;refine(HS _).mono ?_;rintro e w' ⟨rfl,rfl⟩;go_wp2_with fail;go_roundw
       case rel=>exact⟨k+1,by omega,by go_num,HE.out,cB.trans ((ax wr (.cells #[.int .i64 o.size,.int .i64 o.count,.slice IA o.init.length icap] 90)).mono pS)⟩
       case measure=>simp[intOf];omega
  ·obtain rfl:k=n:=by omega
   have he:pY l=true:=by rw[<-Fp.out,ou (by rw[x9.out];exact aY _)];rfl
   have hl2:fR l most=decide ((k:Int)<=most):=by unfold fR;rw[he,x9.out];rfl
   have HE:=ae hl2;clear he hl2;go_wp2_with fail;refine HQ _ _ _ ?_;exact aS (v:= .bool (decide ((k:Int)<=most))) (by simp[results,results37,go_sem]) rfl ⟨by rw[HE.out],cB.out⟩
def EY(x:kH):Prop:=x.init.length*8<=140737488351232
def Iy(x:bg):Prop:=x.arg.length*8<=140737488351232
def D9(x:aR):Prop:=x.az.length*40<=140737488351232/\(∀y,y∈x.az->EY y)/\x.ins.length*64<=140737488351232/\(∀y,y∈x.ins->Iy y)
def yU(x:bB):Prop:=x.ay.length*40<=140737488351232/\(∀y,y∈x.ay->EY y)/\x.funcs.length*64<=140737488351232/\(∀y,y∈x.funcs->D9 y)
def rN(P:Value×Value×Value×Value)(ah:Int)(s:St)(inv outv aU:Value):Array Value:=
 #[P.1,P.2.1,P.2.2.1,P.2.2.2,inv,.int .i64 ah,.int .i64 s.kind,.int .i64 s.code,outv,.int .i64 s.steps,.int .i64 s.deep,aU,.int .i64 s.calls]
structure bK (w:World) (ai mc:Nat) (own:Nat->Prop) (P:Value×Value×Value×Value) (ah:Int) (s:St) (inv outv aU:Value) (rb:Nat->Nat):Prop where
 row:Row w mc (rN P ah s inv outv aU) 86
 mine:own mc
 rest:Rest w ai own inv outv aU rb s
def bG(w:World)(ai mc:Nat)(own:Nat->Prop)(P:Value×Value×Value×Value)(ah:Int)(s:St):Prop:=
 ∃inv outv aU rb,bK w ai mc own P ah s inv outv aU rb
theorem Rest.TX{w w':World}{ai:Nat}{own F:Nat->Prop}{inv outv aU:Value}{rb:Nat->Nat}{s:St}(h:Rest w ai own inv outv aU rb s)(hw:Wr F w w')
  (hF:∀k,F k->ai<=k/\(own k->∃cs,Row w k cs 86))(hb:ai<=w.heap.size):Rest w' ai own inv outv aU rb s:=by
 have hne:∀g cs t,Row w g cs t->own g->t≠86->¬F g:=by
  intro g cs t hr ho ht hf;obtain⟨cs',hr'⟩:=(hF g hf).2 ho;exact hr.ne hr' ht rfl
 refine⟨h.inp.below (λb o hb'=>?_),aF h.out hw (λg hg=>?_),h.sI,?_,h.memo,λk hk=>⟨(h.own k hk).1,fQ (h.own k hk).2 hw.size⟩⟩
 ·exact World.cell?_of_block (a:=⟨b,o,none⟩) (hw.block b (by omega) (λhf=>by have:=(hF b hf).1;omega))
 ·obtain⟨_,cs,hr⟩:=aC h.out hg;exact hne g cs _ hr (h.sI g hg) (by decide)
 ·obtain⟨⟨xs,hx,qO⟩,hm,hi,hk⟩:=h.mem;refine⟨⟨xs,aF hx hw (λg hg=>?_),qO⟩,λk o h1 ho=>?_,hi,hk⟩
  ·obtain⟨_,cs,hr⟩:=aC hx hg;exact hne g cs _ hr (h.memo g hg) (by decide)
  ·obtain⟨ho',cs,hr,hv⟩:=hm k o h1 ho;exact⟨ho',cs,hr.wr hw (hne _ cs _ hr ho' (by decide)),hv⟩
theorem bG.below{w w':World}{ai mc:Nat}{own:Nat->Prop}{P:Value×Value×Value×Value}{ah:Int}{s:St}(h:bG w ai mc own P ah s)(hw:Below w.heap.size w w'):bG w' ai mc own P ah s:=by
 obtain⟨inv,outv,aU,rb,hr,hm,hs⟩:=h;have hb:=(hs.own mc hm)
 exact⟨inv,outv,aU,rb,hr.below hw hr.lt,hm,hs.TX (F:=λ_=>False) (Wr.of_below hw) (λk hk=>hk.elim) (by omega)⟩
theorem bG.wr{w w':World}{ai mc:Nat}{own F:Nat->Prop}{P:Value×Value×Value×Value}{ah:Int}{s:St}(h:bG w ai mc own P ah s)(hw:Wr F w w')(hF:∀k,F k->ai<=k/\¬own k):bG w' ai mc own P ah s:=by
 obtain⟨inv,outv,aU,rb,hr,hm,hs⟩:=h;have hb:=(hs.own mc hm)
 exact⟨inv,outv,aU,rb,hr.wr hw (λhf=>(hF mc hf).2 hm),hm,hs.TX hw (λk hk=>⟨(hF k hk).1,λho=>absurd ho (hF k hk).2⟩) (by omega)⟩
theorem bK.num{w:World}{ai mc:Nat}{own:Nat->Prop}{P:Value×Value×Value×Value}{ah:Int}{s s':St}{inv outv aU:Value}{rb:Nat->Nat}(h:bK w ai mc own P ah s inv outv aU rb)(j:Nat)(v:Value)
  (hj:(rN P ah s inv outv aU).setIfInBounds j v=rN P ah s' inv outv aU)(h1:s'.inp=s.inp)(h2:s'.out=s.out)(h3:s'.mem=s.mem):bK (w.setCell ⟨mc,j,none⟩ v) ai mc own P ah s' inv outv aU rb:=by
 obtain⟨hr,hm,hs⟩:=h;have hb:=(hs.own mc hm)
 have hw:Wr (λk=>k=mc) w (w.setCell ⟨mc,j,none⟩ v):=Wr.setCell w ⟨mc,j,none⟩ v rfl;refine⟨hj▸hr.set j v,hm,(hs.TX hw (λk hk=>?_) (by omega)).same h1 h2 h3⟩;subst hk;exact⟨hb.1,λ_=>⟨_,hr⟩⟩
theorem bK.lt{w:World}{ai mc:Nat}{own:Nat->Prop}{P:Value×Value×Value×Value}{ah:Int}{s:St}{inv outv aU:Value}{rb:Nat->Nat}(h:bK w ai mc own P ah s inv outv aU rb):mc<w.heap.size:=h.row.lt
theorem iy(ai mc:Nat)(own:Nat->Prop)(P:Value×Value×Value×Value)(ah k:Int)(s:St)(w:World)(hm:bG w ai mc own P ah s):
  Calls prog 52 #[.pointer (some ⟨mc,0,none⟩),.int .i64 k] w λe w'=>e= .returned (.bool false)/\bG w' ai mc own P ah (iJ k s)/\Wr (λb=>b=mc) w w':=by
 obtain⟨inv,outv,aU,rb,hm⟩:=hm;have c5:w.cell? ⟨mc,6,none⟩=some (.int .i64 s.kind):=hm.row.cell rfl;have f5:w.frozen? ⟨mc,6,none⟩=false:=hm.row.free 6;unfold iJ;by_cases hk:s.kind=0
 ·rw[if_pos hk];have HM:=ae (bK.num (s':={s with kind:=k}) hm 6 (.int .i64 k) rfl rfl rfl rfl);rw[hk]at c5;clear hm hk;go_enter func52,ntmps52;go_wp2;go_ret;exact⟨rfl,⟨_,_,_,_,HM.out⟩,Wr.setCell w ⟨mc,6,none⟩ _ rfl⟩
 ·rw[if_neg hk];have HM:=ae hm;have hk':(s.kind==0)=false:=by simpa using hk
  clear hm hk;go_enter func52,ntmps52;go_wp2;go_ret;exact⟨rfl,⟨_,_,_,_,HM.out⟩,Wr.refl _ _⟩
theorem bK.drew{w:World}{ai mc:Nat}{own:Nat->Prop}{P:Value×Value×Value×Value}{ah:Int}{s:St}{inv outv aU:Value}{rb:Nat->Nat}(h:bK w ai mc own P ah s inv outv aU rb)(n:Nat):bK (w.drewN n) ai mc own P ah s inv outv aU rb:=by
 have hw:Wr (λ_=>False) w (w.drewN n):=Wr.of_below (below_drewN (aV _ _) n);exact⟨h.row,h.mine,h.rest.TX hw (λk hk=>hk.elim) (by have:=h.rest.own mc h.mine;omega)⟩
theorem tP(ai mc:Nat)(own:Nat->Prop)(P:Value×Value×Value×Value)(ah k:Int)(s:St)(w:World)(hm:bG w ai mc own P ah s)(hs0:0<=s.steps)(hs1:s.steps<=ah)(hf:ah<=1000000000)(hk0:0<=k)(hk1:k<=1000000000):
  Calls prog 53 #[.pointer (some ⟨mc,0,none⟩),.int .i64 k] w λe w'=>e= .returned (.bool (aL ah k s).1)/\bG w' ai mc own P ah (aL ah k s).2/\Wr (λb=>b=mc) w w':=by
 obtain⟨inv,outv,aU,rb,hm⟩:=hm;have c4:w.cell? ⟨mc,5,none⟩=some (.int .i64 ah):=hm.row.cell rfl;have c5:w.cell? ⟨mc,6,none⟩=some (.int .i64 s.kind):=hm.row.cell rfl;have c8:w.cell? ⟨mc,9,none⟩=some (.int .i64 s.steps):=hm.row.cell rfl;have f8:w.frozen? ⟨mc,9,none⟩=false:=hm.row.free 9;unfold aL;by_cases hk:s.kind=0
 ·rw[if_pos hk];rw[hk]at c5;by_cases hn:ah-s.steps<k
  ·rw[if_pos hn];have hn':decide (ah-s.steps<k)=true:=by simpa using hn
   have HM:=ae (λnq=>bK.num (s':={s with steps:=ah}) (hm.drew nq) 9 (.int .i64 ah) rfl rfl rfl rfl);have HS:=ae (λW hM=>iy ai mc own P ah 2 {s with steps:=ah} W ⟨inv,outv,aU,rb,hM⟩);have hk':=ae hk;clear hm hn hk;go_enter func53,ntmps53;go_wp2_with fail;go_quiet (fail);go_wp2_with(go_at_call 52;refine(HS _ (HM _)).mono ?_;rintro e w' ⟨rfl,hM',hW'⟩);go_ret;refine⟨rfl,?_,?_⟩
   ·simpa [iJ,hk'.out]using hM'
   ·exact((Fs _ w _).trans (Wr.cell1 _ mc 9 _) (λi hi=>aK hi)).trans hW' (λi hi=>aK hi)
  ·rw[if_neg hn];have hn':decide (ah-s.steps<k)=false:=by simpa using hn
   have HM:=ae (λnq=>bK.num (s':={s with steps:=s.steps+k}) (hm.drew nq) 9 (.int .i64 (s.steps+k)) rfl rfl rfl rfl);clear hm hn hk;go_enter func53,ntmps53;go_wp2_with fail;go_quiet (fail);go_wp2_with fail;go_ret;exact⟨rfl,⟨_,_,_,_,HM _⟩,(Fs _ w _).trans (Wr.cell1 _ mc 9 _) (λi hi=>aK hi)⟩
 ·rw[if_neg hk];have HM:=ae hm;have hk':(s.kind !=0)=true:=by simpa using hk
  clear hm hk;go_enter func53,ntmps53;go_wp2;go_ret;exact⟨rfl,⟨_,_,_,_,HM.out⟩,Wr.refl _ _⟩
theorem Au(pb po:Nat)(s:Nat)(a x:V)(pp:Value)(okb:Bool)(w:World)
  (hat:∀W,Below w.heap.size w W->Calls prog 91 #[.pointer (some ⟨pb,po,none⟩),.agg #[.int .i64 a.obj,.int .i64 a.n],.int .i64 s] W λe w'=>e= .returned (.tuple #[pp,.bool okb])/\Below W.heap.size W w')
  (hno:okb=false\/(0<x.obj/\s≠8)):
  Calls prog 69 #[.pointer (some ⟨pb,po,none⟩),.int .i64 s,.agg #[.int .i64 a.obj,.int .i64 a.n],.agg #[.int .i64 x.obj,.int .i64 x.n]] w λe w'=>e= .returned (.bool false)/\Below w.heap.size w w':=by
 have uw:=ae hat;have cS:=ae (Row.new' (w:=w.alloc (.cells #[.int .i64 a.obj,.int .i64 a.n] 75)) (g:=w.heap.size+1) #[.int .i64 x.obj,.int .i64 x.n] 75 (by simp));clear hat;cases okb with
 |false=>
  clear hno;go_enter func69,ntmps69;refine aj λQ HQ=>?_;go_wp2_with fail;refine(uw _ (aB w _ _)).mono ?_;rintro e w1 ⟨rfl,hb1⟩;have bQ:=ae ((aB w _ _).trans (hb1.mono (aB w _ _).size));clear hb1;go_wp2_with fail;refine HQ _ _ _ ?_;exact aS (v:= .bool false) (by simp[results,results69,go_sem]) rfl ⟨rfl,bQ.out⟩
 |true=>
  have hx:0<x.obj/\s≠8:=by rcases hno with h|h;cases h;exact h
  have d1:decide (0<x.obj)=true:=by simpa using hx.1
  have d1':decide ((0:Int)<(x.obj:Int))=true:=by simpa using hx.1
  have d2:((s:Int) !=8)=true:=by simp;omega
  clear hno hx;go_enter func69,ntmps69;refine aj λQ HQ=>?_;go_wp2_with fail;refine(uw _ (aB w _ _)).mono ?_;rintro e w1 ⟨rfl,hb1⟩;have bQ:=ae ((aB w _ _).trans (hb1.mono (aB w _ _).size));have kJ:=cS.below hb1 cS.lt;have x0:=kJ.cell (j:=0) rfl;have xl:=kJ.lt;clear hb1 kJ;go_wp2_with fail;refine HQ _ _ _ ?_;exact aS (v:= .bool false) (by simp[results,results69,go_sem]) rfl ⟨rfl,bQ.out⟩
def rM(s:Nat)(x:V):V:=if x.obj=0 then⟨0,eA s x.n⟩else x
theorem Jm(pb po ob j:Nat)(s:Nat)(a x:V)(cs:Array Value)(w:World)(hs:s=1\/s=2\/s=4\/s=8)
  (hat:∀W,Below w.heap.size w W->Calls prog 91 #[.pointer (some ⟨pb,po,none⟩),.agg #[.int .i64 a.obj,.int .i64 a.n],.int .i64 s] W λe w'=>e= .returned (.tuple #[.pointer (some ⟨ob,j*2,none⟩),.bool true])/\Below W.heap.size W w')
  (J7:¬(0<x.obj/\s≠8))(hr:Row w ob cs 75)(hj:j*2+1<cs.size):
  Calls prog 69 #[.pointer (some ⟨pb,po,none⟩),.int .i64 s,.agg #[.int .i64 a.obj,.int .i64 a.n],.agg #[.int .i64 x.obj,.int .i64 x.n]] w λe w'=>e= .returned (.bool true)/\Wr (λk=>k=ob) w w'/\Row w' ob ((cs.setIfInBounds (j*2) (.int .i64 (rM s x).obj)).setIfInBounds (j*2+1) (.int .i64 (rM s x).n)) 75:=by
 have uw:=ae hat;have HS:=ae (λW=>uF s x.n W hs);have cS:=ae (Row.new' (w:=w.alloc (.cells #[.int .i64 a.obj,.int .i64 a.n] 75)) (g:=w.heap.size+1) #[.int .i64 x.obj,.int .i64 x.n] 75 (by simp));have HR:=ae hr;have hrl:=hr.lt;have HJ:=ae hj;clear hat hr hj;obtain⟨xo,xn⟩:=x;simp only at J7 HS cS ⊢;have key:∀(w1:World)(hb1:Below (w.heap.size+2) ((w.alloc (.cells #[.int .i64 a.obj,.int .i64 a.n] 75)).alloc (.cells #[.int .i64 xo,.int .i64 xn] 75)) w1),Row w1 ob cs 75/\Row w1 (w.heap.size+1) #[.int .i64 xo,.int .i64 xn] 75/\Below w.heap.size w w1:=λw1 hb1=>
  ⟨((HR.alloc _).alloc _).below hb1 (by omega),cS.below hb1 (by omega),(aB w _ _).trans (hb1.mono (by omega))⟩
 have KEY:=ae key;clear key;by_cases h0:xo=0
 ·subst h0;clear J7;go_enter func69,ntmps69;refine aj λQ HQ=>?_;go_wp2_with fail;refine(uw _ (aB w _ _)).mono ?_;rintro e w1 ⟨rfl,hb1⟩;obtain⟨hr1,kJ,aJ⟩:=KEY.out w1 (hb1.mono (by simp));have oY:=ae hr1;have HBX1:=ae kJ;have cB:=ae aJ;have x0:=kJ.cell (j:=0) rfl;have x1:=kJ.cell (j:=1) rfl;have xf:=kJ.free 1;have xl:=kJ.lt;obtain⟨u0,y0⟩:∃u,w1.cell? ⟨ob,j*2,none⟩=some u:=⟨_,hr1.cell (Array.getElem?_eq_getElem (by have:=HJ.out;omega))⟩
  obtain⟨u1,y1⟩:∃u,w1.cell? ⟨ob,j*2+1,none⟩=some u:=⟨_,hr1.cell (Array.getElem?_eq_getElem HJ.out)⟩
  have yf0:=hr1.free (j*2);have yf1:=hr1.free (j*2+1);have yl:=hr1.lt;have hne:¬ob=w.heap.size+1:=by omega
  have CY:¬w.heap.size+1=ob:=by omega
  clear hb1 hr1 kJ aJ;go_wp2_with(go_at_call 51;refine(HS _).mono ?_;rintro e w' ⟨rfl,rfl⟩);refine HQ _ _ _ ?_;refine aS (v:= .bool true) (by simp[results,results69,go_sem]) rfl ⟨rfl,?_,?_⟩
  ·exact(((Wr.of_below cB.out).trans (Wr.cell1 w1 (w.heap.size+1) 1 (.int .i64 (eA s xn))) (λi hi=>bu (by omega))).trans (Wr.cell1 _ ob (j*2) _) (λi hi=>aK hi)).trans (Wr.cell1 _ ob (j*2+1) _) (λi hi=>aK hi)
  ·have e:rM s ⟨0,xn⟩=⟨0,eA s xn⟩:=by unfold rM;rw[if_pos rfl]
   rw[e];exact((oY.wr (Wr.cell1 w1 (w.heap.size+1) 1 (.int .i64 (eA s xn))) hne).set (j*2) _).set (j*2+1) _
 ·have hp:0<xo:=by omega
  obtain rfl:s=8:=by
   rcases Nat.decEq s 8 with h|h
   ·exact absurd ⟨hp,h⟩ J7
   ·exact h
  have d1:decide (0<xo)=true:=by simpa using hp
  have d1':decide ((0:Int)<(xo:Int))=true:=by simpa using hp
  have d3:((xo:Int)==0)=false:=by simp;omega
  clear J7;go_enter func69,ntmps69;refine aj λQ HQ=>?_;go_wp2_with fail;refine(uw _ (aB w _ _)).mono ?_;rintro e w1 ⟨rfl,hb1⟩;obtain⟨hr1,kJ,aJ⟩:=KEY.out w1 (hb1.mono (by simp));have oY:=ae hr1;have HBX1:=ae kJ;have cB:=ae aJ;have x0:=kJ.cell (j:=0) rfl;have x1:=kJ.cell (j:=1) rfl;have xl:=kJ.lt;obtain⟨u0,y0⟩:∃u,w1.cell? ⟨ob,j*2,none⟩=some u:=⟨_,hr1.cell (Array.getElem?_eq_getElem (by have:=HJ.out;omega))⟩
  obtain⟨u1,y1⟩:∃u,w1.cell? ⟨ob,j*2+1,none⟩=some u:=⟨_,hr1.cell (Array.getElem?_eq_getElem HJ.out)⟩
  have yf0:=hr1.free (j*2);have yf1:=hr1.free (j*2+1);have yl:=hr1.lt;clear hb1 hr1 kJ aJ;go_wp2_with fail;refine HQ _ _ _ ?_;refine aS (v:= .bool true) (by simp[results,results69,go_sem]) rfl ⟨rfl,?_,?_⟩
  ·exact((Wr.of_below cB.out).trans (Wr.cell1 w1 ob (j*2) _) (λi hi=>aK hi)).trans (Wr.cell1 _ ob (j*2+1) _) (λi hi=>aK hi)
  ·have e:rM 8 ⟨xo,xn⟩=⟨xo,xn⟩:=by unfold rM;rw[if_neg h0]
   rw[e];exact(oY.set (j*2) _).set (j*2+1) _
end Go.Proofs.YtinmgbodgecoeaaGreat
